/- Helpers. No condition. -/
import Derived.Test.YtmafiplddapokaaGreatRows
import Derived.Test.YtmafiplddapokaaGreatS00
import Derived.Test.YtmafiplddapokaaGreatS04
import Derived.Test.YtmafiplddapokaaGreatS17
import Derived.Test.YtmafiplddapokaaGreatS18
import Derived.JoinedOf
set_option maxRecDepth 20000
set_option linter.all false
namespace Go.Proofs.YtmafiplddapokaaGreat
open Go Go.RowKit
def Fv.armed (F:Fv) (c:Nat) (kp:Int):Fv:={F with S:=F.S.armed c kp}
theorem b3M {W:List (Int×En)} {L:List En} (hnd:(L.map (·.lpn)).Nodup) {n:Nat} (hn:n<=L.length) (i:Int):cur (a0C W L n) [] i=cur W [] i\/cur (a0C W L n) [] i=cur W L i:=by
 obtain⟨w1,w2⟩:=a0p (W:=W) (l:=L) n (a3W hnd hn)
 by_cases hex:∃j,j<n/\(L.getD j En.zero).lpn=i
 ·obtain⟨j,hj,rfl⟩:=hex;right;have hf:=a9B hnd (U4 (show j<L.length by omega));unfold cur;rw[hf,List.find?_nil];dsimp only;rw[w1 j hj]
 ·left;unfold cur;rw[List.find?_nil];dsimp only;rw[w2 i λj hj e=>hex ⟨j,hj,e⟩]
structure Off (N0:Nand) (K:Int->List UInt8->Prop) (lg k m:Nat) (nx:Int) (Z:Fv):Prop where
 ex:∃W X,X.length<=N0.dies-1/\(∀i e,Tb.look W i=some e->e.role≠4)/\Lf N0 W lg X (4*N0.pages) k m nx Z.S.N/\∀i,K i (cur W [] i)
theorem Off.mono {N0 N1:Nand} {K K':Int->List UInt8->Prop} {lg k k' m:Nat} {nx nx':Int} {Z:Fv} (h:Off N0 K lg k m nx Z) (hN:N1.Like N0/\N0.dead=N1.dead/\N0.broken=N1.broken) (hK:∀i d,K i d->K' i d) (hk:k'<=k) (hnx:nx<=nx'):Off N1 K' lg k' m nx' Z:=by
 obtain⟨W,X,x1,x2,x3,x4⟩:=h.ex;exact⟨W,X,by rw[<- hN.1.dies];exact x1,x2,x3.mono hN (λ_ h=>h) (by rw[hN.1.pages];exact j3 _) hk hnx,λi=>hK i _ (x4 i)⟩
namespace Fq
variable {W : List (Int × En)} {lg k m : Nat} {F : Fv}
theorem asked (h:Fq W lg F) (c:Nat) (kp:Int):(F.armed c kp).ask=F.armed c kp:=by
 unfold Fv.ask;show({F.armed c kp with off:=F.off||F.S.N.off}:Fv)=_;rw[h.fi.inv.lit.off,h.fi.off];have ho:(F.armed c kp).off=false:=h.fi.off;show({F.armed c kp with off:=false}:Fv)=_;rw[<- ho]
theorem put (h:Fq W lg F) {e:En} (he:FitR e/\e.role≠4/\e.lpn<(lg:Int)):Fq W lg (F.put e)/\∀i,cur W (F.put e).L i=if i=e.lpn then e.data else cur W F.L i:=by
 obtain⟨h1,h2⟩:=h.fi.put he;exact⟨⟨h1,h.cm,h.trn,h.held,h.rows,h.cap⟩,h2⟩
theorem room (h:Fq W lg F) (hO:F.S.Ok (Dv.costM+k) m) (hnx:F.S.next<=1099511627775-30000000):
  ∃V,F.S.room=(V,0)/\Cm W lg V/\Trn [] V/\V.Ok k m/\Kp F.S V/\5*F.S.N.pages<=V.rows/\V.next<=F.S.next+6400/\
   ∀(c:Nat) (kp:Int),(F.S.armed c kp).Ok (Dv.costM+k) m->(∃c',(F.S.armed c kp).room=(V.armed c' kp,0))\/∃Z X',(F.S.armed c kp).room=(Z,(9:Int))/\X'.length<=F.S.N.dies-1/\Lf F.S.N W lg X' (4*F.S.N.pages) k m (F.S.next+6400) Z.N:=by
 have hg:=hO.gd.ok.bd16;have hl2:=h.fi.lg2;have hrows:=h.rows;have h8:8*(F.S.N.pages/2)<=F.S.N.blocks*(F.S.N.pages/2):=J3 _ hg.2.1.1;obtain⟨V,v1,v2,v3,v4,v5,v6,v7,v8⟩:=h.cm.roomFree (4*F.S.N.pages) h.trn hO (by omega) h.cap h.held (by omega) (by omega) (by omega) (by omega);refine⟨V,v1,v2,v3,v4,v5,v6,v7,λc kp hA=>(v8 c kp hA).imp id λ⟨Z,X',z1,z2,_,z4⟩=>⟨Z,X',z1,by simpa using z2,z4⟩⟩
theorem kept {S:Dv} {W':List (Int×En)} {L:List En} (h:Fq W lg F) (hC:Cm W' lg S) (hT:Trn [] S) (hk:Kp F.S S) (hr:5*F.S.N.pages<=S.rows+1) (hw:∀i e,Tb.look W' i=some e->e.role≠4) (hL:L.Sublist F.L) (nx:Int):Fq W' lg ⟨S,L,nx,false⟩:=by
 refine⟨⟨hC.gi.inv,hC.gi.hd,hC.gi.wok,hw,hC.log,?_,h.fi.lg2,λx hx=>h.fi.des x (hL.subset hx),h.fi.nd.sublist (hL.map _),rfl⟩,hC,hT,λb hb=>by rw[show S.t.has b=F.S.t.has b from hk.has b]at hb;rw[show(S.t.at_ b).held=_ from hk.held b hb];exact h.held b hb,?_,?_⟩
 ·have:=h.fi.lgn;unfold Fv.lg at this ⊢;show((lgN S.N.dies S.N.blocks S.N.pages:Nat):Int)=_;rw[hk.like.dies,hk.like.blocks,hk.like.pages];exact this
 ·show 5*S.N.pages<=S.rows+1;rw[hk.like.pages];exact hr
 ·show 2*lg<=(S.N.blocks-5)*(S.N.pages*(S.N.dies-2))+1;rw[hk.like.blocks,hk.like.pages,hk.like.dies];exact h.cap
theorem writesA (h:Fq W lg F) (hO:F.S.Ok (Dv.costM+(8*Dv.fuel+k)) m) (hnx:F.S.next<=1099511627775-30000000) (hl0:F.L.length≠0):
  ∃(F':Fv) (W':List (Int×En)),F.writes=(F',0)/\Fq W' lg F'/\(∀i,cur W' F'.L i=cur W F.L i)/\(∀i,cur W' [] i=cur W [] i\/cur W' [] i=cur W F.L i)/\F'.S.Ok k m/\F'.S.next<=F.S.next+7000/\Kp F.S F'.S/\F'.L.length<F.L.length/\
   ∀(c:Nat) (kp:Int),(F.S.armed c kp).Ok (Dv.costM+(8*Dv.fuel+k)) m->(∃c',(F.armed c kp).writes=(F'.armed c' kp,0))\/∃Z,(F.armed c kp).writes=(Z,(9:Int))/\Off F.S.N (λi d=>d=cur W [] i\/d=cur W F.L i) lg k m (F.S.next+400000) Z:=by
 have hg:=hO.gd.ok.bd16;have hE:Ent lg F.L:=⟨λe he=>⟨(h.fi.des e he).1,(h.fi.des e he).2.2⟩,h.fi.nd⟩;obtain⟨V,v1,v2,v3,v4,v5,v6,v7,v8⟩:=h.room (k:=8*Dv.fuel+k) hO hnx;obtain⟨U,n,p0,p1,p2,p3,p4,p5,p6,p7,_,_,_,_,_,p13⟩:=v2.pen0 (l:=F.L) v3 v4 (by omega) hE hl0 (by omega);have hd:=v5.like.dies;have hn:1<=n/\n<=F.L.length:=by omega
 have hwo:=λn hn=>b3c h.fi.wok h.fi.wr (λe he=>⟨(h.fi.des e he).1,(h.fi.des e he).2.1⟩) n hn;have hk:=v5.trans p6;have hwr:F.writes=(⟨U,F.L.drop n,F.nx,false⟩,0):=by
  unfold Fv.writes;rw[v1];dsimp only;rw[d4 (by decide),p1];dsimp only;rw[i9,a9G h.fi.nd];unfold Fv.told;dsimp only;rw[h.fi.off];rfl
 refine⟨_,a0C W F.L n,hwr,h.kept p2 (p3 [] λi hi=> .inl hi) hk (by omega) (hwo n hn.2).2 (List.drop_sublist _ _) _,b7T h.fi.nd n hn.2,λi=>b3M h.fi.nd hn.2 i,p4,?_,hk,?_,λc kp hA=>?_⟩
 ·show U.next<=_;omega
 ·show(F.L.drop n).length<_;rw[B4];omega
 ·have hkA:=Dv.room_keep hA;have hwA:(F.armed c kp).writes=(let r:=(F.S.armed c kp).room;if r.2≠0 then({F with S:=r.1}.told r.2,r.2)else(let w:=r.1.pen F.L;({F with S:=w.1,L:=a0m F.L (F.L.take w.2.1.toNat)}.told w.2.2,w.2.2))):=rfl;rw[hwA];rcases v8 c kp hA with⟨c1,hc⟩ | ⟨Z,X',z1,z2,z4⟩
  ·rw[hc]at hkA ⊢;dsimp only at hkA ⊢;rw[d4 (show¬(0:Int)≠0 by simp)];rcases p13 c1 kp hkA.1 with⟨c2,hc2⟩ | ⟨Z,p,z1,z2,z4⟩
   ·left;rw[hc2];dsimp only;refine⟨c2,?_⟩;rw[i9,a9G h.fi.nd];unfold Fv.told;dsimp only;rw[h.fi.off];rfl
   ·right;rw[z1];dsimp only;have hL:=z4 ((F.L.take p).map (·.lpn)) (λi hi=>by cases hi) (λj hj=>by
     refine List.mem_map.2 ⟨F.L.getD j En.zero,?_,rfl⟩;rw[List.mem_take_iff_getElem];exact⟨j,by omega,by rw[d6,c9 (by omega),i7]⟩)
    have hp:p<=F.L.length:=by omega
    refine⟨_,rfl,a0C W F.L p,_,?_,(hwo p hp).2,hL.kp v5 (λ_ h=>h) (by omega) (j3 _) (by omega),λi=>b3M h.fi.nd hp i⟩;rw[l5,j7];omega
  ·right;rw[z1];dsimp only;rw[d7 (show(9:Int)≠0 by decide)];refine⟨_,rfl,W,X',z2,h.fi.wr,z4.mono ⟨Nand.Like.refl _,rfl,rfl⟩ (λ_ h=>h) (j3 _) (by omega) (by omega),λi=> .inl rfl⟩
theorem waitsA (h:Fq W lg F) (hO:F.S.Ok (Dv.costM+(8*Dv.fuel+k)) m) (hnx:F.S.next<=1099511627775-30000000) {e:En} (he:FitR e/\e.role≠4/\e.lpn<(lg:Int)):
  ∃(F':Fv) (W':List (Int×En)),F.waits e=(F',0)/\Fq W' lg F'/\(∀i,cur W' F'.L i=if i=e.lpn then e.data else cur W F.L i)/\(∀i,cur W' [] i=cur W [] i\/cur W' [] i=cur W F.L i)/\F'.S.Ok k m/\F'.S.next<=F.S.next+7000/\Kp F.S F'.S/\
   ∀(c:Nat) (kp:Int),(F.S.armed c kp).Ok (Dv.costM+(8*Dv.fuel+k)) m->(∃c',(F.armed c kp).waits e=(F'.armed c' kp,0))\/∃Z,(F.armed c kp).waits e=(Z,(9:Int))/\Off F.S.N (λi d=>d=cur W [] i\/d=cur W F.L i) lg k m (F.S.next+400000) Z:=by
 have hlp:=he.1.lpn;have hwA:∀c kp,(F.armed c kp).waits e=if(F.L.length:Int)>=F.S.slots then(let w:=(F.armed c kp).writes;if w.2≠0 then w else(w.1.put e,0))else((F.armed c kp).put e,0):=λc kp=>by
  unfold Fv.waits;rw[h.asked];have ho:(F.armed c kp).off=false:=h.fi.off;have hl:(F.armed c kp).lg=(lg:Int):=h.fi.lgn;rw[ho,d4 l6,hl,d4 (by omega)];rfl
 unfold Fv.waits;rw[h.fi.ask,h.fi.off,d4 l6,h.fi.lgn,d4 (by omega)]
 by_cases hs:(F.L.length:Int)>=F.S.slots
 ·rw[d7 hs];have h1:=(h.fi.inv.slots_pos hO (by have:=h.rows;have:=hO.gd.ok.bd16;omega)).2;obtain⟨G,W',w1,w2,w3,w4,w5,w6,w7,w10,w11⟩:=h.writesA hO hnx (by omega);rw[w1];dsimp only;rw[d4 (by decide)];obtain⟨p1,p2⟩:=w2.put he;refine⟨_,W',rfl,p1,λi=>by rw[p2,w3],w4,w5,w6,w7,λc kp hA=>?_⟩;have:=hwA c kp;unfold Fv.waits at this;rw[this,d7 hs];rcases w11 c kp hA with⟨c',hc⟩ | ⟨Z,z1,z2⟩
  ·rw[hc];dsimp only;rw[d4 (by decide)];exact .inl ⟨c',rfl⟩
  ·rw[z1];dsimp only;rw[d7 (by decide)];exact .inr ⟨Z,rfl,z2⟩
 ·rw[d4 hs];obtain⟨p1,p2⟩:=h.put he;refine⟨_,W,rfl,p1,p2,λi=> .inl rfl,hO.less (by omega),by show F.S.next<=_;omega,Kp.refl _,λc kp hA=>?_⟩;have:=hwA c kp;unfold Fv.waits at this;rw[this,d4 hs];exact .inl ⟨c,rfl⟩
theorem flush_goA:∀(f:Nat) (F:Fv) (W:List (Int×En)) (k:Nat),Fq W lg F->F.S.Ok (FI.costW*f+k) m->F.L.length<=f->F.S.next+7000*(f:Int)<=1099511627775-30000000->
  ∃(F':Fv) (W':List (Int×En)),Fv.flushGo f F=(F',0)/\Fq W' lg F'/\F'.S.Ok k m/\F'.S.next<=F.S.next+7000*(f:Int)/\Kp F.S F'.S/\F'.L=[]/\(∀i,cur W' F'.L i=cur W F.L i)/\
   ∀(c:Nat) (kp:Int),(F.S.armed c kp).Ok (FI.costW*f+k) m->(∃c',Fv.flushGo f (F.armed c kp)=(F'.armed c' kp,0))\/∃Z,Fv.flushGo f (F.armed c kp)=(Z,(9:Int))/\Off F.S.N (λi d=>d=cur W [] i\/d=cur W F.L i) lg k m (F.S.next+7000*(f:Int)+400000) Z
 | 0,F,W,k,h,hO,hL,_=>⟨F,W,rfl,h,hO.less (by omega),by omega,Kp.refl _,m6 (by omega),λ_=>rfl,λc kp _=> .inl ⟨c,rfl⟩⟩
 | f+1,F,W,k,h,hO,hL,hnx=>by
  rw[Fv.flushGo]
  by_cases hl0:F.L.length=0
  ·rw[d7 hl0];refine⟨F,W,rfl,h,hO.less (by omega),by omega,Kp.refl _,m6 hl0,λ_=>rfl,λc kp _=> .inl ⟨c,?_⟩⟩;rw[Fv.flushGo,d7 (show(F.armed c kp).L.length=0 from hl0)]
  ·rw[d4 hl0];rw[H0]at hO;have hcw:FI.costW=Dv.costM+8*Dv.fuel:=rfl;obtain⟨G,W',w1,w2,w3,w4,w5,w6,w7,w10,w11⟩:=h.writesA (k:=FI.costW*f+k) (hO.less (by omega)) (by omega) hl0;rw[w1];dsimp only;rw[d4 (by decide)];obtain⟨F',W2,r1,r2,r3,r4,r5,r8,r9,r10⟩:=flush_goA f G W' k w2 w5 (by omega) (by omega);refine⟨F',W2,r1,r2,r3,by omega,w7.trans r5,r8,λi=>(r9 i).trans (w3 i),λc kp hA=>?_⟩;rw[H0]at hA;have hA1:(F.S.armed c kp).Ok (Dv.costM+(8*Dv.fuel+(FI.costW*f+k))) m:=hA.less (by omega);rw[Fv.flushGo,d4 (show¬(F.armed c kp).L.length=0 from hl0)];have hkw:(F.armed c kp).writes.2=0->(F.armed c kp).writes.1.S.Ok (FI.costW*f+k) m:=λe=>by
    have hr:=Dv.room_keep hA1;unfold Fv.writes at e ⊢;dsimp only at e ⊢;split
    ·exact hr.1.less (by omega)
    ·exact(Dv.pen_keep hr.1 (λe he=>(h.fi.des e he).1.len)).1
   rcases w11 c kp hA1 with⟨c',hc⟩ | ⟨Z,z1,z2⟩
   ·rw[hc]at hkw ⊢;dsimp only at hkw ⊢;rw[d4 (by decide)];rcases r10 c' kp (hkw rfl)with r | ⟨Z,z1,z2⟩
    ·exact .inl r
    ·refine .inr ⟨Z,z1,z2.mono ⟨w7.like,w7.dead,w7.broken⟩ (λi d hd=>?_) (j3 _) (by omega)⟩;rcases hd with rfl | rfl
     ·exact w4 i
     ·exact .inr (w3 i)
   ·rw[z1];dsimp only;rw[d7 (by decide)];exact .inr ⟨Z,rfl,z2.mono ⟨Nand.Like.refl _,rfl,rfl⟩ (λ_ _ h=>h) (by omega) (by omega)⟩
theorem flushA (h:Fq W lg F) (hO:F.S.Ok (FI.costW*200+k) m) (hnx:F.S.next<=1099511627775-50000000):
  ∃(F':Fv) (W':List (Int×En)),F.flush=(F',0)/\Fq W' lg F'/\F'.S.Ok k m/\F'.S.next<=F.S.next+1400000/\Kp F.S F'.S/\F'.L=[]/\(∀i,cur W' F'.L i=cur W F.L i)/\
   ∀(c:Nat) (kp:Int),(F.S.armed c kp).Ok (FI.costW*200+k) m->(∃c',(F.armed c kp).flush=(F'.armed c' kp,0))\/∃Z,(F.armed c kp).flush=(Z,(9:Int))/\Off F.S.N (λi d=>d=cur W [] i\/d=cur W F.L i) lg k m (F.S.next+1800000) Z:=by
 have hwA:∀c kp,(F.armed c kp).flush=Fv.flushGo F.L.length (F.armed c kp):=λc kp=>by
  unfold Fv.flush;rw[h.asked];have ho:(F.armed c kp).off=false:=h.fi.off;rw[ho,d4 l6];rfl
 have hl:=h.fi.len;have h2:=h.fi.lg2;have hm:FI.costW*F.L.length<=FI.costW*200:=A7 _ (by omega);obtain⟨F',W',r1,r2,r3,r4,r5,r8,r9,r10⟩:=flush_goA F.L.length F W k h (hO.less (by omega)) (j3 _) (by omega);refine⟨F',W',?_,r2,r3,by omega,r5,r8,r9,λc kp hA=>?_⟩
 ·unfold Fv.flush;rw[h.fi.ask,h.fi.off,d4 l6];exact r1
 ·rw[hwA];rcases r10 c kp (hA.less (by omega))with r | ⟨Z,z1,z2⟩
  ·exact .inl r
  ·exact .inr ⟨Z,z1,z2.mono ⟨Nand.Like.refl _,rfl,rfl⟩ (λ_ _ h=>h) (j3 _) (by omega)⟩
end Fq
theorem Fq.left {W:List (Int×En)} {lg k k' m:Nat} {F:Fv} {N':Nand} (h:Fq W lg F) (hO:F.S.Ok k m) (hgd:N'.Gd k' m) (off:N'.off=true) (like:F.S.N.Like N') (dead:N'.dead=F.S.N.dead) (plan:N'.plan=F.S.N.plan) (broken:N'.broken=F.S.N.broken) (blk:N'.blk=F.S.N.blk):Lf F.S.N W lg [] (4*F.S.N.pages) k' m F.S.next N':=by
 have hg:=hO.gd.ok.bd16;have hC:=h.cm;have hlkO:F.S.N.Like N'.onN:=⟨like.dies,like.blocks,like.pages⟩;have hpg:∀d b r:Int,N'.onN.pageAt d b r=F.S.N.pageAt d b r:=λd b r=>by
  show(N'.blk d.toNat b.toNat).cells[r.toNat]? =_;rw[blk];rfl
 have hrb:=hC.gi.inv.rows_bl;have hrows:=h.rows;refine⟨off,like,dead,broken,{F.S with N:=N'.onN,op:= -1},rfl,⟨hC.gi.cut hlkO ⟨rfl,rfl⟩ dead (λa ha=>?_) (λi j=>?_) (λb hb hu d=>?_) (λd b r c' hc'=> .inr ⟨c',by rw[<- hpg];exact hc',λ_ h=>h,λh=>h⟩) λi a ha=> .inl λd=>hpg _ _ _,⟨λi=>?_,?_,λi j=>?_,λi j=>?_⟩,hC.log⟩,h.trn.moved hC.gi.inv rfl (.inr rfl) hlkO hC.gi.inv.lit.off.symm dead λ_ _ _ d r=>hpg _ _ _,⟨Nand.Gd.on hgd,hO.t.like hlkO,hO.T,hO.sl,hO.row,hO.next⟩,rfl,?_,M8 _⟩
 ·have ha:a∈N'.plan:=ha;rw[plan]at ha;exact ha
 ·show(N'.blk i j).met=_/\(N'.blk i j).fails=_;rw[blk];exact⟨rfl,rfl⟩
 ·show(N'.blk d b.toNat).cells=_;rw[blk]
 ·show N'.dead.getD i false=false;rw[dead];exact hC.no.dead i
 ·show N'.plan=[];rw[plan];exact hC.no.plan
 ·show(N'.blk i j).met=false;rw[blk];exact hC.no.met i j
 ·show(N'.blk i j).fails=false;rw[blk];exact hC.no.fl i j
 ·show 4*F.S.N.pages<=N'.pages*F.S.t.blanks+N'.pages;rw[like.pages];omega
theorem Lf.mountF {N0 N':Nand} {W:List (Int×En)} {lg k m:Nat} {X:List Int} {nx:Int} (h:Lf N0 W lg X (4*N0.pages) (Dv.costK+k) m nx N') (hlg:lgN N0.dies N0.blocks N0.pages=lg) (hwr:∀i e,Tb.look W i=some e->e.role≠4) (hcap:2*lg<=(N0.blocks-5)*(N0.pages*(N0.dies-2))+1) (hX:X.length<=N0.dies-1) (hnx:nx<=1099511627775-60000000):
  ∃V W',M9 N'.onN=(V,0)/\Fq W' lg (Fv.of V)/\(∀i,cur W' [] i=cur W [] i)/\V.Ok k m/\V.next<=nx+4000000/\V.N.broken=N0.broken/\N0.Like V.N:=by
 obtain⟨S,s1,s2,s3,s4,_,s6,s7⟩:=h.ex;have hlk:N0.Like S.N:=by rw[s1];exact⟨h.like.dies,h.like.blocks,h.like.pages⟩
 have hb:S.N.broken=N0.broken:=by rw[s1];exact h.broken
 rw[<- hlk.pages]at s6;obtain⟨V,W',v1,v2,v3,v4,v5,_,v7,v8⟩:=s2.mountR s3 s4 (by rw[hlk.dies,hlk.blocks,hlk.pages];exact hlg) hwr (by rw[hlk.dies,hlk.blocks,hlk.pages];exact hcap) (by rw[hlk.dies];exact hX) (by omega) (by omega);rw[<- s1];exact⟨V,W',v1,v2,v3,v4,by omega,v7.trans hb,hlk.trans v8⟩
theorem Fq.new {D B P:Nat} (hD:3<=D/\D<=6) (hB:8<=B/\B<=16) (hP:2<=P/\P<=8) (hlg:lgN D B P<=200) (hcap:2*lgN D B P<=(B-5)*(P*(D-2))+1):Fq [] (lgN D B P) (Fv.of (Dv.new D B P (lgN D B P))):=by
 have hF:=FI.new (-2) hD hB hP hlg;refine⟨hF,⟨GI.new _ _ _ _ _,NoF.new _ _ _ _,hF.log⟩,⟨λi a ha=>(by cases ha)⟩,λb _=>?_,?_,hcap⟩
 ·show((Tl.new D B P).at_ b).held=false;rw[b2V];rfl
 ·show 5*P<=(Dv.new D B P (lgN D B P)).rows+1;rw[b4l];have:P*8<=P*B:=A7 _ hB.1;omega
structure DevW (D B P:Nat) (F:Fv) (n:Nat) (c:Nat->List UInt8) (K:Nat->List UInt8->Prop):Prop where
 fc:∃W,Fq W (lgN D B P) F/\(∀i:Nat,i<lgN D B P->cur W F.L i=c i)/\∀i:Nat,i<lgN D B P->K i (cur W [] i)
 ok:F.Ok (UN*n) 0
 nx:F.S.next+8000*(n:Int)<=1099000000000
 br:F.S.N.broken=0
 geo:F.S.N.dies=D/\F.S.N.blocks=B/\F.S.N.pages=P
 le:n<=200000
structure OffD (D B P n:Nat) (K:Nat->List UInt8->Prop) (Z:Fv):Prop where
 ex:∃(N0:Nand) (nx:Int),(N0.dies=D/\N0.blocks=B/\N0.pages=P)/\N0.broken=0/\Off N0 (λi d=>∀j:Nat,i=(j:Int)->j<lgN D B P->K j d) (lgN D B P) (UN*n) 0 nx Z/\nx+8000*(n:Int)<=1099002000000
 cap:2*lgN D B P<=(B-5)*(P*(D-2))+1
 le:n<=200000
structure DevK (D B P n:Nat) (c:Nat->List UInt8) (K:Nat->List UInt8->Prop) (Z:Fv):Prop where
 ok:Z.Ok (UN*n) 0
 kc:∀i:Nat,i<lgN D B P->K i (c i)
 st:(∃F,DevW D B P F n c K/\(Z=F\/∃cc kp,Z=F.armed cc kp))\/OffD D B P n K Z
namespace OffD
variable {D B P n : Nat} {K : Nat → List UInt8 → Prop} {Z : Fv}
theorem off (h:OffD D B P n K Z):Z.S.N.off=true:=by
 obtain⟨N0,nx,_,_,⟨W,X,_,_,h5,_⟩,_⟩:=h.ex;exact h5.off
theorem less (h:OffD D B P n K Z) {k:Nat} (hk:k<=n):OffD D B P k K Z:=by
 obtain⟨N0,nx,h1,h2,h3,h4⟩:=h.ex;exact⟨⟨N0,nx,h1,h2,h3.mono ⟨Nand.Like.refl _,rfl,rfl⟩ (λ_ _ h=>h) (A7 _ hk) (M8 _),by omega⟩,h.cap,by have:=h.le;omega⟩
theorem imp (h:OffD D B P n K Z) {K':Nat->List UInt8->Prop} (hK:∀i d,K i d->K' i d):OffD D B P n K' Z:=by
 obtain⟨N0,nx,h1,h2,h3,h4⟩:=h.ex;exact⟨⟨N0,nx,h1,h2,h3.mono ⟨Nand.Like.refl _,rfl,rfl⟩ (λ_ _ h j e hj=>hK _ _ (h j e hj)) (j3 _) (M8 _),h4⟩,h.cap,h.le⟩
theorem ask (h:OffD D B P n K Z):OffD D B P n K Z.ask:=by
 obtain⟨N0,nx,h1,h2,⟨W,X,x1,x2,x3,x4⟩,h4⟩:=h.ex;exact⟨⟨N0,nx,h1,h2,⟨W,X,x1,x2,x3,x4⟩,h4⟩,h.cap,h.le⟩
theorem asked (h:OffD D B P n K Z):Z.ask.off=true:=by
 show(Z.off||Z.S.N.off)=true;rw[h.off];simp
end OffD
namespace DevW
variable {D B P n : Nat} {K : Nat → List UInt8 → Prop} {F : Fv} {c : Nat → List UInt8}
theorem less (h:DevW D B P F n c K) {k:Nat} (hk:k<=n):DevW D B P F k c K:=
 ⟨h.fc,h.ok.less (A7 _ hk),by have:=h.nx;omega,h.br,h.geo,by have:=h.le;omega⟩
theorem congr (h:DevW D B P F n c K) {c':Nat->List UInt8} (hc:∀i,i<lgN D B P->c i=c' i):DevW D B P F n c' K:=by
 obtain⟨W,hW,h2,h3⟩:=h.fc;exact⟨⟨W,hW,λi hi=>(h2 i hi).trans (hc i hi),h3⟩,h.ok,h.nx,h.br,h.geo,h.le⟩
theorem off (h:DevW D B P F n c K):F.S.N.off=false:=by
 obtain⟨W,hW,_⟩:=h.fc;exact hW.fi.inv.lit.off
theorem lgF (h:DevW D B P F n c K):F.lg=(lgN D B P:Int):=by
 obtain⟨W,hW,_⟩:=h.fc;exact hW.fi.lgn
theorem lg2 (h:DevW D B P F n c K):lgN D B P<=200:=by
 obtain⟨W,hW,_⟩:=h.fc;exact hW.fi.lg2
theorem cap (h:DevW D B P F n c K):2*lgN D B P<=(B-5)*(P*(D-2))+1:=by
 obtain⟨W,hW,_⟩:=h.fc;have:=hW.cap;rw[h.geo.1,h.geo.2.1,h.geo.2.2]at this;exact this
theorem like (h:DevW D B P F n c K) {G:Fv} (hl:F.S.N.Like G.S.N):G.S.N.dies=D/\G.S.N.blocks=B/\G.S.N.pages=P:=
 ⟨hl.dies.trans h.geo.1,hl.blocks.trans h.geo.2.1,hl.pages.trans h.geo.2.2⟩
theorem asked (h:DevW D B P F n c K) (cc:Nat) (kp:Int):F.ask=F/\F.off=false/\(F.armed cc kp).ask=F.armed cc kp:=by
 obtain⟨W,hW,_⟩:=h.fc;exact⟨hW.fi.ask,hW.fi.off,hW.asked cc kp⟩
theorem devk (h:DevW D B P F n c K) (hk:∀i:Nat,i<lgN D B P->K i (c i)):DevK D B P n c K F:=⟨h.ok,hk, .inl ⟨F,h, .inl rfl⟩⟩
theorem read (h:DevW D B P F n c K) {i:Nat} (h1:i<lgN D B P):F.read i=(F,c i,0):=by
 obtain⟨W,hW,hc,_⟩:=h.fc;rw[hW.fi.read,d4 (by omega),hc i h1]
theorem new (hD:3<=D/\D<=6) (hB:8<=B/\B<=16) (hP:2<=P/\P<=8) (hlg:lgN D B P<=200) (hcap:2*lgN D B P<=(B-5)*(P*(D-2))+1) (hgm:O1 D B P=true) (hK:∀i:Nat,i<lgN D B P->K i zeros16):DevW D B P (Fv.of (Dv.new D B P (lgN D B P))) 200000 (λ_=>zeros16) K:=
 ⟨⟨[],Fq.new hD hB hP hlg hcap,λ_ _=>rfl,hK⟩,Fv.of_ok (Dv.Ok.new D B P _ hgm _ b3a) b3a,by show(1:Int)+8000*((200000:Nat):Int)<=_;omega,rfl,⟨rfl,rfl,rfl⟩,j3 _⟩
theorem waits (h:DevW D B P F (n+1) c K) (hkc:∀i:Nat,i<lgN D B P->K i (c i)) {e:En} (hd:e.data.length=16) (h1:0<=e.lpn/\e.lpn<(lgN D B P:Int)) (he:FitR e/\e.role≠4):∃F',F.waits e=(F',0)/\DevW D B P F' n (λj=>if(j:Int)=e.lpn then e.data else c j) K/\
  ∀(cc:Nat) (kp:Int),(F.S.armed cc kp).Ok (UN*(n+1)) 0->(∃c',(F.armed cc kp).waits e=(F'.armed c' kp,0))\/∃Z,(F.armed cc kp).waits e=(Z,(9:Int))/\OffD D B P n K Z:=by
 have hU:UN*(n+1)=UN*n+UN:=H0 _ _;have hU2:=b3S;have hUc:UN=Fv.cW+1:=rfl;have hkF:=(Fv.waits_keep (F:=F) (k:=UN*n) (h.ok.less (by omega)) hd).1;obtain⟨W,hW,hc,hcK⟩:=h.fc;have hnx:=h.nx;have hle:=h.le;obtain⟨F',W',r1,r2,r3,r4,r5,r6,r7,r10⟩:=hW.waitsA (k:=UN*n) (h.ok.dv.less (by omega)) (by omega) (e:=e) ⟨he.1,he.2,by omega⟩;rw[r1]at hkF;refine⟨F',r1,⟨⟨W',r2,λi hi2=>by rw[r3,hc i hi2],λi hi2=>?_⟩,hkF,by omega,r7.broken.trans h.br,h.like r7.like,by omega⟩,λcc kp hA=>?_⟩
 ·rcases r4 i with e1 | e1
  ·rw[e1];exact hcK i hi2
  ·rw[e1,hc i hi2];exact hkc i hi2
 ·refine(r10 cc kp (hA.less (by omega))).imp id λ⟨Z,z1,z2⟩=>⟨Z,z1,⟨F.S.N,_,h.geo,h.br,z2.mono ⟨Nand.Like.refl _,rfl,rfl⟩ (λi d hd j hj hj2=>?_) (j3 _) (M8 _),by omega⟩,h.cap,by omega⟩;subst hj;rcases hd with rfl | rfl
  ·exact hcK j hj2
  ·rw[hc j hj2];exact hkc j hj2
theorem write (h:DevW D B P F (n+1) c K) (hkc:∀i:Nat,i<lgN D B P->K i (c i)) {i:Nat} (hi:i<lgN D B P) {d:List UInt8} (hd:d.length=16):(F.write i d).2=0/\DevW D B P (F.write i d).1 n (λj=>if j=i then d else c j) K:=by
 have hlg:=h.lg2;obtain⟨F',r1,r2,_⟩:=h.waits hkc (e:=⟨i,0,1,d⟩) hd ⟨O7 _,Int.ofNat_lt.2 hi⟩ ⟨⟨⟨O7 _,by show(i:Int)<=65535;omega⟩, .inl rfl,hd⟩,by show(1:Int)≠4;decide⟩;rw[show F.write i d=F.waits ⟨i,0,1,d⟩from rfl,r1];exact⟨rfl,r2.congr λj _=>by
  dsimp only
  by_cases e:j=i
  ·rw[d7 e,d7 (by omega)]
  ·rw[d4 e,d4 (by omega)]⟩
theorem flush (h:DevW D B P F (n+200) c K) (hkc:∀i:Nat,i<lgN D B P->K i (c i)):∃F',F.flush=(F',0)/\DevW D B P F' n c K/\F'.L=[]/\
  ∀(cc:Nat) (kp:Int),(F.S.armed cc kp).Ok (UN*(n+200)) 0->(∃c',(F.armed cc kp).flush=(F'.armed c' kp,0))\/∃Z,(F.armed cc kp).flush=(Z,(9:Int))/\OffD D B P n K Z:=by
 have hU:UN*(n+200)=UN*n+UN*200:=a2n _ _ _;have hf:=a5j;have hf2:=b5o;obtain⟨W,hW,hc,hcK⟩:=h.fc;have hnx:=h.nx;have hle:=h.le;have hkF:=(Fv.flush_keep (k:=UN*n) (m:=0) (h.ok.less (by omega))).1;obtain⟨F',W',r1,r2,r3,r4,r5,r8,r9,r10⟩:=hW.flushA (k:=UN*n) (h.ok.dv.less (by omega)) (by omega);rw[r1]at hkF;refine⟨F',r1,⟨⟨W',r2,λi hi=>(r9 i).trans (hc i hi),λi hi=>?_⟩,hkF,by omega,r5.broken.trans h.br,h.like r5.like,by omega⟩,r8,λcc kp hA=>?_⟩
 ·have:=r9 i;rw[r8,hc i hi]at this;rw[this];exact hkc i hi
 ·refine(r10 cc kp (hA.less (by omega))).imp id λ⟨Z,z1,z2⟩=>⟨Z,z1,⟨F.S.N,_,h.geo,h.br,z2.mono ⟨Nand.Like.refl _,rfl,rfl⟩ (λi d hd j hj hj2=>?_) (j3 _) (M8 _),by omega⟩,h.cap,by omega⟩;subst hj;rcases hd with rfl | rfl
  ·exact hcK j hj2
  ·rw[hc j hj2];exact hkc j hj2
end DevW
namespace DevK
variable {D B P n : Nat} {K : Nat → List UInt8 → Prop} {Z : Fv} {c : Nat → List UInt8}
theorem less (h:DevK D B P n c K Z) {k:Nat} (hk:k<=n):DevK D B P k c K Z:=
 ⟨h.ok.less (A7 _ hk),h.kc,h.st.imp (λ⟨F,h1,h2⟩=>⟨F,h1.less hk,h2⟩) λh=>h.less hk⟩
theorem congr (h:DevK D B P n c K Z) {c':Nat->List UInt8} (hc:∀i,i<lgN D B P->c i=c' i):DevK D B P n c' K Z:=
 ⟨h.ok,λi hi=>by rw[<- hc i hi];exact h.kc i hi,h.st.imp (λ⟨F,h1,h2⟩=>⟨F,h1.congr hc,h2⟩) id⟩
theorem ok_flush (h:DevK D B P (n+200) c K Z):Z.Ok (Fv.cW*200+0) 0:=h.ok.less (by rw[a2n];have:=a5j;omega)
theorem ok_write (h:DevK D B P (n+1) c K Z):Z.Ok (Fv.cW+(1+0)) 0:=h.ok.less (k':=UN) (by rw[H0];omega)
theorem geo (h:DevK D B P n c K Z):Z.S.N.dies=D/\Z.S.N.blocks=B/\Z.S.N.pages=P:=by
 rcases h.st with⟨F,h1,rfl | ⟨cc,kp,rfl⟩⟩ | h1
 ·exact h1.geo
 ·exact h1.geo
 ·obtain⟨N0,nx,⟨e1,e2,e3⟩,_,⟨W,X,_,_,x3,_⟩,_⟩:=h1.ex;exact⟨x3.like.dies.trans e1,x3.like.blocks.trans e2,x3.like.pages.trans e3⟩
theorem lg (h:DevK D B P n c K Z):Z.lg=(lgN D B P:Int):=by
 obtain⟨e1,e2,e3⟩:=h.geo;unfold Fv.lg;rw[e1,e2,e3]
theorem setC (h:DevK D B P n c K Z) (x kk:Int) (h1: -9223372036854775808<=x) (h2:x<=9223372036854775807):(Z.setN (Z.S.N.setCut x kk)).Ok (UN*n) 0:=⟨⟨h.ok.dv.gd.cut x kk h1 h2,h.ok.dv.t.like (by unfold Nand.setCut;split<;>exact⟨rfl,rfl,rfl⟩),h.ok.dv.T,h.ok.dv.sl,h.ok.dv.row,h.ok.dv.next⟩,h.ok.dat,λe he=>by
  have:=h.ok.rng e he;have hlg:(Z.setN (Z.S.N.setCut x kk)).lg=Z.lg:=by
   unfold Fv.lg;show((lgN (Z.S.N.setCut x kk).dies (Z.S.N.setCut x kk).blocks (Z.S.N.setCut x kk).pages:Nat):Int)=_;unfold Nand.setCut;split<;>rfl
  rw[hlg];exact this,h.ok.nd,h.ok.nx⟩
theorem cut (h:DevK D B P n c K Z) (x kk:Int) (hx:0<=x/\x<=9223372036854775807):DevK D B P n c K (Z.setN (Z.S.N.setCut x kk)):=by
 have hok:=h.setC x kk (by omega) hx.2;obtain⟨cn,rfl⟩:=f8 hx.1;refine⟨hok,h.kc,?_⟩;rcases h.st with⟨F,h1,h2⟩ | h1
 ·refine .inl ⟨F,h1, .inr ⟨cn,min (max kk 0) 32,?_⟩⟩;rcases h2 with rfl | ⟨cc,kp,rfl⟩
  ·show Z.setN _=_;rw[a7n h1.off];rfl
  ·show(F.armed cc kp).setN ((arm F.S.N cc kp).setCut cn kk)=_;rw[a7n (N:=arm F.S.N cc kp) h1.off];rfl
 ·refine .inr ?_;have:Z.setN (Z.S.N.setCut cn kk)=Z:=by
   unfold Nand.setCut;rw[h1.off,d7 rfl];rfl
  rw[this];exact h1
theorem waits (h:DevK D B P (n+1) c K Z) {e:En} (hd:e.data.length=16) (he:0<=e.lpn->e.lpn<(lgN D B P:Int)->FitR e/\e.role≠4) (hK:∀j:Nat,e.lpn=(j:Int)->j<lgN D B P->K j e.data):DevK D B P n (λj=>if(j:Int)=e.lpn then e.data else c j) K (Z.waits e).1:=by
 have hU:UN*(n+1)=UN*n+UN:=H0 _ _;have hU2:=b3S;have hUc:UN=Fv.cW+1:=rfl;refine⟨(Fv.waits_keep (F:=Z) (k:=UN*n) (h.ok.less (by omega)) hd).1,λi hi=>?_,?_⟩
 ·show K i (if(i:Int)=e.lpn then e.data else c i);split
  ·rename_i e1;exact hK i e1.symm hi
  ·exact h.kc i hi
 rcases h.st with⟨F,h1,h2⟩ | h1
 ·by_cases hi:e.lpn<0\/e.lpn>=(lgN D B P:Int)
  ·left;refine⟨F,(h1.less (by omega)).congr λi hi2=>by rw[d4 (by omega)],?_⟩;rcases h2 with rfl | ⟨cc,kp,rfl⟩
   ·left;unfold Fv.waits;rw[(h1.asked 0 0).1,(h1.asked 0 0).2.1,d4 l6,h1.lgF,d7 hi]
   ·right;refine⟨cc,kp,?_⟩;unfold Fv.waits;have ho:(F.armed cc kp).off=false:=(h1.asked 0 0).2.1;have hl:(F.armed cc kp).lg=(lgN D B P:Int):=h1.lgF;rw[(h1.asked cc kp).2.2,ho,d4 l6,hl,d7 hi]
  ·obtain⟨F',r1,hF',r10⟩:=h1.waits h.kc hd (by omega) (he (by omega) (by omega));rcases h2 with rfl | ⟨cc,kp,rfl⟩
   ·exact .inl ⟨F',hF', .inl (by rw[r1])⟩
   ·rcases r10 cc kp h.ok.dv with⟨c',hc'⟩ | ⟨Z,z1,z2⟩
    ·exact .inl ⟨F',hF', .inr ⟨c',kp,by rw[hc']⟩⟩
    ·right;rw[z1];exact z2
 ·right;have:Z.waits e=(Z.ask,9):=by unfold Fv.waits;rw[h1.asked,d7 rfl]
  rw[this];exact h1.ask.less (by omega)
theorem write (h:DevK D B P (n+1) c K Z) (i:Int) {d:List UInt8} (hd:d.length=16) (hlg:lgN D B P<=200) (hK:∀j:Nat,i=(j:Int)->j<lgN D B P->K j d):DevK D B P n (λj=>if(j:Int)=i then d else c j) K (Z.write i d).1:=
 h.waits (e:=⟨i,0,1,d⟩) hd (λa b=>⟨⟨⟨a,by show i<=65535;have b:i<(lgN D B P:Int):=b;omega⟩, .inl rfl,hd⟩,by show(1:Int)≠4;decide⟩) hK
theorem flush (h:DevK D B P (n+200) c K Z):DevK D B P n c K Z.flush.1/\(Z.flush.1.S.N.off=false->Z.flush.1.L=[]):=by
 have hU:UN*(n+200)=UN*n+UN*200:=a2n _ _ _;have hf:=a5j;have hk:=(Fv.flush_keep (k:=UN*n) (m:=0) (h.ok.less (by omega))).1;rcases h.st with⟨F,h1,h2⟩ | h1
 ·obtain⟨F',r1,hF',r8,r10⟩:=h1.flush h.kc;rcases h2 with rfl | ⟨cc,kp,rfl⟩
  ·rw[r1]at hk ⊢;exact⟨⟨hk,h.kc, .inl ⟨F',hF', .inl rfl⟩⟩,λ_=>r8⟩
  ·rcases r10 cc kp h.ok.dv with⟨c',hc'⟩ | ⟨Z,z1,z2⟩
   ·rw[hc']at hk ⊢;exact⟨⟨hk,h.kc, .inl ⟨F',hF', .inr ⟨c',kp,rfl⟩⟩⟩,λ_=>r8⟩
   ·rw[z1]at hk ⊢;exact⟨⟨hk,h.kc, .inr z2⟩,λe=>by have:=z2.off;dsimp only at e;rw[this]at e;cases e⟩
 ·have:Z.flush=(Z.ask,9):=by unfold Fv.flush;rw[h1.asked,d7 rfl]
  rw[this]at hk ⊢;refine⟨⟨hk,h.kc, .inr (h1.ask.less (by omega))⟩,λe=>?_⟩;have:=h1.ask.off;dsimp only at e;rw[this]at e;cases e
theorem off0 (h:DevK D B P n c K Z) (x kk:Int) (hx:x<0/\ -9223372036854775808<=x):OffD D B P n (λi d=>K i d/\(Z.S.N.off=false->Z.L=[]->d=c i)) (Z.setN (Z.S.N.setCut x kk)):=by
 have hlike:Z.S.N.Like (Z.S.N.setCut x kk):=by unfold Nand.setCut;split<;>exact⟨rfl,rfl,rfl⟩
 have hgd:=h.ok.dv.gd.cut x kk hx.2 (by omega);rcases h.st with⟨F,h1,h2⟩ | h1
 ·obtain⟨W,hW,hc,hcK⟩:=h1.fc;have hnx:=h1.nx;have hZ:Z.S.N.off=false/\F.S.N.Like Z.S.N/\Z.S.N.dead=F.S.N.dead/\Z.S.N.plan=F.S.N.plan/\Z.S.N.broken=F.S.N.broken/\Z.S.N.blk=F.S.N.blk/\Z.L=F.L:=by
   rcases h2 with rfl | ⟨cc,kp,rfl⟩
   ·exact⟨h1.off,Nand.Like.refl _,rfl,rfl,rfl,rfl,rfl⟩
   ·exact⟨h1.off,⟨rfl,rfl,rfl⟩,rfl,rfl,rfl,rfl,rfl⟩
  obtain⟨e1,e2,e3,e4,e5,e6,e7⟩:=hZ;have hsc:Z.S.N.setCut x kk={Z.S.N with cuts:=decide (0<=x),left:=x,keep:=min (max kk 0) 32,off:=true}:=by
   unfold Nand.setCut;rw[e1,d4 (by decide),i5 (p:=x<0) hx.1]
  have hL:=hW.left (N':=Z.S.N.setCut x kk) h1.ok.dv hgd (by rw[hsc]) (e2.trans hlike) (by rw[hsc];exact e3) (by rw[hsc];exact e4) (by rw[hsc];exact e5) (by rw[hsc];exact e6);refine⟨⟨F.S.N,_,h1.geo,h1.br,⟨W,[],j6 _,hW.fi.wr,hL,λi j hj hj2=>?_⟩,by omega⟩,h1.cap,h1.le⟩;subst hj;refine⟨hcK j hj2,λ_ hl=>?_⟩;have:=hc j hj2;rw[<- e7,hl]at this;exact this
 ·have:Z.setN (Z.S.N.setCut x kk)=Z:=by
   unfold Nand.setCut;rw[h1.off,d7 rfl];rfl
  rw[this];exact h1.imp λi d hd=>⟨hd,λe=>by rw[h1.off]at e;cases e⟩
theorem again (h:DevK D B P (n+1000) c K Z):Z.S.N.cyc.Gd (Dv.costK+UN*n) 0/\(M9 Z.S.N.cyc).2=0/\∃c',DevW D B P (Fv.of (M9 Z.S.N.cyc).1) n c' K/\(∀i:Nat,i<lgN D B P->K i (c' i))/\(Z.S.N.off=false->Z.L=[]->∀i:Nat,i<lgN D B P->c' i=c i):=by
 have hU:UN*(n+1000)=UN*n+UN*1000:=a2n _ _ _;have hU4:UN*402<=UN*1000:=A7 _ (by omega);have hKn:Dv.costK+UN*n<=UN*(n+1000):=by
  rw[hU,a0z];exact Nat.add_le_add_left (H7 b8d hU4) _
 clear hU hU4;have hG:Z.S.N.cyc.Gd (Dv.costK+UN*n) 0:=((h.ok.dv.less (k':=Dv.costK+UN*n) hKn).gd.cut (-1) 0 (by decide) (by decide)).on;refine⟨hG,?_⟩;have h1:=h.off0 (-1) 0 (by omega);have hle:=h1.le;have hcy:Z.S.N.cyc=(Z.S.N.setCut (-1) 0).onN:=rfl;obtain⟨N0,nx,⟨e1,e2,e3⟩,h2,⟨W,X,x1,x2,x3,x4⟩,h4⟩:=h1.ex;obtain⟨V,W',v1,v2,v4,v5,v6,v8,v9⟩:=(x3.mono (k':=Dv.costK+UN*n) ⟨Nand.Like.refl _,rfl,rfl⟩ (λ_ h=>h) (j3 _) hKn (M8 _)).mountF (by rw[e1,e2,e3]) x2 (by rw[e1,e2,e3];exact h1.cap) x1 (by omega);have v1:M9 Z.S.N.cyc=(V,0):=v1;rw[v1];exact⟨rfl,λi=>cur W [] i,⟨⟨W',v2,λi hi=>v4 i,λi hi=>by rw[v4];exact(x4 i i rfl hi).1⟩,Fv.of_ok v5 (c1R (by omega)),by show V.next+_<=_;omega,v8.trans h2,⟨v9.dies.trans e1,v9.blocks.trans e2,v9.pages.trans e3⟩,by omega⟩,λi hi=>(x4 i i rfl hi).1,λa b i hi=>(x4 i i rfl hi).2 a b⟩
end DevK
theorem DevW.desk0 {D B P n:Nat} {F:Fv} {c:Nat->List UInt8} {K K':Nat->List UInt8->Prop} (h:DevW D B P F n c K) (hL:F.L=[]) (hk:∀i:Nat,i<lgN D B P->K' i (c i)):DevW D B P F n c K':=by
 obtain⟨W,hW,hc,_⟩:=h.fc;exact⟨⟨W,hW,hc,λi hi=>by have:=hc i hi;rw[hL]at this;rw[this];exact hk i hi⟩,h.ok,h.nx,h.br,h.geo,h.le⟩
theorem b5H (f p n t l d:Nat) {D B P k:Nat} {Z:Fv} {c0:Nat->List UInt8} (c:Int) (hc:0<=c/\c<=100000) (h:DevW D B P Z (400+k) c0 λ_ _=>True):
  Fn Tryz.prog 31 [.pointer (some ⟨f,0,none⟩), .int .i64 c] (FvP f p n t l d Z) (λv As=>∃Y,v= .bool true/\(DevW D B P Y k (λj=>a1h (c+j)) (λ_ _=>True)/\Y.L=[])/\As=FvP f p n t l d Y):=by
 have hlg:=h.lg2;have hUN:UN=Fv.cW+1:=rfl;refine b8w f p n t l d Z c hc (lgN D B P) 0 (by omega) (by decide) (λi Y=>DevW D B P Y (200-i+200+k) (λj=>if j<i then a1h (c+j)else c0 j) λ_ _=>True) (λY=>DevW D B P Y k (λj=>a1h (c+j)) (λ_ _=>True)/\Y.L=[]) ?_ (λi Y hY=>⟨hY.lgF,hY.ok.dv.gd.ok⟩) (λi Y hY hi=>?_) λY hY=>?_
 ·exact(h.less (by omega)).congr λi _=>by rw[d4 (by omega)]
 ·have hY:DevW D B P Y ((200-(i+1)+200+k)+1) _ _:=hY.less (by omega);have hok:=hY.ok.less (k':=UN) (by rw[H0];omega);obtain⟨w1,w2⟩:=hY.write (λ_ _=>trivial) hi (b1a (c+i));exact⟨hok,w1,w2.congr λj _=>by
   by_cases e:j=i
   ·rw[d7 e,d7 (by omega),e]
   ·rw[d4 e]
    by_cases e2:j<i
    ·rw[d7 e2,d7 (by omega)]
    ·rw[d4 e2,d4 (by omega)]⟩
 ·have hY:DevW D B P Y (k+200) _ _:=hY.less (by omega);have hok:=hY.ok.less (k':=Fv.cW*200+0) (by rw[a2n];have:=a5j;omega);obtain⟨F',w1,w2,w3,_⟩:=hY.flush λ_ _=>trivial;rw[w1];exact⟨hok,rfl,w2.congr λj hj=>d7 hj,w3⟩
theorem b6c (g0 g1 g2 oo kk:Int) (A:Atom):FP 5 [.agg #[iI g0,iI g1,iI g2],iI oo,iI kk] [A] (Ps (.bool true) [A]):=by
 have hs:=b4h oo (k:=150) (by decide);refine FE [0,0,0] Tryz.func5 λX F hX=>?_;refine J.qp (b5I) [] λ_=>?_;refine J.qF λ_=>?_;refine J.qc (b2j g0 g1 g2) [] λ_=>?_;rintro v As ⟨D,B,P,n,f,p,t,l,d,Z,rfl,hD,hB,hP,rfl,rfl⟩;refine⟨_,rfl,trivial,?_⟩;have hgb:=b9i hD hB hP;have hZ:=DevW.new (K:=λ_ _=>True) hD hB hP hgb.2.1 hgb.2.2 (by simp[O1];omega) λ_ _=>trivial;generalize Fv.of (Dv.new D B P (lgN D B P))=Z at hZ ⊢;refine J.qc (b5H f p n t l d 0 (by decide) (hZ.less (k:=400+100000) (by decide))) [3,4,5,6,7,8] λ_=>?_;rintro v As ⟨Y,rfl,⟨hY,hYL⟩,rfl⟩;refine⟨_,rfl,trivial,?_⟩;refine J.qF λ_=>?_;have hlb:=Fv.lg_bd (F:=Y) hY.ok.dv.gd.ok;rw[hY.lgF]at hlb;refine J.q λb9=>?_;refine J.cb (b0Y oo 150 (by decide)) [] ?_;refine cpq ⟨_,rfl,trivial,?_⟩;refine J.qp (b0Y kk 33 (by decide)) [] λ_=>?_;refine J.qp (a9h n Y.S.N (a1i oo 150) (a1i kk 33)) [5] λ_=>?_;obtain⟨K,hK⟩:∃K:Nat->List UInt8->Prop,K=λ(j:Nat) (x:List UInt8)=>x=a1h (2000+(j:Int))\/x=a1h (j:Int):=⟨_,rfl⟩;have hY0:DevK D B P 2000 (λj=>a1h (0+(j:Int))) K Y:=((hY.desk0 hYL λi _=>by rw[hK,Int.zero_add];exact .inr rfl).devk λi _=>by rw[hK,Int.zero_add];exact .inr rfl).less (by decide);have hZ0:=hY0.cut (a1i oo 150) (a1i kk 33) (by omega);obtain⟨Z1,hZ1⟩:∃Z1,Y.setN (Y.S.N.setCut (a1i oo 150) (a1i kk 33))=Z1:=⟨_,rfl⟩;rw[hZ1]at hZ0;refine J.turn1 [3,4,5,6,7,8] rfl (As:=FvP f p n t l d Z1) (λh s=>by rw[<- hZ1];exact s) rfl ?_;refine J.q λ_=>?_;refine J.l (α:=(Nat×Fv)) (λz=>z.1<=lgN D B P/\DevK D B P (2000-z.1) (λj=>if j<z.1 then a1h (2000+j)else a1h (0+(j:Int))) K z.2) (λz=>[si 10 z.1,sp 9 f,sp 8 n]) [3,4,5,6,7,8] (λz=>FvP f p n t l d z.2) (λz=>lgN D B P-z.1) ((0,Z1)) (⟨j6 _,hZ0.congr λj _=>by rw[d4 (Nat.not_lt_zero _)]⟩) λz hI=>?_;obtain⟨i,Z2⟩:=z;dsimp only at hI ⊢;obtain⟨hi,hZ2⟩:=hI;refine J.qp (a0l f n t l p d Z2 hZ2.ok.dv.gd.ok) [3,5] λ_=>?_;rw[hZ2.lg];refine J.qd (λ_ h1=>?_) λ_ h1=>?_
 ·simp only[d5,i4]at h1;have hZ3:=hZ2.less (k:=(2000-(i+1))+1) (by omega);have hk1:Z2.Ok (Fv.cW+(1+0)) 0:=hZ3.ok_write;have w1:=hZ3.write (i:=i) (b1a (2000+i)) (by omega) (λj hj _=>by rw[hK];left;rw[hj]);refine J.qp (a6I (2000+i) (by omega)) [] λ_=>?_;refine J.qp (a3A f p n t l d Z2 0 0 hk1 (by decide) i (a1h (2000+i)) rfl) [3,4,5,6,7,8] λ_=>?_;refine J.q λ_=>?_;refine J.nS ((i+1,(Z2.write i (a1h (2000+i))).1)) (⟨by dsimp only;omega,w1.congr λj _=>by
   dsimp only
   by_cases e:(j:Int)=(i:Int)
   ·rw[d7 e,d7 (by omega),e]
   ·rw[d4 e]
    by_cases e2:j<i
    ·rw[d7 e2,d7 (by omega)]
    ·rw[d4 e2,d4 (by omega)]⟩) (by dsimp only;omega) [0,1,2,3,4,5,6,7,8] rfl rfl
 simp only[c8,i4]at h1;obtain rfl:i=lgN D B P:=by omega
 have hZ3:=hZ2.less (k:=1600+200) (by omega);have hk2:Z2.Ok (Fv.cW*200+0) 0:=hZ3.ok_flush;obtain⟨f1,f2⟩:=hZ3.flush;refine J.qp (a4W f p n t l d Z2 0 0 hk2 (by decide)) [3,4,5,6,7,8] λ_=>?_;generalize Z2.flush.1=Z4 at f1 f2 ⊢;obtain⟨a1,a2,c',a3,a4,a5⟩:=(f1.less (k:=600+1000) (by decide)).again;refine J.qp (a3R n Z4.S.N) [5] λ_=>?_;refine J.qc (b5J n Z4.S.N (UN*600) 0 a1 (by decide) a2) [5] λ_=>?_;rintro v As ⟨f2',p2,t2,l2,d2,rfl,rfl⟩;refine⟨_,rfl,trivial,?_⟩;generalize Fv.of (M9 Z4.S.N.cyc).1=V at a3 ⊢;have hVlg:=a3.lgF;refine J.qF λ_=>?_;refine J.q λ_=>?_;refine J.l (α:=Nat) (λj=>j<=lgN D B P) (λj=>[si 12 j,sp 9 f2',sp 8 n,sv 11 (.bool (!Z4.S.N.off))]) [] (λj=>[]) (λj=>lgN D B P-j) (0) (j6 _) λj hI=>?_;refine J.qp (a0l f2' n t2 l2 p2 d2 V a3.ok.dv.gd.ok) [5,10] λ_=>?_;rw[hVlg];refine J.qd (λ_ h2=>?_) λ_ h2=>?_
 ·simp only[d5,i4]at h2;have hr:=a3.read (i:=j) h2;have hx:c' j=a1h (2000+j)\/Z4.S.N.off=true/\c' j=a1h j:=by
   have hk:=a4 j h2;rw[hK]at hk;cases ho:Z4.S.N.off with
   | true=>exact hk.imp id λh=>⟨rfl,h⟩
   | false=>
    left;have:=a5 ho (f2 ho) j h2;rw[this,d7 h2]
  generalize c' j=x at hr hx;refine J.qp (a2P f2' p2 n t2 l2 d2 V _ 0 a3.ok j) [5,9,10,11,12,13] λ_=>?_;rw[hr];dsimp only;have hxl:x.length=16:=by
   rcases hx with rfl | ⟨_,rfl⟩<;>rfl
  refine J.q λb9=>?_;refine J.plan (.of [0,4,8,13,16,20,26,28,32,36,40,45,48,54,56,60,64,68]) [] [14] (by rw[hX.hP];kernel_rfl) (by kernel_rfl) ?_;refine J.qp (a6I (2000+j) (by omega)) [] λ_=>?_
  by_cases e:x=a1h (2000+j)
  ·subst e;refine J.vT (.bool false) rfl rfl (λhg aa w he hC=>(a3P (xs:=I7 (a1h (2000+j))) (ys:=I7 (a1h (2000+j))) rfl rfl rfl he rfl rfl a1s (a0u _) (a0u _) mkD gdD).trans (by rw[eqD _ _ rfl rfl,i5 rfl];rfl)) ?_;refine J.q λ_=>?_;refine J.gcase hX rfl rfl rfl stq (λhb=>by simp at hb) (λhb=>?_);refine J.vT (.bool false) rfl rfl (λhg aa w he hC=>by simp[G.on]at hg) ?_;refine J.qF λ_=>?_;refine J.q λ_=>?_;refine J.n (j+1) (h2) (by omega) [0,1,2,3,4,5,6,7,8,9,10,11,12,13]
  ·obtain⟨ho,rfl⟩:=hx.resolve_left e;refine J.vT (.bool true) rfl rfl (λhg aa w he hC=>(a3P (xs:=I7 (a1h j)) (ys:=I7 (a1h (2000+j))) rfl rfl rfl he rfl rfl a1s (a0u _) (a0u _) mkD gdD).trans (by rw[eqD _ _ rfl rfl,n5 e];rfl)) ?_;rw[ho];refine J.qp (a6I j (by omega)) [] λ_=>?_;refine J.vT (.bool false) rfl rfl (λhg aa w he hC=>(a3P (xs:=I7 (a1h j)) (ys:=I7 (a1h j)) rfl rfl rfl he rfl rfl a1s (a0u _) (a0u _) mkD gdD).trans (by rw[eqD _ _ rfl rfl,i5 rfl];rfl)) ?_;refine J.qF λ_=>?_;refine J.q λ_=>?_;refine J.n (j+1) (h2) (by omega) [0,1,2,3,4,5,6,7,8,9,10,11,12,13]
 refine J.qp (a7G n V.S.N) [10] λ_=>?_;rw[a3.br];exact J.qx [1]
theorem a0o {a b:Bool} (ha:a=true) (hb:b=true):(a&&b)=true:=by rw[ha,hb];rfl
theorem b4K {P:Program} {f:FuncId} {fn:Func} {s:ChangeSpec} {c:OpenClaim} (k0:(c.wf (OpenSpec.ofChange s))=true) (k1:(laidOutB P)=true) (k2:(mapsRowed P)=true) (k3:(fn.params.all (P.readableRec ·))=true) (k4:(namedTie P c.named s.vars)=true) (k5:(c.stops==[])=true) (k6:(P.stops==[])=true) (k7:(c.knobs==[])=true) (k8:(P.stopKnobs==[])=true) (k9:(c.inPlace==P.inPlace f)=true) (k10:(c.unfollowed==P.unfollowed f)=true) (k11:(c.recurses==P.recurses f)=true) (k12:(c.named==P.varsNamed f)=true) (k13:(c.maps==(fn.params.toList++s.plain.varTypes P).any (P.mapsRec ·))=true) (k14:(c.ifaces==(fn.params.toList++s.plain.varTypes P).any (P.ifacesRec ·))=true) (k15:(c.mapsOut==P.mapsAmong fn.resultTypes.toList)=true) (k16:(c.loops==(fn.params.toList++s.plain.varTypes P).any (P.loopsFrom ·))=true) (k17:(c.wideKeys==(fn.params.toList++s.plain.varTypes P++fn.resultTypes.toList).any (P.wideKeysFrom ·))=true) (k18:(s.vars.all (P.varReadable ·))=true) (k19:(fn.resultTypes.all (λt=>P.readableRec t&&decide (t<P.types.size)))=true) (k20:(c.ifacesOut==fn.resultTypes.toList.any (P.ifacesRec ·))=true) (k21:(c.loopsOut==fn.resultTypes.toList.any (P.loopsFrom ·))=true) (k22:(c.plainKeys==P.plainKeys)=true) (k23:(c.shortTexts.isNone)=true) (k24:(P.stopsHeard)=true) (k25:(P.mayEnter)=true) (k26:(c.lifted==P.liftsFinal)=true) (k27:(P.make==some c.make)=true) (k28a:c.domain.isEmpty=true) (k28:(c.kinds==[])=true) (k29:(c.pinned==c.pinnedBy)=true) (k30:(c.veiled==(fn.params.toList++s.plain.varTypes P++fn.resultTypes.toList).any (P.veiledRec ·))=true) (k31:(c.veiledFits P fn.params.toList (fn.params.toList++s.plain.varTypes P++fn.resultTypes.toList))=true):joinedFacts P f fn s c=true:=by
 unfold joinedFacts;rw[d7 k28a];exact(a0o (a0o (a0o (a0o (a0o (a0o (a0o (a0o (a0o (a0o (a0o (a0o (a0o (a0o (a0o (a0o (a0o (a0o (a0o (a0o (a0o (a0o (a0o (a0o (a0o (a0o (a0o (a0o (a0o (a0o (a0o k0 k1) k2) k3) k4) k5) k6) k7) k8) k9) k10) k11) k12) k13) k14) k15) k16) k17) k18) k19) k20) k21) k22) k23) k24) k25) k26) k27) k28) k29) k30) k31)
theorem b7i:laidOutB Tryz.prog=true:=by kernel_rfl
theorem b9m:mapsRowed Tryz.prog=true:=by kernel_rfl
theorem b9l:(Tryz.prog.stops==[])=true:=by kernel_rfl
theorem b9n:(Tryz.prog.stopKnobs==[])=true:=by kernel_rfl
theorem b9o:Tryz.prog.stopsHeard=true:=by kernel_rfl
theorem b9p:Tryz.prog.mayEnter=true:=by kernel_rfl
end Go.Proofs.YtmafiplddapokaaGreat
