/- Helpers. No condition. -/
import Derived.Test.YtmafiplddapokaaGreatU35
import Derived.Test.YtmafiplddapokaaGreatU37
import Derived.Test.YtmafiplddapokaaGreatU38
import Derived.Below
import Derived.BigQuiet
import Derived.ChangeOld
import Derived.Deep.AppendLies
import Derived.Deep.DeepCutAuto
import Derived.Deep.DrawnRows
import Derived.Deep.Draws
import Derived.Deep.MidRow
import Derived.Deep.QuietTactic
import Derived.Deep.RegionHeld3
import Derived.Deep.RegionLaw
import Derived.Deep.Slices
import Derived.Deep.Strs
import Derived.Defers
import Derived.JoinedOf
import Derived.Laws.AppendOwn
import Derived.Laws.CopyOwn
import Derived.Laws.MakeOwn
import Derived.Laws.OwnMore
import Derived.Laws.ResultCell
import Derived.Laws.StructEq
import Derived.Lib.Hide
import Derived.Lib.SmallJoins
import Derived.Maps.AppendAt
import Derived.Maps.RangeRun
import Derived.OpenShut
import Derived.ProofKit
import Derived.Shelf.GgSortFunc.InsertionK
import Derived.Shelf.SlLaysF0
import Derived.Shelf.SlSortCmp.WholeK
import Derived.Shelf.Sort.Plain
import Derived.Sort.Grow
import Derived.StillTailTactics
import Derived.WalkKit
import Derived.WalkLawsBesides
import Derived.WalkSpells
import Derived.WideKeyEntry
set_option maxRecDepth 20000
set_option linter.all false
namespace Go.Proofs.YtmafiplddapokaaGreat
open Go
def Fv.armed (F:Fv) (c:Nat) (kp:Int):Fv:={F with S:=F.S.armed c kp}
theorem b4d {W:List (Int×En)} {L:List En} (hnd:(L.map (·.lpn)).Nodup) {n:Nat} (hn:n<=L.length) (i:Int):cur (a0J W L n) [] i=cur W [] i\/cur (a0J W L n) [] i=cur W L i:=by
 obtain⟨w1,w2⟩:=a0w (W:=W) (l:=L) n (a4g hnd hn)
 by_cases hex:∃j,j<n/\(L.getD j En.zero).lpn=i
 ·obtain⟨j,hj,rfl⟩:=hex;right;have hf:=a9O hnd (U9 (show j<L.length by omega));unfold cur;rw[hf,List.find?_nil];dsimp only;rw[w1 j hj]
 ·left;unfold cur;rw[List.find?_nil];dsimp only;rw[w2 i λj hj e=>hex ⟨j,hj,e⟩]
structure Off (N0:Nand) (K:Int->List UInt8->Prop) (lg β k m:Nat) (nx:Int) (Z:Fv):Prop where
 ex:∃W X,X.length<=N0.dies-1/\(∀i e,Tb.look W i=some e->e.role≠4)/\Lf N0 W lg X β k m nx Z.S.N/\∀i,K i (cur W [] i)
theorem Off.mono {N0 N1:Nand} {K K':Int->List UInt8->Prop} {lg β k k' m:Nat} {nx nx':Int} {Z:Fv} (h:Off N0 K lg β k m nx Z) (hN:N1.Like N0/\N0.dead=N1.dead/\N0.broken=N1.broken) (hK:∀i d,K i d->K' i d) (hk:k'<=k) (hnx:nx<=nx'):Off N1 K' lg β k' m nx' Z:=by
 obtain⟨W,X,x1,x2,x3,x4⟩:=h.ex;exact⟨W,X,by rw[<- hN.1.dies];exact x1,x2,x3.mono hN (λ_ h=>h) (i7 _) hk hnx,λi=>hK i _ (x4 i)⟩
namespace Fq
variable {W : List (Int × En)} {lg k m : Nat} {F : Fv}
theorem asked (h:Fq W lg F) (c:Nat) (kp:Int):(F.armed c kp).ask=F.armed c kp:=by
 unfold Fv.ask;show({F.armed c kp with off:=F.off||F.S.N.off}:Fv)=_;rw[h.fi.inv.lit.off,h.fi.off];have ho:(F.armed c kp).off=false:=h.fi.off;show({F.armed c kp with off:=false}:Fv)=_;rw[<- ho]
theorem put (h:Fq W lg F) {e:En} (he:FitR e/\e.role≠4/\e.lpn<(lg:Int)):Fq W lg (F.put e)/\∀i,cur W (F.put e).L i=if i=e.lpn then e.data else cur W F.L i:=by
 obtain⟨h1,h2⟩:=h.fi.put he;exact⟨⟨h1,h.cm,h.trn,h.held,h.rows,h.cap⟩,h2⟩
theorem room (β:Nat) (h:Fq W lg F) (hO:F.S.Ok (Dv.costM+k) m) (hnx:F.S.next<=1099511627775-30000000) (hβ:β+(F.S.N.pages+1)/2<=F.S.rows+1):
  ∃V,F.S.room=(V,0)/\Cm W lg V/\Trn [] V/\V.Ok k m/\Kp F.S V/\(5*F.S.N.pages<=V.rows/\F.S.rows<=V.rows)/\V.next<=F.S.next+6400/\
   ∀(c:Nat) (kp:Int),(F.S.armed c kp).Ok (Dv.costM+k) m->(∃c',(F.S.armed c kp).room=(V.armed c' kp,0))\/∃Z X',(F.S.armed c kp).room=(Z,(9:Int))/\X'.length<=F.S.N.dies-1/\Lf F.S.N W lg X' β k m (F.S.next+6400) Z.N:=by
 have hg:=hO.gd.ok.bd16;have hl2:=h.fi.lg2;have hrows:=h.rows;have h8:8*(F.S.N.pages/2)<=F.S.N.blocks*(F.S.N.pages/2):=B5 _ hg.2.1.1;obtain⟨V,v1,v2,v3,v4,v5,v6,v7,v8⟩:=h.cm.roomFree β 0 h.trn hO (by omega) h.cap h.held (by omega) (by omega) hβ (by omega);refine⟨V,v1,v2,v3,v4,v5,v6,v7,λc kp hA=>(v8 c kp hA).imp id λ⟨Z,X',z1,z2,_,z4⟩=>⟨Z,X',z1,by simpa using z2,z4⟩⟩
theorem kept {S:Dv} {W':List (Int×En)} {L:List En} (h:Fq W lg F) (hC:Cm W' lg S) (hT:Trn [] S) (hk:Kp F.S S) (hr:5*F.S.N.pages<=S.rows+1) (hw:∀i e,Tb.look W' i=some e->e.role≠4) (hL:L.Sublist F.L) (nx:Int):Fq W' lg ⟨S,L,nx,false⟩:=by
 refine⟨⟨hC.gi.inv,hC.gi.hd,hC.gi.wok,hw,hC.log,?_,h.fi.lg2,λx hx=>h.fi.des x (hL.subset hx),h.fi.nd.sublist (hL.map _),rfl⟩,hC,hT,λb hb=>by rw[show S.t.has b=F.S.t.has b from hk.has b]at hb;rw[show(S.t.at_ b).held=_ from hk.held b hb];exact h.held b hb,?_,?_⟩
 ·have:=h.fi.lgn;unfold Fv.lg at this ⊢;show((lgN S.N.dies S.N.blocks S.N.pages:Nat):Int)=_;rw[hk.like.dies,hk.like.blocks,hk.like.pages];exact this
 ·show 5*S.N.pages<=S.rows+1;rw[hk.like.pages];exact hr
 ·show 2*lg<=(S.N.blocks-5)*(S.N.pages*(S.N.dies-2))+1;rw[hk.like.blocks,hk.like.pages,hk.like.dies];exact h.cap
theorem writesA (β:Nat) (h:Fq W lg F) (hO:F.S.Ok (Dv.costM+(8*Dv.fuel+k)) m) (hnx:F.S.next<=1099511627775-30000000) (hl0:F.L.length≠0) (hβ:β+(F.S.N.pages+1)/2<=F.S.rows+1):
  ∃(F':Fv) (W':List (Int×En)),F.writes=(F',0)/\Fq W' lg F'/\(∀i,cur W' F'.L i=cur W F.L i)/\(∀i,cur W' [] i=cur W [] i\/cur W' [] i=cur W F.L i)/\F'.S.Ok k m/\F'.S.next<=F.S.next+7000/\Kp F.S F'.S/\(F'.L.length+min F.L.length (F.S.N.dies-1)=F.L.length/\F.S.rows<=F'.S.rows+1)/\
   ∀(c:Nat) (kp:Int),(F.S.armed c kp).Ok (Dv.costM+(8*Dv.fuel+k)) m->(∃c',(F.armed c kp).writes=(F'.armed c' kp,0))\/∃Z,(F.armed c kp).writes=(Z,(9:Int))/\Off F.S.N (λi d=>d=cur W [] i\/d=cur W F.L i) lg β k m (F.S.next+400000) Z:=by
 have hg:=hO.gd.ok.bd16;have hE:Ent lg F.L:=⟨λe he=>⟨(h.fi.des e he).1,(h.fi.des e he).2.2⟩,h.fi.nd⟩;obtain⟨V,v1,v2,v3,v4,v5,v6,v7,v8⟩:=h.room β (k:=8*Dv.fuel+k) hO hnx hβ;obtain⟨U,n,p0,p1,p2,p3,p4,p5,p6,p7,_,_,_,_,_,p13⟩:=v2.pen0 (l:=F.L) v3 v4 (by omega) hE hl0 (by omega);have hd:=v5.like.dies;have hn:1<=n/\n<=F.L.length:=by omega
 have hwo:=λn hn=>b3t h.fi.wok h.fi.wr (λe he=>⟨(h.fi.des e he).1,(h.fi.des e he).2.1⟩) n hn;have hk:=v5.trans p6;have hwr:F.writes=(⟨U,F.L.drop n,F.nx,false⟩,0):=by
  unfold Fv.writes;rw[v1];dsimp only;rw[d6 (by decide),p1];dsimp only;rw[j4,a9T h.fi.nd];unfold Fv.told;dsimp only;rw[h.fi.off];rfl
 refine⟨_,a0J W F.L n,hwr,h.kept p2 (p3 [] λi hi=> .inl hi) hk (by omega) (hwo n hn.2).2 (List.drop_sublist _ _) _,b8i h.fi.nd n hn.2,λi=>b4d h.fi.nd hn.2 i,p4,?_,hk,?_,λc kp hA=>?_⟩
 ·show U.next<=_;omega
 ·show(F.L.drop n).length+_=_/\F.S.rows<=U.rows+1;rw[C1];omega
 ·have hkA:=Dv.room_keep hA;have hwA:(F.armed c kp).writes=(let r:=(F.S.armed c kp).room;if r.2≠0 then({F with S:=r.1}.told r.2,r.2)else(let w:=r.1.pen F.L;({F with S:=w.1,L:=a0t F.L (F.L.take w.2.1.toNat)}.told w.2.2,w.2.2))):=rfl;rw[hwA];rcases v8 c kp hA with⟨c1,hc⟩ | ⟨Z,X',z1,z2,z4⟩
  ·rw[hc]at hkA ⊢;dsimp only at hkA ⊢;rw[d6 (show¬(0:Int)≠0 by simp)];rcases p13 c1 kp hkA.1 with⟨c2,hc2⟩ | ⟨Z,p,z1,z2,z4⟩
   ·left;rw[hc2];dsimp only;refine⟨c2,?_⟩;rw[j4,a9T h.fi.nd];unfold Fv.told;dsimp only;rw[h.fi.off];rfl
   ·right;rw[z1];dsimp only;have hL:=z4 ((F.L.take p).map (·.lpn)) (λi hi=>by cases hi) (λj hj=>by
     refine List.mem_map.2 ⟨F.L.getD j En.zero,?_,rfl⟩;rw[List.mem_take_iff_getElem];exact⟨j,by omega,by rw[d7,c9 (by omega),j3]⟩)
    have hp:p<=F.L.length:=by omega
    refine⟨_,rfl,a0J W F.L p,_,?_,(hwo p hp).2,hL.kp v5 (λ_ h=>h) (by omega) (i7 _) (by omega),λi=>b4d h.fi.nd hp i⟩;rw[l7,j9];omega
  ·right;rw[z1];dsimp only;rw[d8 (show(9:Int)≠0 by decide)];refine⟨_,rfl,W,X',z2,h.fi.wr,z4.mono ⟨Nand.Like.refl _,rfl,rfl⟩ (λ_ h=>h) (i7 _) (by omega) (by omega),λi=> .inl rfl⟩
theorem waitsA (β:Nat) (h:Fq W lg F) (hO:F.S.Ok (Dv.costM+(8*Dv.fuel+k)) m) (hnx:F.S.next<=1099511627775-30000000) {e:En} (he:FitR e/\e.role≠4/\e.lpn<(lg:Int)) (hβ:β+(F.S.N.pages+1)/2<=F.S.rows+1):
  ∃(F':Fv) (W':List (Int×En)),F.waits e=(F',0)/\Fq W' lg F'/\(∀i,cur W' F'.L i=if i=e.lpn then e.data else cur W F.L i)/\(∀i,cur W' [] i=cur W [] i\/cur W' [] i=cur W F.L i)/\F'.S.Ok k m/\F'.S.next<=F.S.next+7000/\Kp F.S F'.S/\((F.S.N.dies-1)*F.S.rows+F'.L.length<=(F.S.N.dies-1)*F'.S.rows+F.L.length+1/\(F.L.length<=F.S.N.dies-1->F'.L.length<=F.S.N.dies-1))/\
   ∀(c:Nat) (kp:Int),(F.S.armed c kp).Ok (Dv.costM+(8*Dv.fuel+k)) m->(∃c',(F.armed c kp).waits e=(F'.armed c' kp,0))\/∃Z,(F.armed c kp).waits e=(Z,(9:Int))/\Off F.S.N (λi d=>d=cur W [] i\/d=cur W F.L i) lg β k m (F.S.next+400000) Z:=by
 have hlp:=he.1.lpn;have hg:=hO.gd.ok.bd16;have hsl:=h.cm.gi.inv.slots_full2 hO (by have:=h.rows;omega);have hwA:∀c kp,(F.armed c kp).waits e=if(F.L.length:Int)>=F.S.slots then(let w:=(F.armed c kp).writes;if w.2≠0 then w else(w.1.put e,0))else((F.armed c kp).put e,0):=λc kp=>by
  unfold Fv.waits;rw[h.asked];have ho:(F.armed c kp).off=false:=h.fi.off;have hl:(F.armed c kp).lg=(lg:Int):=h.fi.lgn;rw[ho,d6 l9,hl,d6 (by omega)];rfl
 unfold Fv.waits;rw[h.fi.ask,h.fi.off,d6 l9,h.fi.lgn,d6 (by omega)]
 by_cases hs:(F.L.length:Int)>=F.S.slots
 ·rw[d8 hs];obtain⟨G,W',w1,w2,w3,w4,w5,w6,w7,w10,w11⟩:=h.writesA β hO hnx (by omega) hβ;rw[w1];dsimp only;rw[d6 (by decide)];obtain⟨p1,p2⟩:=w2.put he;refine⟨_,W',rfl,p1,λi=>by rw[p2,w3],w4,w5,w6,w7,?_,λc kp hA=>?_⟩
  ·have h2:=(a9U G.L {e with seq:=G.nx}).2;have h3:(F.S.N.dies-1)*F.S.rows<=(F.S.N.dies-1)*(G.S.rows+1):=y9 _ w10.2;rw[H3]at h3;show(F.S.N.dies-1)*F.S.rows+(a0B _ _).length<=(F.S.N.dies-1)*G.S.rows+_+1/\(_->(a0B _ _).length<=_);omega
  have:=hwA c kp;unfold Fv.waits at this;rw[this,d8 hs];rcases w11 c kp hA with⟨c',hc⟩ | ⟨Z,z1,z2⟩
  ·rw[hc];dsimp only;rw[d6 (by decide)];exact .inl ⟨c',rfl⟩
  ·rw[z1];dsimp only;rw[d8 (by decide)];exact .inr ⟨Z,rfl,z2⟩
 ·rw[d6 hs];obtain⟨p1,p2⟩:=h.put he;refine⟨_,W,rfl,p1,p2,λi=> .inl rfl,hO.less (by omega),by show F.S.next<=_;omega,Kp.refl _,?_,λc kp hA=>?_⟩
  ·have h2:=(a9U F.L {e with seq:=F.nx}).2;show(F.S.N.dies-1)*F.S.rows+(a0B _ _).length<=(F.S.N.dies-1)*F.S.rows+_+1/\(_->(a0B _ _).length<=_);omega
  have:=hwA c kp;unfold Fv.waits at this;rw[this,d6 hs];exact .inl ⟨c,rfl⟩
end Fq
theorem Cm.left {W:List (Int×En)} {lg β k k' m:Nat} {X:List Int} {S:Dv} {N':Nand} (hC:Cm W lg S) (hT:Trn X S) (hβ:β<=S.rows) (hO:S.Ok k m) (hgd:N'.Gd k' m) (off:N'.off=true) (like:S.N.Like N') (dead:N'.dead=S.N.dead) (plan:N'.plan=S.N.plan) (broken:N'.broken=S.N.broken) (blk:N'.blk=S.N.blk):Lf S.N W lg X β k' m S.next N':=by
 have hlkO:S.N.Like N'.onN:=⟨like.dies,like.blocks,like.pages⟩;have hpg:∀d b r:Int,N'.onN.pageAt d b r=S.N.pageAt d b r:=λd b r=>by
  show(N'.blk d.toNat b.toNat).cells[r.toNat]? =_;rw[blk];rfl
 have hrb:=hC.gi.inv.rows_bl;refine⟨off,like,dead,broken,{S with N:=N'.onN,op:= -1},rfl,⟨hC.gi.cut hlkO ⟨rfl,rfl⟩ dead (λa ha=>?_) (λi j=>?_) (λb hb hu d=>?_) (λd b r c' hc'=> .inr ⟨c',by rw[<- hpg];exact hc',λ_ h=>h,λh=>h⟩) λi a ha=> .inl λd=>hpg _ _ _,⟨λi=>?_,?_,λi j=>?_,λi j=>?_⟩,hC.log⟩,hT.moved hC.gi.inv rfl (.inr rfl) hlkO hC.gi.inv.lit.off.symm dead λ_ _ _ d r=>hpg _ _ _,⟨Nand.Gd.on hgd,hO.t.like hlkO,hO.T,hO.sl,hO.row,hO.next⟩,rfl,?_,J7 _⟩
 ·have ha:a∈N'.plan:=ha;rw[plan]at ha;exact ha
 ·show(N'.blk i j).met=_/\(N'.blk i j).fails=_;rw[blk];exact⟨rfl,rfl⟩
 ·show(N'.blk d b.toNat).cells=_;rw[blk]
 ·show N'.dead.getD i false=false;rw[dead];exact hC.no.dead i
 ·show N'.plan=[];rw[plan];exact hC.no.plan
 ·show(N'.blk i j).met=false;rw[blk];exact hC.no.met i j
 ·show(N'.blk i j).fails=false;rw[blk];exact hC.no.fl i j
 ·show β<=N'.pages*S.t.blanks+N'.pages;rw[like.pages];omega
theorem Fq.new {D B P:Nat} (hD:3<=D/\D<=6) (hB:8<=B/\B<=16) (hP:2<=P/\P<=8) (hlg:lgN D B P<=200) (hcap:2*lgN D B P<=(B-5)*(P*(D-2))+1):Fq [] (lgN D B P) (Fv.of (Dv.new D B P (lgN D B P))):=by
 have hF:=FI.new (-2) hD hB hP hlg;refine⟨hF,⟨GI.new _ _ _ _ _,NoF.new _ _ _ _,hF.log⟩,⟨λi a ha=>(by cases ha)⟩,λb _=>?_,?_,hcap⟩
 ·show((Tl.new D B P).at_ b).held=false;rw[b3l];rfl
 ·show 5*P<=(Dv.new D B P (lgN D B P)).rows+1;rw[a9k];have:P*8<=P*B:=y9 _ hB.1;omega
structure DevW (D B P:Nat) (F:Fv) (n:Nat) (c:Nat->List UInt8) (K:Nat->List UInt8->Prop):Prop where
 fc:∃W,Fq W (lgN D B P) F/\(∀i:Nat,i<lgN D B P->cur W F.L i=c i)/\∀i:Nat,i<lgN D B P->K i (cur W [] i)
 ok:F.Ok (UN*n) 0
 nx:F.S.next+8000*(n:Int)<=1099000000000
 br:F.S.N.broken=0
 geo:F.S.N.dies=D/\F.S.N.blocks=B/\F.S.N.pages=P
 le:n<=200000
structure OffD (D B P n:Nat) (K:Nat->List UInt8->Prop) (Z:Fv):Prop where
 ex:∃(N0:Nand) (nx:Int),(N0.dies=D/\N0.blocks=B/\N0.pages=P)/\N0.broken=0/\Off N0 (λi d=>∀j:Nat,i=(j:Int)->j<lgN D B P->K j d) (lgN D B P) (4*N0.pages) (UN*n) 0 nx Z/\nx+8000*(n:Int)<=1099002000000
 cap:2*lgN D B P<=(B-5)*(P*(D-2))+1
 le:n<=200000
structure DevK (D B P n:Nat) (c:Nat->List UInt8) (K:Nat->List UInt8->Prop) (Z:Fv):Prop where
 ok:Z.Ok (UN*n) 0
 kc:∀i:Nat,i<lgN D B P->K i (c i)
 st:(∃F,DevW D B P F n c K/\(Z=F\/∃cc kp,Z=F.armed cc kp))\/OffD D B P n K Z
namespace DevW
variable {D B P n : Nat} {K : Nat → List UInt8 → Prop} {F : Fv} {c : Nat → List UInt8}
theorem less (h:DevW D B P F n c K) {k:Nat} (hk:k<=n):DevW D B P F k c K:=
 ⟨h.fc,h.ok.less (y9 _ hk),by have:=h.nx;omega,h.br,h.geo,by have:=h.le;omega⟩
theorem congr (h:DevW D B P F n c K) {c':Nat->List UInt8} (hc:∀i,i<lgN D B P->c i=c' i):DevW D B P F n c' K:=by
 obtain⟨W,hW,h2,h3⟩:=h.fc;exact⟨⟨W,hW,λi hi=>(h2 i hi).trans (hc i hi),h3⟩,h.ok,h.nx,h.br,h.geo,h.le⟩
theorem off (h:DevW D B P F n c K):F.S.N.off=false:=by
 obtain⟨W,hW,_⟩:=h.fc;exact hW.fi.inv.lit.off
theorem lgF (h:DevW D B P F n c K):F.lg=(lgN D B P:Int):=by
 obtain⟨W,hW,_⟩:=h.fc;exact hW.fi.lgn
theorem lg2 (h:DevW D B P F n c K):lgN D B P<=200:=by
 obtain⟨W,hW,_⟩:=h.fc;exact hW.fi.lg2
theorem cap (h:DevW D B P F n c K):2*lgN D B P<=(B-5)*(P*(D-2))+1:=by
 obtain⟨W,hW,_⟩:=h.fc;have:=hW.cap;rw[h.geo.1,h.geo.2.1,h.geo.2.2]at this;exact this
theorem like (h:DevW D B P F n c K) {G:Fv} (hl:F.S.N.Like G.S.N):G.S.N.dies=D/\G.S.N.blocks=B/\G.S.N.pages=P:=
 ⟨hl.dies.trans h.geo.1,hl.blocks.trans h.geo.2.1,hl.pages.trans h.geo.2.2⟩
theorem devk (h:DevW D B P F n c K) (hk:∀i:Nat,i<lgN D B P->K i (c i)):DevK D B P n c K F:=⟨h.ok,hk, .inl ⟨F,h, .inl rfl⟩⟩
theorem read (h:DevW D B P F n c K) {i:Nat} (h1:i<lgN D B P):F.read i=(F,c i,0):=by
 obtain⟨W,hW,hc,_⟩:=h.fc;rw[hW.fi.read,d6 (by omega),hc i h1]
theorem new (hD:3<=D/\D<=6) (hB:8<=B/\B<=16) (hP:2<=P/\P<=8) (hlg:lgN D B P<=200) (hcap:2*lgN D B P<=(B-5)*(P*(D-2))+1) (hgm:O8 D B P=true) (hK:∀i:Nat,i<lgN D B P->K i zeros16):DevW D B P (Fv.of (Dv.new D B P (lgN D B P))) 200000 (λ_=>zeros16) K:=
 ⟨⟨[],Fq.new hD hB hP hlg hcap,λ_ _=>rfl,hK⟩,Fv.of_ok (Dv.Ok.new D B P _ hgm _ b3r) b3r,by show(1:Int)+8000*((200000:Nat):Int)<=_;omega,rfl,⟨rfl,rfl,rfl⟩,i7 _⟩
end DevW
namespace DevK
variable {D B P n : Nat} {K : Nat → List UInt8 → Prop} {Z : Fv} {c : Nat → List UInt8}
theorem setC (h:DevK D B P n c K Z) (x kk:Int) (h1: -9223372036854775808<=x) (h2:x<=9223372036854775807):(Z.setN (Z.S.N.setCut x kk)).Ok (UN*n) 0:=⟨⟨h.ok.dv.gd.cut x kk h1 h2,h.ok.dv.t.like (by unfold Nand.setCut;split<;>exact⟨rfl,rfl,rfl⟩),h.ok.dv.T,h.ok.dv.sl,h.ok.dv.row,h.ok.dv.next⟩,h.ok.dat,λe he=>by
  have:=h.ok.rng e he;have hlg:(Z.setN (Z.S.N.setCut x kk)).lg=Z.lg:=by
   unfold Fv.lg;show((lgN (Z.S.N.setCut x kk).dies (Z.S.N.setCut x kk).blocks (Z.S.N.setCut x kk).pages:Nat):Int)=_;unfold Nand.setCut;split<;>rfl
  rw[hlg];exact this,h.ok.nd,h.ok.nx⟩
end DevK
theorem Rmy.fine {fd:Int} {S:Dv} {k m:Nat} {W:List (Int×En)} (h:Rmy fd W S) (hO:S.Ok k m) (hsp:o0 (C3 S.t S.T) S.op S.t.b=[]):(S.N.blocks-1-S.t.blanks)*Tb.cntB S.T.at_ S.victim<=W.length:=by
 have hb:=hO.t.b;have hbl:S.t.blanks=(List.range S.t.b).countP λi:Nat=>!(S.t.at_ (i:Nat)).used:=by
  unfold Tl.blanks Tl.at_;rw[Inv.countP_range_get _ Sb.zero,hO.t.len];simp
 have h3:=a3A (p:=λi:Nat=>((i:Int) !=S.op)&&O2 S.t S.T i) (q:=λi:Nat=>!(S.t.at_ (i:Nat)).used) (o:=S.op) S.t.b λi hi=>by
  have hhas:S.t.has (i:Int)=true:=Tl.has_iff.2 (by omega)
  by_cases e1:(i:Int)=S.op
  ·exact .inr (.inr e1)
  ·cases hu:(S.t.at_ (i:Int)).used with
   | false=>exact .inr (.inl rfl)
   | true=>
    left;have hc:¬S.T.count (i:Int)=0:=λhc=>by
     have:(i:Int)∈o0 (C3 S.t S.T) S.op S.t.b:=mem_pkSome.2 ⟨by omega,by omega,e1,by
      unfold C3;rw[h.inv.usable hO hhas,hc];unfold Tl.blank Tl.held;rw[hhas,hu,h.held _ hhas];rfl⟩
     rw[hsp]at this;cases this
    have hc2:S.T.count (i:Int)>0:=by
     have:=hO.T.cnt (i:Int);omega
    unfold O2 Tl.held;rw[hhas,h.held _ hhas,i6 hc2];simp[e1]
 rw[<- hbl,<- a2U]at h3;have hQ:S.N.blocks-1-S.t.blanks<=(o0 (O2 S.t S.T) S.op S.t.b).length:=by
  split at h3<;>omega
 have hsum:=b3x S.T.at_ (o0 (O2 S.t S.T) S.op S.t.b) (Inv.pkSome_nodup _ _ _);have hmin:=b0D (Tb.cntB S.T.at_ S.victim) (o0 (O2 S.t S.T) S.op S.t.b) (λb=>Tb.cntB S.T.at_ b) λb hb=>by
  have:=(a2S S hb).2;rw[hO.T.cnt S.victim,hO.T.cnt b]at this;omega
 have hWl:S.T.at_.length=W.length:=by
  have:=congrArg List.length h.hd.keys;simpa using this
 have:=B5 (Tb.cntB S.T.at_ S.victim) hQ;omega
theorem b7W {D B v bl lg:Nat} (hD:3<=D/\D<=6) (hB:B=8\/B=9) (hcap:2*lg<=(B-5)*(3*(D-2))+1) (h:(B-1-bl)*v<=lg) (hb:bl<=3):v<=D-1:=by
 have h1:(B-4)*v<=(B-1-bl)*v:=B5 _ (by omega);have hD:D=3\/D=4\/D=5\/D=6:=by omega
 rcases hB with rfl | rfl<;>rcases hD with rfl | rfl | rfl | rfl<;>omega
namespace Cm
variable {W : List (Int × En)} {lg k m : Nat} {X : List Int} {S : Dv}
theorem roomFine (h:Cm W lg S) (hT:Trn X S) (hO:S.Ok (Dv.costM+k) m) (hlg:lg<=1000) (hcap:2*lg<=(S.N.blocks-5)*(S.N.pages*(S.N.dies-2))+1) (hh:∀b,S.t.has b=true->(S.t.at_ b).held=false) (hr:2*S.N.pages<=S.rows+2) (hnx:S.next<=1099511627775-4000000):
  ∃V,S.room=(V,0)/\Cm W lg V/\Trn X V/\V.Ok k m/\Kp S V/\5*S.N.pages<=V.rows+1/\V.next<=S.next+6400:=by
 have hg:=hO.gd.ok.bd16
 by_cases hc:S.N.pages=3/\S.N.blocks<=9
 ·obtain⟨hP,hB⟩:=hc;have hrm:∀(U:Dv) (k:Nat),Cm W lg U->U.Ok k m->Kp S U->Rmy (-2) W U:=λU k hC hU hk=>by
   refine⟨hC.gi.inv,hC.gi.hd,hC.gi.wok,λb hb=>by rw[hk.has]at hb;rw[hk.held b hb];exact hh b hb,?_⟩;have e1:U.T.at_.length=W.length:=by have:=congrArg List.length hC.gi.hd.keys;simpa using this
   have e2:=b3m hU.T;rw[hC.log]at e2;rw[hk.like.blocks,hk.like.pages,hk.like.dies];omega
  obtain⟨V,v1,v2,v3,v4,v5,v6,⟨f',⟨q1,q2,q3⟩,q5⟩,_⟩:=h.roomA (β:=0) (Q:=λf U=>Kp S U/\o0 (C3 U.t U.T) U.op U.t.b=[]/\(12<=U.rows/\14<=U.rows+f\/16<=U.rows+2*f/\4<=U.rows)) (λf U k hQ hC hU hfr hv hc=>by
   obtain⟨b1,b2,b3⟩:=hQ;have hR:=hrm U k hC hU b1;obtain⟨_,_,_,_,_,a6,_⟩:=hR.victim hU b2 hfr;have hf:=hR.fine hU b2;have hil:=ins_len hU.T U.victim;have hp:=b1.like.pages;have hd:=b1.like.dies;have hbb:=b1.like.blocks;rw[hp,hd,hP]at a6;have e1:U.T.at_.length=W.length:=by have:=congrArg List.length hC.gi.hd.keys;simpa using this
   have e2:=b3m hU.T;rw[hC.log]at e2;have hbl:3*U.t.blanks<=U.rows:=by
    unfold Dv.rows;rw[hp,hP];omega
   by_cases h12:U.rows<=11
   ·have:=b7W (v:=Tb.cntB U.T.at_ U.victim) (bl:=U.t.blanks) (lg:=lg) hg.1 (show S.N.blocks=8\/S.N.blocks=9 by omega) (by rw[hP]at hcap;exact hcap) (by rw[<- hbb];omega) (by omega);exact⟨1,by rw[hd];omega,by omega,by omega,by omega,λU' hk hr hs=>⟨b1.trans hk,hs λb hb=>by rw[b1.has]at hb;rw[b1.held b hb];exact hh b hb,by omega⟩⟩
   ·exact⟨2,by rw[hd];omega,by omega,by omega,by omega,λU' hk hr hs=>⟨b1.trans hk,hs λb hb=>by rw[b1.has]at hb;rw[b1.held b hb];exact hh b hb,by omega⟩⟩) hlg (λU hk hr hs=>⟨hk,hs hh,by rw[show S.t.b=S.N.blocks from hO.t.b];omega⟩) hT hO (by omega) hnx
  refine⟨V,v1,v2,v3,v4,v5,?_,v6⟩;have hR:=hrm V k v2 v4 v5
  by_cases hfr:(V.free:Int)>4
  ·have:=hR.many v4 hfr;rw[v5.like.pages]at this;omega
  ·obtain⟨a1,_,_,_,_,_,a7⟩:=hR.victim v4 q2 hfr;rcases q5 with rfl | x | x | x<;>omega
 ·have h10:S.N.pages=3->10*(S.N.pages/2)<=S.N.blocks*(S.N.pages/2):=λe=>B5 _ (by omega);have h8:8*(S.N.pages/2)<=S.N.blocks*(S.N.pages/2):=B5 _ hg.2.1.1;obtain⟨V,v1,v2,v3,v4,v5,v6,v7,_⟩:=h.roomFree 0 1 hT hO hlg hcap hh (by omega) (by omega) (by omega) hnx;exact⟨V,v1,v2,v3,v4,v5,v6.1,v7⟩
theorem mountArm {x b c:Nat} {kp:Int} (h:Cm W lg S) (hT:Trn X S) (hO:S.Ok (Dv.costK+k) m) (hA:(arm S.N c kp).Gd (Dv.costK+k) m) (hlg:lgN S.N.dies S.N.blocks S.N.pages=lg) (hcap:2*lg<=(S.N.blocks-5)*(S.N.pages*(S.N.dies-2))+1) (hx:x<=2) (hb:3<=b) (hR:b*S.N.pages<=S.N.pages*S.t.blanks) (hX:X.length<=x*(S.N.dies-1)) (hnx:S.next<=1099511627775-60000000):
  ∃W',(∀i,Tb.look W' i=Tb.look W i)/\((∃V c',G9 (arm S.N c kp)=(V.armed c' kp,0)/\Cm W' lg V/\Trn [] V/\V.Ok k m/\(V.armed c' kp).Ok k m/\5*S.N.pages<=V.rows+1/\V.next<=S.next+4000000/\V.N.broken=S.N.broken/\S.N.Like V.N)\/
   ∃Z X',G9 (arm S.N c kp)=(Z,(9:Int))/\(X'.length<=(x+1)*(S.N.dies-1)/\Lf S.N W' lg X' ((b-1)*S.N.pages+1) k m (S.next+4000000) Z.N\/x=2/\X'.length<=2*(S.N.dies-1)/\Lf S.N W' lg X' ((b-2)*S.N.pages+1) k m (S.next+4000000) Z.N)):=by
 have hg:=hO.gd.ok.bd16;obtain⟨s,W',E,A,a1,a2,a3,a4,a5,a6,a7,a8,a9,a10,a11,a12,a13,a14,a15,a16,a17⟩:=h.mount_prep hT hO hlg;refine⟨W',a12,?_⟩;have hl2:=a1f hO.gd.ok;have hx5:x*(S.N.dies-1)<=2*5:=R1 hx (by omega);have hx1:(x+1)*(S.N.dies-1)=x*(S.N.dies-1)+(S.N.dies-1):=K6 _ _;obtain⟨q,hq⟩:∃q,(b-2)*S.N.pages=q:=⟨_,rfl⟩;have hq1:(b-1)*S.N.pages=q+S.N.pages:=by rw[show b-1=(b-2)+1 from by omega,K6,hq]
 have hq2:b*S.N.pages=q+S.N.pages+S.N.pages:=by rw[show b=(b-1)+1 from by omega,K6,hq1]
 rw[hq2]at hR;have hP1:S.N.pages<=q:=by rw[<- hq];exact Nat.le_mul_of_pos_left _ (by omega)
 have h8:8*(S.N.pages/2)<=S.N.blocks*(S.N.pages/2):=B5 _ hg.2.1.1;rw[hq,hq1,hx1];have hct:Dv.costT*E.length<=Dv.costT*200:=y9 _ (by omega);have hd:A.N.dies=S.N.dies:=by rw[a14]
 have hp:A.N.pages=S.N.pages:=by rw[a14]
 have hle:Dv.costT*E.length+(96+(Dv.costM+k))<=Dv.costK+k:=by unfold Dv.costK;omega
 --how much is left whatever happens
 obtain⟨β,hβ⟩:∃β,β+x=q+S.N.pages+2:=⟨q+S.N.pages+2-x,by omega⟩;have last:∀(Z:Dv) (X':List Int),X'.length<=x*(S.N.dies-1)\/X'.length<=S.N.dies-1->Lf S.N W' lg X' β k m (S.next+4000000) Z.N->(X'.length<=x*(S.N.dies-1)+(S.N.dies-1)/\Lf S.N W' lg X' (q+S.N.pages+1) k m (S.next+4000000) Z.N\/x=2/\X'.length<=2*(S.N.dies-1)/\Lf S.N W' lg X' (q+1) k m (S.next+4000000) Z.N):=λZ X' hl hL=>by
  by_cases e:x=2
  ·subst e;exact .inr ⟨rfl,by omega,hL.mono ⟨Nand.Like.refl _,rfl,rfl⟩ (λ_ h=>h) (by omega) (i7 _) (J7 _)⟩
  ·exact .inl ⟨by omega,hL.mono ⟨Nand.Like.refl _,rfl,rfl⟩ (λ_ h=>h) (by omega) (i7 _) (J7 _)⟩
 obtain⟨Y,y1,y2,y3,y4,y5,y6,y7,y8⟩:=tornA (β:=β) (by omega) E.length A E x (96+(Dv.costM+k)) (q+S.N.pages+1) a7 a8 (a9.less hle) (i7 _) a10 a11 (by rw[hd,O0];omega) (by omega) (by omega) (by omega) (by omega);obtain⟨b1,b2,b3⟩:=y2.holds y4.t s.held false;obtain⟨Z,hZ⟩:∃Z,Y.holds s.held false=Z:=⟨_,rfl⟩;have bO:=y4.holds s.held false;have hZN:Z.N=Y.N:=by rw[<- hZ];rfl
 have hZn:Z.next=Y.next:=by rw[<- hZ];rfl
 have hTZ:Trn [] Z:=by rw[<- hZ];exact y3.moved y2.gi.inv rfl (.inl rfl) (Nand.Like.refl _) rfl rfl λ_ _ _ _ _=>rfl
 have hheld:∀b,Z.t.has b=true->(Z.t.at_ b).held=false:=λb hb=>by
  rw[<- hZ]at hb ⊢;have hb:Y.t.has b=true:=by rw[<- (a5h false s.held Y.t y4.t.len).1.has b];exact hb
  rw[(b3 b hb).2];split
  ·rfl
  ·rename_i hn;rw[y5.has]at hb;rw[y5.held b hb];exact a17 b hb hn
 have hZA:∀c,(Y.armed c kp).holds s.held false=Z.armed c kp:=λc=>by rw[<- hZ];rfl
 rw[hZ]at b1 b2 bO;have hrb:=b1.gi.inv.rows_bl;obtain⟨U,u1,u2,u3,u4,u5,u6,u7,u8,u9,u10,u11⟩:=b1.clear0 (k:=Dv.costM+k) hTZ bO;have hlk:S.N.Like U.N:=by rw[<- a14];exact y5.like.trans (by rw[<- hZN];exact u5.like)
 have hYp:Y.N.pages=S.N.pages:=by rw[y5.like.pages,hp]
 have e1:=hlk.pages;obtain⟨V,v1,v2,v3,v4,v5,v6,v7,v8⟩:=u2.roomFree β 0 u3 u4 (by omega) (by rw[hlk.blocks,hlk.pages,hlk.dies];exact hcap) (λb hb=>by rw[u5.has]at hb;rw[u5.held b hb];exact hheld b hb) (by omega) (by rw[hlk.blocks,e1];omega) (by omega) (by omega);have hkY:Y.N.broken=S.N.broken:=by rw[y5.broken,a14]
 have hA0:(A.armed c kp).Ok (Dv.costK+k) m:=by rw[<- a4];exact Dv.Ok.holds (Dv.Ok.mt0 hA) s.held true
 have tr:∀{X2:List Int} {β2:Nat} {nx:Int} {N2:Nand},Lf A.N W' lg X2 β2 k m nx N2->nx<=S.next+4000000->Lf S.N W' lg X2 β2 k m (S.next+4000000) N2:=λhL hn=>by
  rw[a14]at hL;exact hL.mono ⟨Nand.Like.refl _,rfl,rfl⟩ (λ_ h=>h) (i7 _) (i7 _) hn
 have hm:G9 (arm S.N c kp)=mtA E s.held (A.armed c kp):=by
  have:=b1F (N:=arm S.N c kp) a1 a2 a3;rw[this,<- a4];rfl
 have hkT:=Dv.tornGo_keep E.length (A.armed c kp) E (96+(Dv.costM+k)) (hA0.less hle) (λe he=>(a10.1 e he).1.len);have hAt:(A.armed c kp).torn E=Dv.tornGo E.length (A.armed c kp) E:=rfl;rw[hm];unfold mtA;rw[hAt];rcases y8 c kp (hA0.less hle)with⟨c1,hc1⟩ | ⟨Z1,X',z1,z2,z3⟩
 ·rw[hc1]at hkT ⊢;dsimp only;rw[d6 (by decide),hZA];have hOZ:(Z.armed c1 kp).Ok (96+(Dv.costM+k)) m:=by rw[<- hZA];exact hkT.1.holds s.held false
  have hkC:=Dv.clear_keep hOZ;rcases u11 c1 kp β hOZ (by rw[hZN]at hrb ⊢;rw[hYp]at hrb ⊢;omega)with⟨c2,hc2⟩ | ⟨Z1,z1,z2⟩
  ·rw[hc2]at hkC ⊢;dsimp only;rw[d6 (by decide)];have hkR:=Dv.room_keep hkC.1;rcases v8 c2 kp hkC.1 with⟨c3,hc3⟩ | ⟨Z1,X',z1,z2,_,z4⟩
   ·rw[hc3]at hkR ⊢;exact .inl ⟨V,c3,rfl,v2,v3,v4,hkR.1,by rw[<- e1];have:=v6.1;omega,by omega,by rw[v5.broken,u5.broken,hZN,hkY],hlk.trans v5.like⟩
   ·rw[z1];refine .inr ⟨Z1,X',rfl,last Z1 X' (.inr (by rw[hlk.dies]at z2;simpa using z2)) ?_⟩;have:=(z4.kp u5 (λ_ h=>h) (i7 _) (i7 _) (J7 _));rw[hZN]at this;exact tr (this.kp y5 (λ_ h=>h) (i7 _) (i7 _) (J7 _)) (by omega)
  ·rw[z1];dsimp only;rw[d8 (by decide)];refine .inr ⟨Z1,[],rfl,last Z1 [] (.inr (j7 _)) ?_⟩;rw[hZN]at z2;exact tr (z2.kp y5 (λ_ h=>h) (i7 _) (by omega) (J7 _)) (by omega)
 ·rw[z1];dsimp only;rw[d8 (by decide)];rw[hd]at z2;have hlt:=λ{β2:Nat} (hL:Lf A.N W' lg X' β2 (96+(Dv.costM+k)) m (A.next+6500*(E.length:Int)) Z1.N)=>tr (hL.mono ⟨Nand.Like.refl _,rfl,rfl⟩ (λ_ h=>h) (i7 _) (show k<=_ by omega) (J7 _)) (by omega);refine .inr ⟨Z1,X',rfl,?_⟩;rcases z2 with z2 | ⟨z2,z4⟩
  ·exact last Z1 X' (.inl (by omega)) (hlt z3)
  ·exact .inl ⟨by omega,hlt z4⟩
end Cm
structure Lv (D B P x b n:Nat) (c:Nat->List UInt8) (N':Nand):Prop where
 ex:∃(N0:Nand) (W:List (Int×En)) (X:List Int) (nx:Int),(N0.dies=D/\N0.blocks=B/\N0.pages=P)/\N0.broken=0/\X.length<=x*(D-1)/\(∀i e,Tb.look W i=some e->e.role≠4)/\Lf N0 W (lgN D B P) X (b*P+1) (UN*n) 0 nx N'/\(∀i:Nat,i<lgN D B P->cur W [] i=c i)/\nx+8000*(n:Int)<=1099002000000
 cap:2*lgN D B P<=(B-5)*(P*(D-2))+1
 le:n<=200000
theorem c0t {b P bl:Nat} (h:b*P+1<=P*bl+P):b*P<=P*bl:=by
 refine I1 λhc=>?_;have h1:¬b<=bl:=λe=>hc (by rw[O0 P];exact B5 _ e);have h2:(bl+1)*P<=b*P:=B5 _ (by omega);rw[K6,O0 bl]at h2;omega
theorem a5y (n:Nat):Dv.costK+UN*n<=UN*(n+1000):=by
 have hU4:UN*402<=UN*1000:=y9 _ (by omega);rw[a2u,a0G];exact Nat.add_le_add_left (I7 b8s hU4) _
namespace Lv
variable {D B P x b n : Nat} {c : Nat → List UInt8} {N' : Nand}
theorem mono (h:Lv D B P x b n c N') {x' b' k:Nat} (hx:x<=x') (hb:b'<=b) (hk:k<=n):Lv D B P x' b' k c N':=by
 obtain⟨N0,W,X,nx,h1,h2,h3,h4,h5,h6,h7⟩:=h.ex;have e1:=B5 (D-1) hx;have e2:=B5 P hb;exact⟨⟨N0,W,X,nx,h1,h2,by omega,h4,h5.mono ⟨Nand.Like.refl _,rfl,rfl⟩ (λ_ h=>h) (by omega) (y9 _ hk) (J7 _),h6,by omega⟩,h.cap,by have:=h.le;omega⟩
theorem off (h:Lv D B P x b n c N'):N'.off=true:=by
 obtain⟨N0,W,X,nx,h1,h2,h3,h4,h5,h6,h7⟩:=h.ex;exact h5.off
theorem gd (h:Lv D B P x b n c N'):N'.onN.Gd (UN*n) 0:=by
 obtain⟨N0,W,X,nx,h1,h2,h3,h4,h5,h6,h7⟩:=h.ex;obtain⟨V,v1,_,_,v4,_⟩:=h5.ex;rw[<- v1];exact v4.gd
theorem whole (h:Lv D B P x b (n+1000) c N') (hx:x=3/\b=3\/x=2/\b=2) {K:Nat->List UInt8->Prop} (hK:∀i:Nat,i<lgN D B P->K i (c i)):(G9 N'.onN).2=0/\DevW D B P (Fv.of (G9 N'.onN).1) n c K:=by
 have hKn:=a5y n;have hle:=h.le;have hcap:=h.cap;obtain⟨N0,W,X,nx,⟨e1,e2,e3⟩,h2,h3,h4,h5,h6,h7⟩:=h.ex;obtain⟨S,s1,s2,s3,s4,_,s6,s7⟩:=h5.ex;have hlk:N0.Like S.N:=by rw[s1];exact⟨h5.like.dies,h5.like.blocks,h5.like.pages⟩
 have hb:S.N.broken=0:=by rw[s1];exact h5.broken.trans h2
 have hD:S.N.dies=D:=hlk.dies.trans e1;have hB:S.N.blocks=B:=hlk.blocks.trans e2;have hP:S.N.pages=P:=hlk.pages.trans e3;have hg:=s4.gd.ok.bd16;have hl2:=a1f s4.gd.ok;rw[hD,hB,hP]at hl2;have s6:=c0t (by rw[hP]at s6;exact s6);have hx5:X.length<=15:=by
  rcases hx with⟨rfl,_⟩ | ⟨rfl,_⟩<;>omega
 obtain⟨V,W',v1,v2,v3,v4,v5,v6,v7,v8,v9,v10,v11⟩:=s2.mountG (r:=x) (k:=UN*n) s3 (s4.less hKn) (by rw[hD,hB,hP]) rfl (by rw[hD,O0];exact h3) (by rw[hP];rcases hx with⟨rfl,rfl⟩ | ⟨rfl,rfl⟩<;>omega) (by omega) (λW' U c1 c2 c3 hl c4 c5 c6=>by
  have e1:=hl.pages;exact c1.roomFine c2 c3 (by omega) (by rw[hl.blocks,hl.pages,hl.dies,hD,hB,hP];exact hcap) c4 (by rw[e1,hP];rw[hP]at c5;rcases hx with⟨rfl,rfl⟩ | ⟨rfl,rfl⟩<;>omega) c6) (by omega)
 have hV:V.N.dies=D/\V.N.blocks=B/\V.N.pages=P:=⟨v11.dies.trans hD,v11.blocks.trans hB,v11.pages.trans hP⟩;have hc:∀i:Nat,i<lgN D B P->cur W' [] i=c i:=λi hi=>by
  rw[<- h6 i hi];unfold cur;rw[v5]
 rw[<- s1,v1];refine⟨rfl,⟨W',⟨⟨v2.gi.inv,v2.gi.hd,v2.gi.wok,λi e he=>h4 i e (by rw[<- v5];exact he),v2.log,?_,hl2.2,λe he=>(by cases he),a5E,rfl⟩,v2,v3,v6,?_,?_⟩,hc,λi hi=>by rw[hc i hi];exact hK i hi⟩,Fv.of_ok v4 (c2i (by omega)),by show V.next+_<=_;omega,v10.trans hb,hV,by omega⟩
 ·show((lgN V.N.dies V.N.blocks V.N.pages:Nat):Int)=_;rw[hV.1,hV.2.1,hV.2.2]
 ·show 5*V.N.pages<=V.rows+1;rw[v11.pages];exact v7
 ·show 2*_<=(V.N.blocks-5)*(V.N.pages*(V.N.dies-2))+1;rw[hV.1,hV.2.1,hV.2.2];exact hcap
theorem rest {V:Dv} {W:List (Int×En)} (v2:Cm W (lgN D B P) V) (v3:Trn [] V) (v4:V.Ok (UN*n) 0) {N1:Nand} (hgd:N1.Gd (UN*n) 0) (hoff:N1.off=false) (like:V.N.Like N1) (dead:N1.dead=V.N.dead) (plan:N1.plan=V.N.plan) (broken:N1.broken=V.N.broken) (blk:N1.blk=V.N.blk) (geo:V.N.dies=D/\V.N.blocks=B/\V.N.pages=P) (hbr:V.N.broken=0) (hr:b*P+1<=V.rows) (hw:∀i e,Tb.look W i=some e->e.role≠4) (hc:∀i:Nat,i<lgN D B P->cur W [] i=c i) (hnx:V.next+8000*(n:Int)<=1099002000000) (cap:2*lgN D B P<=(B-5)*(P*(D-2))+1) (le:n<=200000):Lv D B P 0 b n c (N1.setCut (-1) 0):=by
 have hsc:N1.setCut (-1) 0={N1 with cuts:=decide (0<=(-1:Int)),left:= -1,keep:=min (max 0 0) 32,off:=true}:=by
  unfold Nand.setCut;rw[hoff,d6 (by decide),i6 (p:=(-1:Int)<0) (by decide)]
 have hG:=hgd.cut (-1) 0 (by decide) (by decide);rw[hsc]at hG ⊢;exact⟨⟨V.N,W,[],V.next,geo,hbr,j7 _,hw,v2.left v3 hr v4 hG rfl ⟨like.dies,like.blocks,like.pages⟩ dead plan broken blk,hc,hnx⟩,cap,le⟩
theorem armd (h:Lv D B P x b (n+1000) c N') (hx:x<=2) (hb:3<=b/\b<=5) (o kk:Int) (ho:0<=o/\o<=9223372036854775807):(N'.onN.setCut o kk).Gd (Dv.costK+UN*n) 0/\(Lv D B P (x+1) (b-1) n c ((G9 (N'.onN.setCut o kk)).1.N.setCut (-1) 0)\/x=2/\Lv D B P 2 (b-2) n c ((G9 (N'.onN.setCut o kk)).1.N.setCut (-1) 0)):=by
 have hKn:=a5y n;have hle:=h.le;have hcap:=h.cap;obtain⟨N0,W,X,nx,⟨e1,e2,e3⟩,h2,h3,h4,h5,h6,h7⟩:=h.ex;obtain⟨S,s1,s2,s3,s4,_,s6,s7⟩:=h5.ex;have hlk:N0.Like S.N:=by rw[s1];exact⟨h5.like.dies,h5.like.blocks,h5.like.pages⟩
 have hbr:S.N.broken=0:=by rw[s1];exact h5.broken.trans h2
 have hD:S.N.dies=D:=hlk.dies.trans e1;have hB:S.N.blocks=B:=hlk.blocks.trans e2;have hP:S.N.pages=P:=hlk.pages.trans e3;have hg:=s4.gd.ok.bd16;have s6:=c0t (by rw[hP]at s6;exact s6);have s4:=s4.less hKn;have hA:=s4.gd.cut o kk (by omega) ho.2;refine⟨by rw[<- s1];exact hA,?_⟩;obtain⟨cn,rfl⟩:=f9 ho.1;have hsa:S.N.setCut cn kk=arm S.N cn (min (max kk 0) 32):=a4w (N:=S.N) (by rw[s1];rfl) cn kk;rw[hsa]at hA;rw[<- s1,hsa];obtain⟨W',w1,hr⟩:=s2.mountArm (k:=UN*n) s3 s4 hA (by rw[hD,hB,hP]) (by rw[hD,hB,hP];exact hcap) hx hb.1 (by rw[hP];exact s6) (by rw[hD];exact h3) (by omega);have hc:∀i:Nat,i<lgN D B P->cur W' [] i=c i:=λi hi=>by
  rw[<- h6 i hi];unfold cur;rw[w1]
 have hw:∀i e,Tb.look W' i=some e->e.role≠4:=λi e he=>h4 i e (by rw[<- w1];exact he);rcases hr with⟨V,c',v1,v2,v3,v4,v5,v6,v7,v8,v9⟩ | ⟨Z,X',z1,hz⟩
 ·rw[v1];dsimp only;left;have hb4:(b-1)*P<=4*P:=B5 _ (by omega);exact(rest (b:=b-1) (c:=c) v2 v3 v4 v5.gd v2.gi.inv.lit.off ⟨rfl,rfl,rfl⟩ rfl rfl rfl rfl ⟨v9.dies.trans hD,v9.blocks.trans hB,v9.pages.trans hP⟩ (v8.trans hbr) (by rw[hP]at v6 hg;omega) hw hc (by omega) hcap (by omega)).mono (j7 _) (i7 _) (i7 _)
 ·rw[z1];dsimp only;have hid:∀{N2:Nand},N2.off=true->N2.setCut (-1) 0=N2:=λh=>by
   unfold Nand.setCut;rw[h,d8 rfl]
  rcases hz with⟨z2,z3⟩ | ⟨z0,z2,z3⟩
  ·left;rw[hid z3.off];rw[hP]at z3;exact⟨⟨S.N,W',X',_,⟨hD,hB,hP⟩,hbr,by rw[hD]at z2;exact z2,hw,z3,hc,by omega⟩,hcap,by omega⟩
  ·right;rw[hid z3.off];rw[hP]at z3;exact⟨z0,⟨S.N,W',X',_,⟨hD,hB,hP⟩,hbr,by rw[hD]at z2;exact z2,hw,z3,hc,by omega⟩,hcap,by omega⟩
end Lv
theorem b6w {D B P:Nat} (hD:3<=D/\D<=6) (hB:8<=B) (hP:2<=P/\P<=8):(D-1)*(5*P+(P+1)/2)+2*lgN D B P+(D-2)<(D-1)*(B*P)+1+(D-1):=by
 have hD:D=3\/D=4\/D=5\/D=6:=by omega
 have hP:P=2\/P=3\/P=4\/P=5\/P=6\/P=7\/P=8:=by omega
 unfold lgN;rcases hD with rfl | rfl | rfl | rfl<;>rcases hP with rfl | rfl | rfl | rfl | rfl | rfl | rfl<;>omega
structure DevC (D B P u n:Nat) (F:Fv) (c:Nat->List UInt8) (K:Nat->List UInt8->Prop):Prop where
 w:DevW D B P F n c K
 cnt:(D-1)*(B*P)+F.L.length<=(D-1)*F.S.rows+u
 len:F.L.length<=D-1
 kc:∀i:Nat,i<lgN D B P->K i (c i)
def Lv5 (D B P n:Nat) (K:Nat->List UInt8->Prop) (Z:Fv):Prop:=∃c,Lv D B P 1 5 n c Z.S.N/\∀i:Nat,i<lgN D B P->K i (c i)
namespace DevC
variable {D B P u n : Nat} {F : Fv} {c : Nat → List UInt8} {K : Nat → List UInt8 → Prop}
theorem less (h:DevC D B P u n F c K) {k:Nat} (hk:k<=n):DevC D B P u k F c K:=⟨h.w.less hk,h.cnt,h.len,h.kc⟩
theorem many (h:DevC D B P u n F c K) (hu:u+1<=2*lgN D B P+(D-2)+F.L.length):5*P+1+(P+1)/2<=F.S.rows+1:=by
 have hg:=h.w.ok.dv.gd.ok.bd16;obtain⟨e1,e2,e3⟩:=h.w.geo;rw[e1,e2,e3]at hg;have h1:=b6w hg.1 hg.2.1.1 hg.2.2;have hc:=h.cnt;refine I1 λhn=>?_;have h2:(D-1)*(F.S.rows+1)<=(D-1)*(5*P+(P+1)/2):=y9 _ (by omega);rw[H3]at h2;omega
theorem off5 {N0:Nand} {c':Nat->List UInt8} {nx:Int} {Z:Fv} (h:DevW D B P F (n+u) c' K) (hz:Off F.S.N (λi d=>∀j:Nat,i=(j:Int)->j<lgN D B P->K j d) (lgN D B P) (5*P+1) (UN*n) 0 nx Z) (hnx:nx+8000*(n:Int)<=1099002000000):Lv5 D B P n K Z:=by
 obtain⟨W,X,x1,x2,x3,x4⟩:=hz.ex;exact⟨λi=>cur W [] i,⟨⟨F.S.N,W,X,nx,h.geo,h.br,by rw[h.geo.1]at x1;omega,x2,x3,λ_ _=>rfl,hnx⟩,h.cap,by have:=h.le;omega⟩,λi hi=>x4 i i rfl hi⟩
theorem waits (h:DevC D B P u (n+1) F c K) (hu:u+2<=2*lgN D B P+(D-1)) {e:En} (hd:e.data.length=16) (h1:0<=e.lpn/\e.lpn<(lgN D B P:Int)) (he:FitR e/\e.role≠4) (hK:∀j:Nat,e.lpn=(j:Int)->j<lgN D B P->K j e.data):∃F',F.waits e=(F',0)/\DevC D B P (u+1) n F' (λj=>if(j:Int)=e.lpn then e.data else c j) K/\
  ∀(cc:Nat) (kp:Int),(F.S.armed cc kp).Ok (UN*(n+1)) 0->(∃c',(F.armed cc kp).waits e=(F'.armed c' kp,0))\/∃Z,(F.armed cc kp).waits e=(Z,(9:Int))/\Lv5 D B P n K Z:=by
 have hU:UN*(n+1)=UN*n+UN:=H3 _ _;have hU2:=b4j;have hUc:UN=Fv.cW+1:=rfl;have hkF:=(Fv.waits_keep (F:=F) (k:=UN*n) (h.w.ok.less (by omega)) hd).1;have hm:=h.many (by omega);obtain⟨W,hW,hc,hcK⟩:=h.w.fc;have hnx:=h.w.nx;have hle:=h.w.le;obtain⟨e1,e2,e3⟩:=h.w.geo;obtain⟨F',W',r1,r2,r3,r4,r5,r6,r7,r8,r10⟩:=hW.waitsA (5*P+1) (k:=UN*n) (h.w.ok.dv.less (by omega)) (by omega) (e:=e) ⟨he.1,he.2,by omega⟩ (by rw[e3];exact hm);rw[r1]at hkF;rw[e1]at r8;have hcnt:=h.cnt;refine⟨F',r1,⟨⟨⟨W',r2,λi hi2=>by rw[r3,hc i hi2],λi hi2=>?_⟩,hkF,by omega,r7.broken.trans h.w.br,h.w.like r7.like,by omega⟩,by omega,r8.2 h.len,λi hi=>?_⟩,λcc kp hA=>?_⟩
 ·rcases r4 i with e1 | e1
  ·rw[e1];exact hcK i hi2
  ·rw[e1,hc i hi2];exact h.kc i hi2
 ·show K i (if(i:Int)=e.lpn then e.data else c i);split
  ·rename_i e1;exact hK i e1.symm hi
  ·exact h.kc i hi
 ·refine(r10 cc kp (hA.less (by omega))).imp id λ⟨Z,z1,z2⟩=>⟨Z,z1,off5 (N0:=F.S.N) (h.w) (z2.mono ⟨Nand.Like.refl _,rfl,rfl⟩ (λi d hd j hj hj2=>?_) (i7 _) (J7 _)) (by omega)⟩;subst hj;rcases hd with rfl | rfl
  ·exact hcK j hj2
  ·rw[hc j hj2];exact h.kc j hj2
theorem flush (h:DevC D B P u (n+200) F c K) (hu:u<=2*lgN D B P+(D-2)):∃F',F.flush=(F',0)/\DevC D B P (u+(D-2)) n F' c K/\F'.L=[]/\
  ∀(cc:Nat) (kp:Int),(F.S.armed cc kp).Ok (UN*(n+200)) 0->(∃c',(F.armed cc kp).flush=(F'.armed c' kp,0))\/∃Z,(F.armed cc kp).flush=(Z,(9:Int))/\Lv5 D B P n K Z:=by
 have hU:UN*(n+200)=UN*n+UN*200:=a2u _ _ _;have hf:=a5x;have hf2:=b5G;obtain⟨W,hW,hc,hcK⟩:=h.w.fc;have hnx:=h.w.nx;have hle:=h.w.le;have hcnt:=h.cnt;have hlen:=h.len;obtain⟨e1,e2,e3⟩:=h.w.geo;have hkF:=(Fv.flush_keep (k:=UN*n) (m:=0) (h.w.ok.less (by omega))).1;have hFf:F.flush=Fv.flushGo F.L.length F:=by
  unfold Fv.flush;rw[hW.fi.ask,hW.fi.off,d6 l9]
 have hFa:∀cc kp,(F.armed cc kp).flush=Fv.flushGo F.L.length (F.armed cc kp):=λcc kp=>by
  unfold Fv.flush;rw[hW.asked,show(F.armed cc kp).off=false from hW.fi.off,d6 l9];rfl
 have hgn:∀(f:Nat) (G:Fv),G.L=[]->Fv.flushGo f G=(G,0):=λf G hG=>by
  cases f with
  | zero=>rfl
  | succ f=>rw[Fv.flushGo,d8 (by rw[hG];rfl)]
 by_cases hL:F.L=[]
 ·refine⟨F,by rw[hFf];exact hgn _ _ hL,⟨h.w.less (by omega),by omega,h.len,h.kc⟩,hL,λcc kp _=> .inl ⟨cc,by rw[hFa];exact hgn _ _ hL⟩⟩
 ·have hl1:=List.length_pos_iff.2 hL;have hm:=h.many (by omega);obtain⟨l,hl⟩:∃l,F.L.length=l+1:=⟨F.L.length-1,by omega⟩;have hcw:FI.costW=Dv.costM+8*Dv.fuel:=rfl;obtain⟨G,W',w1,w2,w3,w4,w5,w6,w7,w10,w11⟩:=hW.writesA (5*P+1) (k:=UN*n) (h.w.ok.dv.less (by omega)) (by omega) (by omega) (by rw[e3];exact hm);rw[e1]at w10;have hGL:G.L=[]:=n5 (by omega);have hgo:F.flush=(G,0):=by
   rw[hFf,hl,Fv.flushGo,d6 (by omega),w1];dsimp only;rw[d6 (by decide)];exact hgn _ _ hGL
  rw[hgo]at hkF;have h3:(D-1)*F.S.rows<=(D-1)*(G.S.rows+1):=y9 _ w10.2;rw[H3]at h3;refine⟨G,hgo,⟨⟨⟨W',w2,λi hi=>(w3 i).trans (hc i hi),λi hi=>?_⟩,hkF,by omega,w7.broken.trans h.w.br,h.w.like w7.like,by omega⟩,by omega,by rw[hGL];exact j7 _,h.kc⟩,hGL,λcc kp hA=>?_⟩
  ·rcases w4 i with e | e
   ·rw[e];exact hcK i hi
   ·rw[e,hc i hi];exact h.kc i hi
  ·rw[hFa,hl,Fv.flushGo,d6 (show¬(F.armed cc kp).L.length=0 by show¬F.L.length=0;omega)];rcases w11 cc kp (hA.less (by omega))with⟨c',hc'⟩ | ⟨Z,z1,z2⟩
   ·rw[hc'];dsimp only;rw[d6 (by decide)];exact .inl ⟨c',hgn _ _ hGL⟩
   ·rw[z1];dsimp only;rw[d8 (by decide)];refine .inr ⟨Z,rfl,off5 (N0:=F.S.N) h.w (z2.mono ⟨Nand.Like.refl _,rfl,rfl⟩ (λi d hd j hj hj2=>?_) (i7 _) (J7 _)) (by omega)⟩;subst hj;rcases hd with rfl | rfl
    ·exact hcK j hj2
    ·rw[hc j hj2];exact h.kc j hj2
end DevC
structure DevD (D B P u n:Nat) (c:Nat->List UInt8) (K:Nat->List UInt8->Prop) (Z:Fv):Prop where
 ok:Z.Ok (UN*n) 0
 lg:Z.lg=(lgN D B P:Int)
 st:(∃F,DevC D B P u n F c K/\(Z=F\/∃cc kp,Z=F.armed cc kp))\/Lv5 D B P n K Z
theorem Lv5.ask {D B P n:Nat} {K:Nat->List UInt8->Prop} {Z:Fv} (h:Lv5 D B P n K Z):Lv5 D B P n K Z.ask/\Z.ask.off=true:=by
 obtain⟨c,h1,h2⟩:=h;refine⟨⟨c,h1,h2⟩,?_⟩;show(Z.off||Z.S.N.off)=true;rw[h1.off];simp
theorem Lv5.less {D B P n k:Nat} {K:Nat->List UInt8->Prop} {Z:Fv} (h:Lv5 D B P n K Z) (hk:k<=n):Lv5 D B P k K Z:=by
 obtain⟨c,h1,h2⟩:=h;exact⟨c,h1.mono (i7 _) (i7 _) hk,h2⟩
namespace DevD
variable {D B P u n : Nat} {c : Nat → List UInt8} {K : Nat → List UInt8 → Prop} {Z : Fv}
theorem less (h:DevD D B P u n c K Z) {k:Nat} (hk:k<=n):DevD D B P u k c K Z:=
 ⟨h.ok.less (y9 _ hk),h.lg,h.st.imp (λ⟨F,h1,h2⟩=>⟨F,h1.less hk,h2⟩) λh=>h.less hk⟩
theorem cut {F:Fv} (h:DevC D B P u n F c K) (x kk:Int) (hx:0<=x/\x<=9223372036854775807):DevD D B P u n c K (F.setN (F.S.N.setCut x kk)):=by
 obtain⟨cn,rfl⟩:=f9 hx.1;have hA:F.setN (F.S.N.setCut cn kk)=F.armed cn (min (max kk 0) 32):=by
  show F.setN _=_;rw[a4w h.w.off];rfl
 have hok:=(h.w.devk h.kc).setC cn kk (by omega) hx.2;rw[hA]at hok ⊢;exact⟨hok,h.w.lgF, .inl ⟨F,h, .inr ⟨_,_,rfl⟩⟩⟩
theorem write (h:DevD D B P u (n+1) c K Z) (hu:u+2<=2*lgN D B P+(D-1)) {i:Nat} (hi:i<lgN D B P) {d:List UInt8} (hd:d.length=16) (hK:K i d) (hlg:lgN D B P<=200):DevD D B P (u+1) n (λj=>if(j:Int)=(i:Int)then d else c j) K (Z.write i d).1:=by
 have hU:UN*(n+1)=UN*n+UN:=H3 _ _;have hU2:=b4j;have hUc:UN=Fv.cW+1:=rfl;have hk:=Fv.waits_keep (F:=Z) (e:=⟨i,0,1,d⟩) (k:=UN*n) (h.ok.less (by omega)) hd;have hl:(Z.write i d).1.lg=(lgN D B P:Int):=(Fv.lg_like hk.2.like).trans h.lg;refine⟨hk.1,hl,?_⟩;show(∃F,DevC D B P (u+1) n F _ K/\((Z.waits ⟨i,0,1,d⟩).1=F\/∃cc kp,(Z.waits ⟨i,0,1,d⟩).1=F.armed cc kp))\/Lv5 D B P n K (Z.waits ⟨i,0,1,d⟩).1;rcases h.st with⟨F,h1,h2⟩ | h1
 ·obtain⟨F',r1,hF',r10⟩:=h1.waits hu (e:=⟨i,0,1,d⟩) hd ⟨K9 _,Int.ofNat_lt.2 hi⟩ ⟨⟨⟨K9 _,by show(i:Int)<=65535;omega⟩, .inl rfl,hd⟩,by show(1:Int)≠4;decide⟩ (λj e _=>by
   have e:(i:Int)=j:=e;obtain rfl:i=j:=by omega
   exact hK)
  rcases h2 with rfl | ⟨cc,kp,rfl⟩
  ·exact .inl ⟨F',hF', .inl (by rw[r1])⟩
  ·rcases r10 cc kp h.ok.dv with⟨c',hc'⟩ | ⟨Z,z1,z2⟩
   ·exact .inl ⟨F',hF', .inr ⟨c',kp,by rw[hc']⟩⟩
   ·right;rw[z1];exact z2
 ·right;have:Z.waits ⟨i,0,1,d⟩=(Z.ask,9):=by unfold Fv.waits;rw[h1.ask.2,d8 rfl]
  rw[this];exact h1.ask.1.less (by omega)
theorem flush (h:DevD D B P u (n+200) c K Z) (hu:u<=2*lgN D B P+(D-2)):∃c',(∀i:Nat,i<lgN D B P->K i (c' i))/\(Lv D B P 1 5 n c' (Z.flush.1.S.N.setCut (-1) 0)\/Lv D B P 0 4 n c' (Z.flush.1.S.N.setCut (-1) 0)):=by
 have hU:UN*(n+200)=UN*n+UN*200:=a2u _ _ _;have hf:=a5x;have hk:=(Fv.flush_keep (k:=UN*n) (m:=0) (h.ok.less (by omega))).1;have hoff:∀{Y:Fv},Lv5 D B P n K Y->∃c',(∀i:Nat,i<lgN D B P->K i (c' i))/\(Lv D B P 1 5 n c' (Y.S.N.setCut (-1) 0)\/Lv D B P 0 4 n c' (Y.S.N.setCut (-1) 0)):=λ⟨c',h1,h2⟩=>by
  refine⟨c',h2, .inl ?_⟩;unfold Nand.setCut;rw[h1.off,d8 rfl];exact h1
 rcases h.st with⟨F,h1,h2⟩ | h1
 ·obtain⟨F',r1,hF',r8,r10⟩:=h1.flush hu;obtain⟨W,hW,hc,hcK⟩:=hF'.w.fc;have hg:=hF'.w.ok.dv.gd.ok.bd16;have hrw:=hW.rows;rw[hF'.w.geo.2.2]at hrw hg;have hnx:=hF'.w.nx;have hN:∀{N1:Nand},N1.Gd (UN*n) 0->N1.off=false->F'.S.N.Like N1->N1.dead=F'.S.N.dead->N1.plan=F'.S.N.plan->N1.broken=F'.S.N.broken->N1.blk=F'.S.N.blk->∃c',(∀i:Nat,i<lgN D B P->K i (c' i))/\(Lv D B P 1 5 n c' (N1.setCut (-1) 0)\/Lv D B P 0 4 n c' (N1.setCut (-1) 0)):=λx1 x2 x3 x4 x5 x6 x7=>
   ⟨λi=>cur W [] i,hcK, .inr (Lv.rest hW.cm hW.trn hF'.w.ok.dv x1 x2 x3 x4 x5 x6 x7 hF'.w.geo hF'.w.br (by omega) hW.fi.wr (λ_ _=>rfl) (by omega) hF'.w.cap hF'.w.le)⟩
  rcases h2 with rfl | ⟨cc,kp,rfl⟩
  ·rw[r1]at hk ⊢;exact hN hk.dv.gd hF'.w.off (Nand.Like.refl _) rfl rfl rfl rfl
  ·rcases r10 cc kp h.ok.dv with⟨c',hc'⟩ | ⟨Z,z1,z2⟩
   ·rw[hc']at hk ⊢;exact hN hk.dv.gd hF'.w.off ⟨rfl,rfl,rfl⟩ rfl rfl rfl rfl
   ·rw[z1];exact hoff z2
 ·have:Z.flush=(Z.ask,9):=by unfold Fv.flush;rw[h1.ask.2,d8 rfl]
  rw[this];exact hoff (h1.ask.1.less (by omega))
end DevD
def CtI (D B P n i:Nat) (K:Nat->List UInt8->Prop) (N:Nand):Prop:=∃c,(∀j:Nat,j<lgN D B P->K j (c j))/\if i % 2=0 then Lv D B P 1 5 n c (N.setCut (-1) 0)\/Lv D B P 0 4 n c (N.setCut (-1) 0)else Lv D B P 2 4 n c (N.setCut (-1) 0)\/Lv D B P 1 3 n c (N.setCut (-1) 0)
namespace CtI
variable {D B P n i : Nat} {K : Nat → List UInt8 → Prop} {N : Nand}
theorem gd (h:CtI D B P n i K N):N.cyc.Gd (UN*n) 0/\N.cyc.off=false:=by
 obtain⟨c,_,h2⟩:=h;refine⟨?_,rfl⟩;show(N.setCut (-1) 0).onN.Gd _ _;split at h2
 ·rcases h2 with h2 | h2<;>exact h2.gd
 ·rcases h2 with h2 | h2<;>exact h2.gd
theorem whole (h:CtI D B P (n+1000) i K N):N.cyc.Gd (Dv.costK+UN*n) 0/\(G9 N.cyc).2=0/\∃c,DevW D B P (Fv.of (G9 N.cyc).1) n c K/\∀j:Nat,j<lgN D B P->K j (c j):=by
 have hG:=h.gd.1.less (m':=0) (a5y n) (i7 _);obtain⟨c,h1,h2⟩:=h;have h3:Lv D B P 3 3 (n+1000) c (N.setCut (-1) 0):=by
  split at h2
  ·rcases h2 with h2 | h2<;>exact h2.mono (by omega) (by omega) (i7 _)
  ·rcases h2 with h2 | h2<;>exact h2.mono (by omega) (by omega) (i7 _)
 obtain⟨a,b⟩:=h3.whole (.inl ⟨rfl,rfl⟩) h1;exact⟨hG,a,c,b,h1⟩
theorem rest {F:Fv} {c:Nat->List UInt8} (h:DevW D B P F n c K) (hL:F.L=[]) (hk:∀j:Nat,j<lgN D B P->K j (c j)) (he:i % 2=0):CtI D B P n i K F.S.N:=by
 obtain⟨W,hW,hc,hcK⟩:=h.fc;have hg:=h.ok.dv.gd.ok.bd16;have hrw:=hW.rows;rw[h.geo.2.2]at hrw hg;have hnx:=h.nx;refine⟨c,hk,?_⟩;rw[d8 he];exact .inr (Lv.rest hW.cm hW.trn h.ok.dv h.ok.dv.gd h.off (Nand.Like.refl _) rfl rfl rfl rfl h.geo h.br (by omega) hW.fi.wr (λj hj=>by have:=hc j hj;rw[hL]at this;exact this) (by omega) h.cap h.le)
theorem one (h:CtI D B P (n+1000) i K N) (he:i % 2=0) (o kk:Int) (ho:0<=o/\o<=9223372036854775807):(N.cyc.setCut o kk).Gd (Dv.costK+UN*n) 0/\CtI D B P n (i+1) K (G9 (N.cyc.setCut o kk)).1.N:=by
 obtain⟨c,h1,h2⟩:=h;rw[d8 he]at h2;have hn:¬(i+1) % 2=0:=by omega
 rcases h2 with h2 | h2
 ·obtain⟨a,b⟩:=h2.armd (by omega) (by omega) o kk ho;refine⟨a,c,h1,?_⟩;rw[d6 hn];rcases b with b | ⟨b,_⟩
  ·exact .inl b
  ·omega
 ·obtain⟨a,b⟩:=h2.armd (by omega) (by omega) o kk ho;refine⟨a,c,h1,?_⟩;rw[d6 hn];rcases b with b | ⟨b,_⟩
  ·exact .inr b
  ·omega
theorem two (h:CtI D B P (n+2000) i K N) (he:i % 2=1) (o kk:Int) (ho:0<=o/\o<=9223372036854775807):(N.cyc.setCut o kk).Gd (Dv.costK+UN*n) 0/\∃N2,(G9 (N.cyc.setCut o kk)).1.N=N2/\N2.cyc.Gd (Dv.costK+UN*n) 0/\(G9 N2.cyc).2=0/\CtI D B P n (i+1) K (G9 N2.cyc).1.N:=by
 obtain⟨c,h1,h2⟩:=h;rw[d6 (by omega)]at h2;have key:∀x b,x<=2->3<=b/\b<=5->(x+1=3/\b-1=3\/x+1=2/\b-1=2)->(x=2->b-2=2)->Lv D B P x b (n+2000) c (N.setCut (-1) 0)->(N.cyc.setCut o kk).Gd (Dv.costK+UN*n) 0/\∃N2,(G9 (N.cyc.setCut o kk)).1.N=N2/\N2.cyc.Gd (Dv.costK+UN*n) 0/\(G9 N2.cyc).2=0/\CtI D B P n (i+1) K (G9 N2.cyc).1.N:=λx b hx hb h3 h4 hv=>by
  obtain⟨a,q⟩:=Lv.armd (n:=n+1000) hv hx hb o kk ho;refine⟨a.less (m':=0) (Nat.add_le_add_left (y9 UN (show n<=n+1000 by omega)) _) (i7 _),_,rfl,?_⟩;have fin:∀x' b',(x'=3/\b'=3\/x'=2/\b'=2)->Lv D B P x' b' (n+1000) c ((G9 (N.cyc.setCut o kk)).1.N.setCut (-1) 0)->(G9 (N.cyc.setCut o kk)).1.N.cyc.Gd (Dv.costK+UN*n) 0/\(G9 (G9 (N.cyc.setCut o kk)).1.N.cyc).2=0/\CtI D B P n (i+1) K (G9 (G9 (N.cyc.setCut o kk)).1.N.cyc).1.N:=λx' b' h5 h6=>by
   obtain⟨y1,y2⟩:=h6.whole h5 h1;exact⟨h6.gd.less (m':=0) (a5y n) (i7 _),y1,CtI.rest y2 rfl h1 (by omega)⟩
  rcases q with q | ⟨e,q⟩
  ·exact fin _ _ h3 q
  ·exact fin 2 (b-2) (.inr ⟨rfl,h4 e⟩) q
 rcases h2 with h2 | h2
 ·exact key 2 4 (by omega) (by omega) (.inl ⟨rfl,rfl⟩) (λ_=>rfl) h2
 ·exact key 1 3 (by omega) (by omega) (.inr ⟨rfl,rfl⟩) (λe=>by omega) h2
end CtI
end Go.Proofs.YtmafiplddapokaaGreat
