/- Helpers, proved here. No condition. -/
import Derived.Test.YtdocmcapegcoeaaGreatC06
import Derived.Test.YtdocmcapegcoeaaGreatC13
import Derived.Test.YtdocmcapegcoeaaGreatC14
import Derived.Test.YtdocmcapegcoeaaGreatC18
import Derived.Test.YtdocmcapegcoeaaGreatC22
import Derived.Test.YtdocmcapegcoeaaGreatC24
import Derived.Test.YtdocmcapegcoeaaGreatC25
import Derived.Test.YtdocmcapegcoeaaGreatC28
set_option maxRecDepth 20000
set_option linter.all false
namespace Go.Proofs.YtdocmcapegcoeaaGreat
open Go
theorem page_toNat (N:Nand) (d b r:Int):N.pageAt d b r=N.pageAt (d.toNat:Int) b r:=by unfold Nand.pageAt;rw[Int.toNat_natCast]
namespace TornR
variable {N N' : Nand} {b r kp : Int} {q : List (Int × Sh)} {c : Nat}
theorem page (t:TornR N N' b r q c kp) (hq:RdyR N b r q) (hno:∀x∈q,N.dead.getD x.1.toNat false=false) {d b0 r0:Int} (hb:0<=b0) (hr:0<=r0) (hne:b0=b->r0≠r):N'.pageAt d b0 r0=N.pageAt d b0 r0:=by
 unfold Nand.pageAt
 by_cases e:b0=b
 ·by_cases hx:∀x∈q,x.1.toNat≠d.toNat
  ·rw[t.rest _ _ (.inr hx)]
  ·simp only[Classical.not_forall,not_imp,Decidable.not_not]at hx;obtain⟨x,hx,hxd⟩:=hx;obtain⟨k,hk⟩:=List.getElem?_of_mem hx;have hc:=t.cells k x hk;have hl:=hq.cells x hx (hno x hx);rw[hxd,<- e]at hc hl;rw[hc];have:=hne e;have:=hq.row;rw[List.getElem?_append];split
   ·rfl
   ·rw[List.getElem?_eq_none (by split;(· simp only[List.length_cons,List.length_nil];omega);split;(· simp only[List.length_cons,List.length_nil];omega);simp),List.getElem?_eq_none (by omega)]
 ·rw[t.rest _ _ (.inl (by have:=hq.blk;omega))]
theorem at_ (t:TornR N N' b r q c kp) (hq:RdyR N b r q) (hno:∀x∈q,N.dead.getD x.1.toNat false=false) {k:Nat} {x:Int×Sh} (hk:q[k]? =some x) {y:NCell} (hy:N'.pageAt x.1 b r=some y):y.p=putP x.2\/y.turned=true/\y.p=Nand.fillP kp.toNat (putP x.2):=by
 have hx:=List.mem_of_getElem? hk;have hl:=hq.cells x hx (hno x hx);have hr:=hq.row;unfold Nand.pageAt at hy;rw[t.cells k x hk,List.getElem?_append_right (by omega),show r.toNat-(N.blk x.1.toNat b.toNat).cells.length=0 from by omega]at hy;split at hy
 ·injection hy with hy;exact .inl (by rw[<- hy])
 ·split at hy
  ·injection hy with hy;exact .inr (by rw[<- hy];exact⟨rfl,rfl⟩)
  ·cases hy
end TornR
def DscA (C:En->Prop) (N:Nand):Prop:=∀b r:Nat,b<N.blocks->r<N.pages->Dsc C N b r
theorem DscA.new (C:En->Prop) (D B P:Nat):DscA C (Nand.new D B P):=λb r _ _=> .inl λd c hc=>by
 have:(Nand.new D B P).pageAt d b r=none:=by unfold Nand.pageAt Nand.new;simp
 rw[this]at hc;cases hc
namespace DscA
variable {C : En → Prop} {N N' : Nand} {Q : Dv} {l : List En} {k m : Nat}
theorem less (h:DscA C N) (hl:N.Like N') (hp:∀(d:Int) (b r:Nat) (c:NCell),N'.pageAt d b r=some c->c.lost=true\/N.pageAt d b r=some c):DscA C N':=λb r hb hr=>
 (h b r (by rw[<- hl.blocks];exact hb) (by rw[<- hl.pages];exact hr)).less hl λd c=>hp d b r c
theorem kind (hC:∀i,i<l.length->i<(G.slots Q.mask).toNat->C {l.getD i En.zero with seq:=Q.next+i}):∀e∈Q.es l,e.role=3\/C e:=λe he=>by
 rcases num_mem he with⟨i,hi,hin,rfl⟩ | rfl
 ·exact .inr (hC i hi hin)
 ·exact .inl rfl
theorem wrote (h:DscA C Q.N) (hQ:Inv (-1) Q) (hO:Q.Ok k m) (hl:Last (-1) Q l) (hf:∀e∈l,FitR e) (hm:Q.mask=L.all Q.N.dies) (hC:∀e∈Q.es l,e.role=3\/C e):DscA C (wroteP Q l).N:=λb r hb hr=>by
 have hR:=hQ.rowIs hO hl.left hf hl.bd;have ho:=hQ.opn hl.left;have hrdy:RdyW Q.N Q.op Q.row Q.mask:=⟨hQ.lit,λd hd ha=>(ho.cells d hd).2 ha⟩;have hq:=hrdy.rdy hR;have w3:WroteR Q.N (wroteP Q l).N Q.op Q.row (R.job Q.op Q.row Q.mask (Q.es l)):=(write_R hrdy hR).2.2;have hlk:Q.N.Like (wroteP Q l).N:=hl.turn.like
 by_cases e:(b:Int)=Q.op/\(r:Int)=Q.row
 ·right;have hF:Full (-1) (wroteP Q l).N Q.op Q.row Q.mask (Q.es l):=hl.turn.full;rw[hlk.dies,<- hm,e.1,e.2];exact⟨Q.es l,hF.is,hF.inn,hC⟩
 ·refine(h b r (by rw[<- hlk.blocks];exact hb) (by rw[<- hlk.pages];exact hr)).less hlk λd c hc=> .inr ?_;rw[page_toNat]at hc ⊢;rw[<- w3.page hq (Int.natCast_nonneg _) (Int.natCast_nonneg _) (Int.natCast_nonneg _) λe1 e2=>e ⟨e1,e2⟩];exact hc
theorem torn (h:DscA C Q.N) (hQ:Inv (-1) Q) (hO:Q.Ok k m) (hno:NoF Q) (hl:Last (-1) Q l) (hf:∀e∈l,FitR e) (hm:Q.mask=L.all Q.N.dies) (hC:∀e∈Q.es l,e.role=3\/C e) {c:Nat} {kp:Int} (hk:kp<=32) (t:TornR Q.N N' Q.op Q.row (R.job Q.op Q.row Q.mask (Q.es l)) c kp):DscA C N'/\∀i a,Std (-1) Q i a->∀d:Int,N'.pageAt d a.block a.row=Q.N.pageAt d a.block a.row:=by
 have hR:=hQ.rowIs hO hl.left hf hl.bd;have ho:=hQ.opn hl.left;have hrdy:RdyW Q.N Q.op Q.row Q.mask:=⟨hQ.lit,λd hd ha=>(ho.cells d hd).2 ha⟩;have hq:=hrdy.rdy hR;have hdd:∀x∈R.job Q.op Q.row Q.mask (Q.es l),Q.N.dead.getD x.1.toNat false=false:=λx _=>hno.dead _;refine⟨λb r hb hr=>?_,λi a ha d=>?_⟩
 ·by_cases e:(b:Int)=Q.op/\(r:Int)=Q.row
  ·right;rw[t.like.dies,<- hm,e.1,e.2];refine⟨Q.es l,hR.like t.like,λx hx c hc=>?_,hC⟩;obtain⟨k,hk2⟩:=List.getElem?_of_mem hx;rcases t.at_ hq hdd hk2 hc with e3 | ⟨e4,e3⟩
   ·exact .inr (.inl e3)
   ·exact .inr (.inr ⟨e4, .inr ⟨kp.toNat,by omega,e3⟩⟩)
  ·refine(h b r (by rw[<- t.like.blocks];exact hb) (by rw[<- t.like.pages];exact hr)).less t.like λd c hc=> .inr ?_;rw[<- t.page hq hdd (Int.natCast_nonneg _) (Int.natCast_nonneg _) λe1 e2=>e ⟨e1,e2⟩];exact hc
 ·obtain⟨lr,g1,_⟩:=ha.row;exact t.page hq hdd g1.is.blk.1 g1.is.row.1 λe1 e2=>by have:=ha.below e1;omega
end DscA
theorem scan_found {C:En->Prop} {Q:Dv} {N2:Nand} {n:Nat} (hn:n<=65536) (hQ:Inv (-1) Q) (hno:NoF Q) (hd:DscA C N2) (hC:∀e,C e->e.role=1\/e.role=2\/e.role=4) (hoff:N2.off=false) (hl:Q.N.Like N2) (hdead:N2.dead=Q.N.dead) {i:Nat} {a:AtV} (hi:i<n) (ha:Tb.look Q.T.at_ (i:Int)=some a) (hr:a.role≠3) (hm:a.mask=L.all Q.N.dies) (hp:∀d:Int,N2.pageAt d a.block a.row=Q.N.pageAt d a.block a.row):∃x e,Tb.look (V.scan N2 n).tb.at_ (i:Int)=some x/\C e/\e.lpn=i/\x.seq=e.seq/\R.read N2 x.block x.row x.slot x.mask=(e,0):=by
 obtain⟨s1,s2⟩:=scan_dsc hn hoff hd hC i;have hst:=hQ.st _ a ha;obtain⟨l,g1,g2,g3,g4,g5,g6⟩:=hst.row;have hblk:=g1.is.blk;have hrow:=g1.is.row;have hall:R.all N2 a.block a.row=R.all Q.N a.block a.row:=R.all_same hl (by rw[hoff,hQ.lit.off]) (λi=>by rw[hdead]) hp;rw[hm]at g1;obtain⟨f,hf,hfe⟩:=g1.found hQ.lit.off (λi _=>hno.dead i) g3 (by rw[g6];exact hr);obtain⟨x,hx⟩:=s2 hi ⟨a.block.toNat,a.row.toNat,by rw[hl.blocks];omega,by rw[hl.pages];omega,f,by rw[Int.toNat_of_nonneg hblk.1,Int.toNat_of_nonneg hrow.1,hall];exact hf,by rw[hfe];exact g4⟩;obtain⟨e,e1,e2,e3,e4⟩:=s1 x hx;exact⟨x,e,hx,e1,e2,e3,e4⟩
namespace Inv
variable {fd : Int} {S : Dv} {k m : Nat}
end Inv
namespace Inv
variable {fd : Int} {S : Dv} {k m : Nat}
end Inv
namespace Inv
variable {fd : Int} {S : Dv} {k m : Nat}
end Inv
namespace Inv
variable {fd : Int} {S : Dv} {k m : Nat}
end Inv
namespace Inv
variable {fd : Int} {S : Dv} {k m : Nat} {W : List (Int × En)}
end Inv
theorem nodup_len {α:Type} [BEq α] [LawfulBEq α]:∀{K M:List α},K.Nodup->(∀x∈K,x∈M)->K.length<=M.length
 | [],M,_,_=>Nat.zero_le _
 | x::K,M,h,hs=>by
  obtain⟨h1,h2⟩:=List.nodup_cons.1 h;have hx:=hs x (by simp);have h3:=nodup_len (M:=M.erase x) h2 λy hy=>by
   have hne:y≠x:=λe=>h1 (by rw[<- e];exact hy);exact(List.mem_erase_of_ne hne).2 (hs y (by simp[hy]))
  rw[List.length_erase_of_mem hx]at h3;have:=List.length_pos_of_mem hx;rw[List.length_cons];omega
theorem ins_len {T:Tb} (h:T.Ok) (b:Int):(T.ins b).length<=Tb.cntB T.at_ b:=by
 unfold Tb.ins;split
 ·exact Nat.zero_le _
 ·have h1:(Tb.inK T b T.logical.toNat).Nodup:=by
   unfold Tb.inK;exact List.pairwise_map.2 ((List.nodup_range.filter _).imp λhne e=>hne (by omega))
  have h2:=nodup_len (M:=(T.at_.filter λx=>x.2.block==b).map (·.1)) h1 λx hx=>by
   simp only[Tb.inK,List.mem_map,List.mem_filter,List.mem_range]at hx;obtain⟨i,⟨_,hi⟩,rfl⟩:=hx;unfold Tb.inB at hi;cases ha:Tb.look T.at_ (i:Int)with
   | none=>rw[ha]at hi;cases hi
   | some a=>
    rw[ha]at hi;exact List.mem_map.2 ⟨((i:Int),a),List.mem_filter.2 ⟨Tb.look_mem ha,hi⟩,rfl⟩
  rw[List.length_map]at h2;unfold Tb.cntB;rw[List.countP_eq_length_filter];exact h2
theorem ins_in {T:Tb} {b i:Int} (h:i∈T.ins b):∃a,Tb.look T.at_ i=some a/\a.block=b:=by
 unfold Tb.ins at h;split at h
 ·cases h
 ·simp only[Tb.inK,List.mem_map,List.mem_filter,List.mem_range]at h;obtain⟨j,⟨_,hj⟩,rfl⟩:=h;unfold Tb.inB at hj;cases ha:Tb.look T.at_ (j:Int)with
  | none=>rw[ha]at hj;cases hj
  | some a=>rw[ha]at hj;exact⟨a,rfl,by simpa using hj⟩
namespace Rmy
variable {fd : Int} {S : Dv} {k m β : Nat} {W : List (Int × En)}
end Rmy
namespace Rmy
variable {fd : Int} {S : Dv} {k m β : Nat} {W : List (Int × En)}
end Rmy
namespace Rmy
variable {fd : Int} {S : Dv} {k m β : Nat} {W : List (Int × En)}
end Rmy
structure CutI (C:En->Prop) (W:List (Int×En)) (S:Dv):Prop where
 inv:Inv (-1) S
 no:NoF S
 hd:Hd S W
 msk:∀i a,Tb.look S.T.at_ i=some a->a.mask=L.all S.N.dies
 dsc:DscA C S.N
structure RestI (C:En->Prop) (W:List (Int×En)) (S:Dv) (N':Nand):Prop where
 ci:CutI C W S
 dsc:DscA C N'
 like:S.N.Like N'
 dead:N'.dead=S.N.dead
 broken:N'.broken=S.N.broken
 pages:∀i a,Tb.look S.T.at_ i=some a->∀d:Int,N'.pageAt d a.block a.row=S.N.pageAt d a.block a.row
namespace CutI
variable {C : En → Prop} {W : List (Int × En)} {S : Dv} {k m : Nat} {l : List En}
theorem pen (h:CutI C W S) (hO:S.Ok (8*Dv.fuel+k) m) (hr:0<S.rows) (hf:∀e∈l,FitR e) (hl0:l.length≠0) (hnd:(l.map (·.lpn)).Nodup) (hlg:∀e∈l,e.lpn<S.T.logical) (hnx:S.next<=1099511627775-7) (hC:∀i,i<l.length->i<S.N.dies-1->C {l.getD i En.zero with seq:=S.next+i}):
  S.pen l=(wroteP S.at1 l,(S.at1.fit l:Int),(0:Int))/\S.at1.fit l=min l.length (S.N.dies-1)/\CutI C (wput W l (S.at1.fit l)) (wroteP S.at1 l)/\(wroteP S.at1 l).Ok k m/\(wroteP S.at1 l).rows+1=S.rows/\(wroteP S.at1 l).next=S.next+(S.at1.fit l:Int)/\(wroteP S.at1 l).T.logical=S.T.logical/\S.N.Like (wroteP S.at1 l).N/\(wroteP S.at1 l).N.broken=S.N.broken/\(wroteP S.at1 l).N.dead=S.N.dead/\
  ∀(c:Nat) (kp:Int),kp<=32->(S.N.dies<=c->(S.armed c kp).pen l=((wroteP S.at1 l).armed (c-S.N.dies) kp,(S.at1.fit l:Int),(0:Int)))/\(c<S.N.dies->∃N',(S.armed c kp).pen l=({S.at1.wrote l with N:=N'},(0:Int),(9:Int))/\RestI C W S N'):=by
 have hg:=hO.gd.ok.bd16;obtain⟨p1,p2,p3,p4⟩:=h.inv.pen_calm hO h.no hr hf hl0 hnx;have hdt:∀x∈l,x.data.length=16:=λx hx=>(hf x hx).len;have hok:=Dv.pen_keep hO hdt;rw[p1]at hok;have hat:=Dv.at1_like S;have ho:=p2.inv.opn p4.left;have hms:=ho.mask;rw[hat.1]at hms;obtain⟨m1,m2⟩:=msk_all hms hg.1;have hmQ:S.at1.mask=L.all S.at1.N.dies:=by rw[hat.1];exact m1
 have hfit:S.at1.fit l=min l.length (S.N.dies-1):=by unfold Dv.fit;rw[m2];omega
 have hlgQ:∀e∈l,e.lpn<S.at1.T.logical:=λe he=>by rw[hat.2.1];exact hlg e he
 obtain⟨l1,l2⟩:=p4.look p2.inv p3 hf hlgQ hnd;have hH:=(h.hd.went h.inv p2).wrote p2.inv p3 p4 hf hlgQ hnd;have hkind:∀e∈S.at1.es l,e.role=3\/C e:=DscA.kind λi hi hi2=>by
  rw[hat.2.2];exact hC i hi (by rw[m2]at hi2;omega)
 have hdQ:DscA C S.at1.N:=by rw[hat.1];exact h.dsc
 have hlk:S.N.Like (wroteP S.at1 l).N:=p2.like.trans p4.turn.like;have hrw:=p4.rows p2.inv;have hrw2:=p2.rows;refine⟨p1,hfit,⟨p4.inv p2.inv p3,(h.no.went p2).wrote p4,hH,λi a ha=>?_,hdQ.wrote p2.inv p3 p4 hf hmQ hkind⟩,hok.1,by omega,?_,hok.2.2,hlk,p4.turn.broken.trans p2.broken,p4.turn.dead.trans p2.dead,λc kp hk=>?_⟩
 ·by_cases hex:∃j,j<S.at1.fit l/\(l.getD j En.zero).lpn=i
  ·obtain⟨j,hj,rfl⟩:=hex;rw[l1 j hj]at ha;injection ha with ha;rw[<- ha,hlk.dies];exact m1
  ·rw[l2 i λj hj e=>hex ⟨j,hj,e⟩,hat.2.1]at ha;rw[hlk.dies];exact h.msk i a ha
 ·show S.at1.next+(S.at1.fit l:Int)=_;rw[hat.2.2]
 ·obtain⟨g1,g2⟩:=h.inv.pen_arm (c:=c) (kp:=kp) hO h.no hr hf hl0 hnx;refine⟨g1,λhc=>?_⟩;obtain⟨N',g3,g4⟩:=g2 hc;rw[<- hat.1]at g4;obtain⟨d1,d2⟩:=hdQ.torn p2.inv p3 (h.no.went p2) p4 hf hmQ hkind hk g4;refine⟨N',g3,h,d1,by have:=g4.like;rw[hat.1]at this;exact this,by have:=g4.dead;rw[hat.1]at this;exact this,by have:=g4.broken;rw[hat.1]at this;exact this,λi a ha d=>?_⟩;have:=d2 i a (p2.inv.st i a (by rw[hat.2.1];exact ha)) d;rw[hat.1]at this;exact this
theorem found {N':Nand} (h:RestI C W S N') {n:Nat} (hn:n<=65536) (hC:∀e,C e->e.role=1\/e.role=2\/e.role=4) {i:Nat} {e:En} (hi:i<n) (he:Tb.look W (i:Int)=some e) (hr:e.role≠3):∃x y,Tb.look (V.scan N'.onN n).tb.at_ (i:Int)=some x/\C y/\y.lpn=i/\x.seq=y.seq/\R.read N'.onN x.block x.row x.slot x.mask=(y,0):=by
 obtain⟨_,a,ha,hra⟩:=h.ci.hd.each _ _ he;obtain⟨y,hy,_,_,hyr⟩:=h.ci.inv.read ha;rw[hra]at hy;have:y.role=e.role:=by injection hy with hy;rw[<- hy]
 exact scan_found (N2:=N'.onN) hn h.ci.inv h.ci.no (λb r hb hr=>(h.dsc b r hb hr).less ⟨rfl,rfl,rfl⟩ λ_ _ hc=> .inr hc) hC rfl ⟨h.like.dies,h.like.blocks,h.like.pages⟩ h.dead hi ha (by rw[<- hyr,this];exact hr) (h.ci.msk _ a ha) (λd=>h.pages _ a ha d)
theorem swap' {E:List En} {n:Nat} (h:CutI C (wput W E n) S) (hE:∀j,j<n->∃e sq,Tb.look W (E.getD j En.zero).lpn=some e/\E.getD j En.zero={e with seq:=sq}) (hd:∀i j,i<j->j<n->(E.getD i En.zero).lpn≠(E.getD j En.zero).lpn):CutI C W S:=⟨h.inv,h.no,h.hd.swap hE hd,h.msk,h.dsc⟩
end CutI
namespace Hd
theorem rds_arm {S:Dv} (c:Nat) (kp:Int):∀L:List Int,(S.armed c kp).rds L=S.rds L
 | []=>rfl
 | i::L=>by rw[Dv.rds,Dv.rds,rds_arm c kp L];rfl
end Hd
theorem CutI.carry {C:En->Prop} {W:List (Int×En)} {m:Nat} {kp:Int} (hW:WOk W) (hk:kp<=32) (hC:∀i e sq,Tb.look W i=some e->C {e with seq:=sq}):∀(f:Nat) (S:Dv) (I:List Int) (done:Int) (c ρ k:Nat),CutI C W S->S.Ok (Dv.cost*f+k) m->I.length<=f->(∀i∈I,(Tb.look W i).isSome=true)->I.Nodup->I.length<=(S.N.dies-2)*ρ->ρ<=S.rows->S.next+14*(f:Int)<=1099511627775-1300->
  (∃Q c',Dv.carryGo f (S.armed c kp) I done=(Q.armed c' kp,done+(I.length:Int),(0:Int))/\CutI C W Q/\Q.Ok k m/\S.N.Like Q.N/\Q.N.broken=S.N.broken)\/
  (∃Q V n,Dv.carryGo f (S.armed c kp) I done=(V,n,(9:Int))/\RestI C W Q V.N/\S.N.Like Q.N/\Q.N.broken=S.N.broken)
 | 0,S,I,done,c,ρ,k,h,hO,hL,_,_,_,_,_=>by
  have:I=[]:=List.eq_nil_of_length_eq_zero (by omega);subst this;exact .inl ⟨S,c,by show(S.armed c kp,done,(0:Int))=_;simp,h,hO.less (by omega),Nand.Like.refl _,rfl⟩
 | f+1,S,I,done,c,ρ,k,h,hO,hL,hin,hnd,hlen,hrw,hnx=>by
  by_cases hl0:I.length=0
  ·have:I=[]:=List.eq_nil_of_length_eq_zero hl0;subst this;exact .inl ⟨S,c,by rw[Dv.carryGo,if_pos (show([]:List Int).length=0 from rfl)];simp,h,hO.less (by omega),Nand.Like.refl _,rfl⟩
  ·have hg:=hO.gd.ok.bd16;have hρ:1<=ρ:=by
    rcases Nat.eq_zero_or_pos ρ with e | e
    ·subst e;omega
    ·exact e
   obtain⟨s1,s2⟩:=h.inv.slots_pos hO (by omega);obtain⟨z,hz⟩:∃z,(max S.slots 1).toNat=z:=⟨_,rfl⟩;have hz2:S.N.dies-2<=z/\1<=z:=by omega
   obtain⟨E,e1,e2,e3,e4,e5⟩:=h.hd.rds hW (I.take z) λi hi=>hin i (List.mem_of_mem_take hi);have hEl:E.length=min z I.length:=by rw[e2,List.length_take]
   have hnd2:(E.map (·.lpn)).Nodup:=by rw[e3];exact hnd.sublist (List.take_sublist _ _)
   have hget:∀j,j<E.length->(E.getD j En.zero).lpn=I.getD j 0:=λj hj=>by
    have h1:(E.map (·.lpn))[j]? =(I.take z)[j]?:=by rw[e3]
    rw[List.getElem?_map,List.getElem?_take,if_pos (by omega),List.getElem?_eq_getElem hj]at h1;rw[List.getD_eq_getElem?_getD,List.getD_eq_getElem?_getD,List.getElem?_eq_getElem hj,<- h1];rfl
   have hlgE:∀e∈E,e.lpn<S.T.logical:=λe he=>by
    have:e.lpn∈I.take z:=by rw[<- e3];exact List.mem_map_of_mem he
    have h1:=hin _ (List.mem_of_mem_take this);obtain⟨w,hw⟩:=Option.isSome_iff_exists.1 h1;obtain⟨_,a,ha,_⟩:=h.hd.each _ _ hw;exact(hO.T.rng _ (Tb.look_mem ha)).2
   have hkind:∀i,i<E.length->i<S.N.dies-1->C {E.getD i En.zero with seq:=S.next+i}:=λi hi _=>by
    obtain⟨e,sq,w1,w2⟩:=e5 i (by rw[<- e2];exact hi);rw[w2];exact hC _ e _ w1
   obtain⟨p1,p2,p3,p4,p5,p6,p7,p8,p9,p10,p11⟩:=h.pen (k:=Dv.cost*f+k) (by have:Dv.cost*(f+1)=Dv.cost*f+Dv.cost:=Nat.mul_succ _ _;exact hO.less (by unfold Dv.cost at this ⊢;omega)) (by omega) e4 (by omega) hnd2 hlgE (by omega) hkind;obtain⟨n,hn⟩:∃n,S.at1.fit E=n:=⟨_,rfl⟩;obtain⟨U,hU⟩:∃U,wroteP S.at1 E=U:=⟨_,rfl⟩;rw[hn]at p2 p3 p6 p11;rw[hU]at p3 p4 p5 p6 p7 p8 p9 p10 p11;have hnE:n<=E.length:=by omega
   have hdisj:∀i j,i<j->j<n->(E.getD i En.zero).lpn≠(E.getD j En.zero).lpn:=λi j hij hj e=>by
    rw[hget i (by omega),hget j (by omega)]at e;have g1:i<I.length:=by omega
    have g2:j<I.length:=by omega
    rw[List.getD_eq_getElem?_getD,List.getD_eq_getElem?_getD,List.getElem?_eq_getElem g1,List.getElem?_eq_getElem g2]at e;have h3:I[i]? =I[j]?:=by rw[List.getElem?_eq_getElem g1,List.getElem?_eq_getElem g2];simpa using e
    have:=(List.getElem?_inj g1 hnd).1 h3;omega
   have hCU:CutI C W U:=p3.swap' (λj hj=>e5 j (by rw[<- e2];omega)) hdisj;obtain⟨q1,q2⟩:=p11 c kp hk;have hstep:Dv.carryGo (f+1) (S.armed c kp) I done=(let w:=(S.armed c kp).pen E;if w.2.2≠0 then(w.1,done+w.2.1,w.2.2)else Dv.carryGo f w.1 (I.drop w.2.1.toNat) (done+w.2.1)):=by
    rw[Dv.carryGo,if_neg hl0,show(S.armed c kp).slots=S.slots from rfl,hz];dsimp only;rw[Hd.rds_arm,e1];dsimp only;rw[if_neg (by decide)]
   rw[hstep];rcases Nat.lt_or_ge c S.N.dies with hc | hc
   ·obtain⟨N',q3,q4⟩:=q2 hc;rw[q3];right;refine⟨S,{S.at1.wrote E with N:=N'},done+0,?_,q4,Nand.Like.refl _,rfl⟩;dsimp only;rw[if_pos (by decide)]
   ·rw[q1 hc];dsimp only;rw[if_neg (by decide),Int.toNat_natCast];have hdl:(I.drop n).length=I.length-n:=List.length_drop;have hmul:(S.N.dies-2)*ρ=(S.N.dies-2)*(ρ-1)+(S.N.dies-2):=by
     obtain⟨z,rfl⟩:∃z,ρ=z+1:=⟨ρ-1,by omega⟩;rw[Nat.mul_succ];rfl
    rcases CutI.carry hW hk hC f U (I.drop n) (done+(n:Int)) (c-S.N.dies) (ρ-1) k hCU p4 (by omega) (λi hi=>hin i (List.mem_of_mem_drop hi)) (hnd.sublist (List.drop_sublist _ _)) (by rw[p8.dies];omega) (by omega) (by rw[p6];omega)with⟨Q,c',r1,r2,r3,r4,r5⟩ | ⟨Q,V,n',r1,r2,r3,r4⟩
    ·left;refine⟨Q,c',?_,r2,r3,p8.trans r4,r5.trans p9⟩;rw[r1,hdl];have:done+(n:Int)+((I.length-n:Nat):Int)=done+(I.length:Int):=by omega
     rw[this]
    ·right;exact⟨Q,V,n',r1,r2,p8.trans r3,r4.trans p9⟩
theorem erase_any (N:Nand) (x y:Int):N.Like (N.eraseN x y)/\(N.eraseN x y).dead=N.dead/\(N.eraseN x y).broken=N.broken/\(∀i j,j≠y.toNat->(N.eraseN x y).blk i j=N.blk i j)/\∀(d b r:Int) (c:NCell),(N.eraseN x y).pageAt d b r=some c->c.lost=true\/N.pageAt d b r=some c:=by
 have key:∀(M:Nand) (B':NBlock),M.blk=N.blk->(∀(r:Int) (c:NCell),B'.cells[r.toNat]? =some c->c.lost=true\/(N.blk x.toNat y.toNat).cells[r.toNat]? =some c)->(∀i j,j≠y.toNat->(M.setBlk x.toNat y.toNat B').blk i j=N.blk i j)/\∀(d b r:Int) (c:NCell),(M.setBlk x.toNat y.toNat B').pageAt d b r=some c->c.lost=true\/N.pageAt d b r=some c:=λM B' hM hB=>by
  have hb:∀i j,(M.setBlk x.toNat y.toNat B').blk i j=if i=x.toNat/\j=y.toNat then B' else N.blk i j:=λi j=>by rw[<- hM];rfl
  refine⟨λi j hj=>by rw[hb,if_neg (λe=>hj e.2)],λd b r c hc=>?_⟩;unfold Nand.pageAt at hc ⊢;rw[hb]at hc;split at hc
  ·rename_i e;rw[e.1,e.2];exact hB r c hc
  ·exact .inr hc
 unfold Nand.eraseN;dsimp only;split
 ·exact⟨Nand.Like.refl _,rfl,rfl,λ_ _ _=>rfl,λ_ _ _ _ h=> .inr h⟩
 split
 ·have:=key N.cutN {N.blk x.toNat y.toNat with cells:=((N.blk x.toNat y.toNat).cells++List.replicate (N.pages-(N.blk x.toNat y.toNat).cells.length) Nand.zcell).map λc=>{c with lost:=true}} rfl (λr c hc=>by
   left;dsimp only at hc;rw[List.getElem?_map]at hc;obtain⟨c0,_,rfl⟩:=Option.map_eq_some_iff.1 hc;rfl)
  exact⟨⟨rfl,rfl,rfl⟩,rfl,rfl,this⟩
 split
 ·have:=key N.cutN {N.blk x.toNat y.toNat with met:=true} rfl (λr c hc=> .inr hc);exact⟨⟨rfl,rfl,rfl⟩,rfl,rfl,this⟩
 ·have:=key N.cutN {N.blk x.toNat y.toNat with cells:=[],worn:=(N.blk x.toNat y.toNat).worn+1} rfl (λr c hc=>by simp at hc);exact⟨⟨rfl,rfl,rfl⟩,rfl,rfl,this⟩
structure ErsP (N N':Nand) (l:List Int):Prop where
 like:N.Like N'
 dead:N'.dead=N.dead
 broken:N'.broken=N.broken
 rest:∀i j,(∀y∈l,j≠y.toNat)->N'.blk i j=N.blk i j
 less:∀(d b r:Int) (c:NCell),N'.pageAt d b r=some c->c.lost=true\/N.pageAt d b r=some c
theorem ErsP.refl (N:Nand) (l:List Int):ErsP N N l:=⟨Nand.Like.refl _,rfl,rfl,λ_ _ _=>rfl,λ_ _ _ _ h=> .inr h⟩
theorem ErsP.trans {N N' N'':Nand} {l:List Int} (h:ErsP N N' l) (h2:ErsP N' N'' l):ErsP N N'' l:=
 ⟨h.like.trans h2.like,h2.dead.trans h.dead,h2.broken.trans h.broken,λi j hj=>(h2.rest i j hj).trans (h.rest i j hj),λd b r c hc=>by
  rcases h2.less d b r c hc with e | e
  ·exact .inl e
  ·exact h.less d b r c e⟩
theorem eraseB_any (N:Nand) (t:Tl) (b mk:Int):∀(q:List Nat) (x:Nand×Tl×Int),ErsP x.1 (q.foldl (Dv.eraseD b mk) x).1 [b]
 | [],x=>ErsP.refl _ _
 | d::q,x=>by
  rw[List.foldl_cons];refine ErsP.trans (N':=(Dv.eraseD b mk x d).1) ?_ (eraseB_any N t b mk q _);unfold Dv.eraseD;split
  ·exact ErsP.refl _ _
  split
  ·exact ErsP.refl _ _
  ·obtain⟨e1,e2,e3,e4,e5⟩:=erase_any x.1 d b;exact⟨e1,e2,e3,λi j hj=>e4 i j (hj b (by simp)),e5⟩
theorem clearGo_any:∀(l:List Int) (N:Nand) (t:Tl),ErsP N (Dv.clearGo l N t).1 l
 | [],N,t=>ErsP.refl _ _
 | b::l,N,t=>by
  have h1:ErsP N (Dv.erase N t b).1 (b::l):=by
   have h2:ErsP N (Dv.eraseB N t b).1 [b]:=eraseB_any N t b (t.mask b) _ (N,t,0);have h3:ErsP N (Dv.eraseB N t b).1 (b::l):=⟨h2.like,h2.dead,h2.broken,λi j hj=>h2.rest i j λy hy=>hj y (by simp at hy;simp[hy]),h2.less⟩;unfold Dv.erase;dsimp only;split
   ·exact h3
   ·exact h3
  rw[Dv.clearGo];split
  ·exact h1
  ·have ih:=clearGo_any l (Dv.erase N t b).1 (Dv.erase N t b).2.1;exact h1.trans ⟨ih.like,ih.dead,ih.broken,λi j hj=>ih.rest i j λy hy=>hj y (by simp[hy]),ih.less⟩
theorem CutI.clear {C:En->Prop} {W:List (Int×En)} {S:Dv} {k m:Nat} (h:CutI C W S) (hO:S.Ok k m) (c:Nat) (kp:Int):RestI C W S (S.armed c kp).clear.1.N:=by
 have he:ErsP (arm S.N c kp) (S.armed c kp).clear.1.N (pkSome (pkSpent S.t S.T) S.op S.t.b):=clearGo_any _ _ _;have hlk:S.N.Like (S.armed c kp).clear.1.N:=⟨he.like.dies,he.like.blocks,he.like.pages⟩;refine⟨h,h.dsc.less hlk λd b r c hc=>he.less d b r c hc,hlk,he.dead,he.broken,λi a ha d=>?_⟩;show((S.armed c kp).clear.1.N.blk d.toNat a.block.toNat).cells[a.row.toNat]? =_;rw[he.rest _ _ λy hy e=>?_]
 ·rfl
 ·obtain⟨l,g1,_⟩:=(h.inv.st i a ha).row;have h1:=g1.is.blk;obtain⟨y1,_,_,y4⟩:=mem_pkSome.1 hy;have e2:a.block=y:=by omega
  unfold pkSpent at y4;simp only[Bool.and_eq_true,beq_iff_eq]at y4;have h0:=y4.2;rw[hO.T.cnt]at h0;have:0<Tb.cntB S.T.at_ y:=List.countP_pos_iff.2 ⟨_,Tb.look_mem ha,by simp[e2]⟩;omega
def Cp (e:En):Prop:=e.role=1/\e.seq=e.lpn+1
structure PcS (D B P rows:Nat) (S:Dv):Prop where
 sq:SeqI D B P rows S
 ci:CutI Cp (wI (2*rows)) S
 next:S.next=((2*rows:Nat):Int)+1
 log:S.T.logical=500
theorem hd_new (D B P:Nat) (lg:Int):Hd (Dv.new D B P lg) []:=⟨rfl,λ_ _ he=>(by cases he)⟩
theorem CutI.new (C:En->Prop) (D B P:Nat) (lg:Int):CutI C [] (Dv.new D B P lg):=⟨Inv.new _ _ _ _ _,NoF.new _ _ _ _,hd_new D B P lg,λ_ _ ha=>(by cases ha),DscA.new C D B P⟩
namespace PcS
variable {D B P rows k m : Nat} {S : Dv}
theorem keyslen (h:Hd S (wI k)):S.T.at_.length=k:=by
 have:=congrArg List.length h.keys;simp only[List.length_map,wI,List.length_range]at this;exact this
end PcS
def Cs (e:En):Prop:=e.role=1/\e.data=(e18 e.lpn (e.lpn+1)).data
theorem Cs.kind:∀e,Cs e->e.role=1\/e.role=2\/e.role=4:=λ_ h=> .inl h.1
theorem Cs.wI {n:Nat}:∀i e sq,Tb.look (wI n) i=some e->Cs {e with seq:=sq}:=λx e sq he=>by
 by_cases hx:x<0
 ·rw[wI_look_neg n hx]at he;cases he
 ·obtain⟨j,rfl⟩:=Int.eq_ofNat_of_zero_le (show 0<=x by omega);rw[wI_look]at he;split at he
  ·injection he with he;subst he;exact⟨rfl,rfl⟩
  ·cases he
structure CcS (D B P count i r:Nat) (S:Dv):Prop where
 sq:SeqI D B P r S
 ii:i=min count (r*(D-1))
 ci:CutI Cs (wI i) S
 next:S.next=(i:Int)+1
 log:S.T.logical=500
 rows:S.rows+r=P*B
 rp:r<=P
namespace CcS
variable {D B P count i r k m : Nat} {S : Dv}
theorem new (D B P count:Nat):CcS D B P count 0 0 (Dv.new D B P 500):=⟨SeqI.new D B P 500,by omega,CutI.new _ _ _ _ _,rfl,rfl,by rw[rows_new2];omega,Nat.zero_le _⟩
theorem step (h:CcS D B P count i r S) (hO:S.Ok (8*Dv.fuel+k) m) (hc:count<=P*(D-1)) (hi:i<count):
  ∃V,S.pen (eL i (min (D-1) (count-i)))=(V,((min (D-1) (count-i):Nat):Int),(0:Int))/\CcS D B P count (i+min (D-1) (count-i)) (r+1) V/\V.Ok k m:=by
 have hg:=hO.gd.ok.bd16;rw[h.sq.dies,h.sq.blocks,h.sq.pages]at hg;have hir:i=r*(D-1):=by have:=h.ii;omega
 have hPk:P*(D-1)<=8*5:=Nat.mul_le_mul hg.2.2.2 (by omega);have hrP:r<P:=by
  rcases Nat.lt_or_ge r P with e | e
  ·exact e
  ·have:P*(D-1)<=r*(D-1):=Nat.mul_le_mul_right _ e;omega
 obtain⟨j,hj⟩:∃j,min (D-1) (count-i)=j:=⟨_,rfl⟩;rw[hj];have hel:=eL_len (i:Int) j;have hf:=eL_fit (lpn:=(i:Int)) (j:=j) (by omega);have hnd:=eL_nodup (i:Int) j;have hrw0:=h.sq.rows_pos hO (q:=0) (r:=r) (by omega) hrP (by omega);obtain⟨p1,p2,p3,p4,p5,p6,p7⟩:=h.sq.pen (l:=eL i j) hO (q:=0) (r:=r) (by omega) hrP (by omega) hf (by omega) (by rw[h.next];omega);have hlg:∀e∈eL (i:Int) j,e.lpn<S.T.logical:=λe he=>by
  rw[h.log];simp only[eL,List.mem_map,List.mem_range]at he;obtain⟨z,hz,rfl⟩:=he;show(i:Int)+z<500;omega
 obtain⟨c1,c2,c3,c4,c5,c6,c7,c8,c9,c10,_⟩:=h.ci.pen (l:=eL i j) hO hrw0 hf (by omega) hnd hlg (by rw[h.next];omega) (λz hz _=>by
  rw[eL_get _ (by omega)];exact⟨rfl,rfl⟩)
 have hn:S.at1.fit (eL i j)=j:=by rw[c2,h.sq.dies,hel];omega
 rw[hn]at c1 c3 c6;rw[wI_wput i j λz hz=>eL_get _ hz]at c3;refine⟨_,c1,⟨p3,?_,c3,by rw[c6,h.next];omega,c7.trans h.log,by have:=h.rows;omega,hrP⟩,c4⟩;rw[Nat.succ_mul];omega
def Fin (count:Nat) (M:Nand):Prop:=M.broken=0/\∀i,i<count->∃x y,Tb.look (V.scan M.onN 500).tb.at_ (i:Int)=some x/\R.read M.onN x.block x.row x.slot x.mask=(y,0)/\y.lpn=(i:Int)/\y.role=1/\y.data=(e18 (i:Int) ((i:Int)+1)).data
theorem fin {Q:Dv} {M:Nand} (h:RestI Cs (wI count) Q M) (hc:count<=40) (hb:Q.N.broken=0):Fin count M:=by
 refine⟨h.broken.trans hb,λi hi=>?_⟩;obtain⟨n5,hn5⟩:∃n5:Nat,n5=500:=⟨_,rfl⟩;have e500:((n5:Nat):Int)=500:=by omega
 have hlk:Tb.look (wI count) (i:Int)=some (e18 i ((i:Int)+1)):=by rw[wI_look,if_pos hi]
 obtain⟨x,y,x1,x2,x3,x4,x5⟩:=CutI.found h (n:=n5) (by omega) Cs.kind (i:=i) (by omega) hlk (by show(1:Int)≠3;decide);rw[e500]at x1;exact⟨x,y,x1,x5,x3,x2.1,by rw[x2.2,x3]⟩
theorem cut (h:CcS D B P count count r S) (hO:S.Ok (Dv.costC+(96+k)) m) (hc:count<=P*(D-1)) (hrP:r<=P) {c:Nat} (hc60:c<60) (kp:Int):
  ∃U n e,({S with N:=S.N.setCut c kp}:Dv).Ok (Dv.costC+(96+k)) m/\({S with N:=S.N.setCut c kp}:Dv).carry 0 100=(U,n,e)/\U.Ok (96+k) m/\((e=0/\Fin count U.clear.1.N/\U.clear.1.N.Gd k m)\/(e=9/\Fin count U.N)):=by
 have hg:=hO.gd.ok.bd16;have hg2:=hg;rw[h.sq.dies,h.sq.blocks,h.sq.pages]at hg;have hPk:P*(D-1)<=8*5:=Nat.mul_le_mul hg.2.2.2 (by omega);have hs:S.N.setCut c kp=arm S.N c (min (max kp 0) 32):=setCut_arm h.ci.inv.lit.off c kp;have hOk:({S with N:=S.N.setCut c kp}:Dv).Ok (Dv.costC+(96+k)) m:=⟨hO.gd.cut _ _ (by omega) (by omega),hO.t.like (Nand.like_cut _ _ _),hO.T,hO.sl,hO.row,hO.next⟩;have hk:=(Dv.carry_keep hOk 0 100).1;obtain⟨I,hI⟩:∃I,(S.T.ins 0).take (max (100:Int) 0).toNat=I:=⟨_,rfl⟩;have hsub:∀j∈I,j∈S.T.ins 0:=λj hj=>by rw[<- hI]at hj;exact List.mem_of_mem_take hj
 have hlen:I.length<=count:=by
  have h1:=ins_len hO.T 0;have h2:Tb.cntB S.T.at_ 0<=S.T.at_.length:=List.countP_le_length;have h3:=PcS.keyslen h.ci.hd;rw[<- hI,List.length_take];omega
 have hnd:I.Nodup:=by
  rw[<- hI];refine List.Nodup.sublist (List.take_sublist _ _) ?_;unfold Tb.ins;split
  ·exact List.nodup_nil
  ·unfold Tb.inK;exact List.pairwise_map.2 ((List.nodup_range.filter _).imp λhne e=>hne (by omega))
 have hcar:({S with N:=S.N.setCut c kp}:Dv).carry 0 100=Dv.carryGo I.length (S.armed c (min (max kp 0) 32)) I 0:=by
  rw[hs];unfold Dv.carry;show Dv.carryGo ((S.T.ins 0).take (max (100:Int) 0).toNat).length (S.armed c (min (max kp 0) 32)) ((S.T.ins 0).take (max (100:Int) 0).toNat) 0=_;rw[hI]
 have hρ:I.length<=(S.N.dies-2)*(2*P):=by
  rw[h.sq.dies];have h1:P*(D-1)<=P*(2*(D-2)):=Nat.mul_le_mul_left _ (by omega);have h2:P*(2*(D-2))=(D-2)*(2*P):=by rw[Nat.mul_left_comm,<- Nat.mul_assoc,Nat.mul_comm]
  omega
 have hrows:2*P<=S.rows:=by
  have h1:=h.rows;have h2:P*8<=P*B:=Nat.mul_le_mul_left _ hg.2.1.1;omega
 have hcost:Dv.cost*I.length<=Dv.costC:=Nat.mul_le_mul_left _ (by omega);rw[hcar]at hk ⊢;rcases CutI.carry (C:=Cs) (W:=wI count) (m:=m) (kp:=min (max kp 0) 32) (wI_ok (by omega)) (by omega) Cs.wI I.length S I 0 c (2*P) (96+k) h.ci (hO.less (by omega)) (Nat.le_refl _) (λj hj=>by
  obtain⟨a,ha,_⟩:=ins_in (hsub j hj);cases hw:Tb.look (wI count) j with
  | none=>rw[h.ci.hd.none hw]at ha;cases ha
  | some e=>rfl) hnd hρ hrows (by rw[h.next];omega)with⟨Q,c',r1,r2,r3,r4,r5⟩ | ⟨Q,U,n,r1,r2,r3,r4⟩
 ·rw[r1]at hk ⊢;have hcl:=Dv.clear_keep (S:=Q.armed c' (min (max kp 0) 32)) hk;exact⟨_,_,_,hOk,rfl,hk, .inl ⟨rfl,fin (r2.clear r3 c' (min (max kp 0) 32)) (by omega) (r5.trans h.sq.broken),hcl.1.gd⟩⟩
 ·rw[r1]at hk ⊢;exact⟨_,_,_,hOk,rfl,hk, .inr ⟨rfl,fin r2 (by omega) (r4.trans h.sq.broken)⟩⟩
end CcS
theorem cnt_one {p:Nat->Bool} {i:Nat} (hp:p i=true):∀n,(∀j,j<n->j≠i->p j=false)->(List.range n).countP p=if i<n then 1 else 0
 | 0,_=>rfl
 | n+1,h=>by
  rw[List.range_succ,List.countP_append,cnt_one hp n (λj hj=>h j (by omega)),List.countP_singleton]
  by_cases e:n=i
  ·subst e;rw[hp,if_neg (Nat.lt_irrefl n),if_pos rfl,if_pos (Nat.lt_succ_self n)]
  ·rw[h n (by omega) e,if_neg Bool.false_ne_true,Nat.add_zero]
   by_cases h2:i<n
   ·rw[if_pos h2,if_pos (by omega)]
   ·rw[if_neg h2,if_neg (by omega)]
def missN (g:Nat->Bool) (k:Nat):Nat:=(List.range k).countP λi=>!g i
theorem missN_succ (g:Nat->Bool) (k:Nat):missN g (k+1)=missN g k+(if g k then 0 else 1):=by
 unfold missN;rw[List.range_succ,List.countP_append,List.countP_singleton];cases g k<;>rfl
theorem missN_le (g:Nat->Bool) (k:Nat):missN g k<=k:=by
 unfold missN;have:=List.countP_le_length (p:=λi=>!g i) (l:=List.range k)
 rwa [List.length_range]at this
theorem miss_rest {f:Fd} {i n:Nat} (hn:f.slots.length=n) (hi:i<n) (hg:f.good.getD i false=false) (hr:R.rest f i=true):missN (λj=>f.good.getD j false) n=1:=by
 unfold missN;rw[cnt_one (i:=i) (show(!(f.good.getD i false))=true by rw[hg];rfl) n,if_pos hi];intro j hj hji;unfold R.rest at hr;rw[hn,List.all_eq_true]at hr;have:=hr j (List.mem_range.2 hj);simp only[Bool.or_eq_true,beq_iff_eq,hji,false_or]at this;show(!(f.good.getD j false))=false;rw[this];rfl
def betB (x b:Fnd):Bool:=decide (x.en.seq>b.en.seq)||(x.en.seq==b.en.seq&&x.whole&& !b.whole)
theorem betB_eq (x b:Fnd):betB x b=V.behind b x:=by
 unfold betB V.behind
 by_cases h:b.en.seq=x.en.seq
 ·rw[if_neg (by simpa using h),h,decide_eq_false (by omega),beq_self_eq_true];rfl
 ·rw[if_pos h,beq_eq_false_iff_ne.2 (λe=>h e.symm)];simp
theorem stand_none {l:List Fnd} (h:(V.standOf l).2=false):(V.standOf l).1=Fnd.zero:=by
 revert h
 unfold V.standOf;cases V.tops l with
 | nil=>intro _;rfl
 | cons f o=>intro h;cases h
theorem stand_role {l:List Fnd} (hr:∀f∈l,f.en.role≠0):(V.standOf l).1.en.role=0↔(V.standOf l).2=false:=by
 constructor
 ·intro h;cases h2:(V.standOf l).2 with
  | false=>rfl
  | true=>exact absurd h (hr _ (V.standOf_mem h2))
 ·intro h;rw[stand_none h];rfl
def bestF (L:List Fnd) (k:Int):Fnd:=(V.standOf (V.of L k)).1
theorem bestF_snoc (L:List Fnd) (x:Fnd) (hr:∀f∈L,f.en.role≠0) (k:Int):bestF (L++[x]) k=if x.en.lpn=k/\((bestF L k).en.role=0\/betB x (bestF L k)=true)then x else bestF L k:=by
 unfold bestF;rw[V.of_snoc]
 by_cases h:x.en.lpn=k
 ·have hs:=stand_role (l:=V.of L k) (λf hf=>hr f (List.mem_filter.1 hf).1);rw[if_pos h,V.standOf_snoc,betB_eq]
  by_cases h2:(V.standOf (V.of L k)).2=false\/V.behind (V.standOf (V.of L k)).1 x=true
  ·rw[if_pos h2,if_pos ⟨h,h2.imp hs.2 id⟩]
  ·rw[if_neg h2,if_neg (λh3=>h2 (h3.2.imp hs.1 id))]
 ·rw[if_neg h,if_neg (λh3=>h h3.1)]
theorem of_in (L:List Fnd) (m:Nat) (k:Nat) (hk:k<m):V.of (L.filter λf=>decide (f.en.lpn<(m:Int))) (k:Int)=V.of L (k:Int):=by
 unfold V.of;rw[List.filter_filter];refine List.filter_congr λf _=>?_
 by_cases h:f.en.lpn=(k:Int)
 ·rw[beq_iff_eq.2 h,decide_eq_true (by omega)];rfl
 ·rw[beq_eq_false_iff_ne.2 h];rfl
theorem look_fine {N:Nand} {x y z:Int} (h:(M.look N x y z).2=1):M.bad (M.look N x y z).1 x y z=false/\0<=x:=by
 have hx:0<=x:=by
  rcases Int.lt_or_le x 0 with hx | hx
  ·exfalso
   have hr:N.refuses x y z=9\/N.refuses x y z=3:=by
    unfold Nand.refuses;split
    ·exact .inl rfl
    ·have:geoIn N.dies N.blocks N.pages x y z=false:=by
      unfold geoIn;rw[decide_eq_false (by omega)];rfl
     rw[if_pos this];exact .inr rfl
   have he:N.readE x y z=9\/N.readE x y z=3:=by
    unfold Nand.readE;rcases hr with hr | hr<;>rw[hr]<;>simp
   unfold M.look at h;simp only at h;rcases he with he | he<;>rw[he]at h<;>simp at h
  ·exact hx
 refine⟨?_,hx⟩;unfold M.look at h ⊢;dsimp only at h ⊢;split
 ·rename_i h0;rw[if_pos h0]at h;split
  ·rename_i h1;rw[if_pos h1]at h;simp at h
  ·rename_i h1;simp only[not_or]at h1;simpa using h1.2
 ·rename_i h0;rw[if_neg h0]at h;split at h
  ·simp at h
  ·split at h<;>simp at h
theorem entry_role {s:Sh} (h:S.entry s=true):s.role=1\/s.role=2\/s.role=3\/s.role=4:=by
 unfold S.entry at h;split at h
 ·exact .inl (by assumption)
 ·split at h
  ·rename_i h1;rcases h1 with h1 | h1
   ·exact .inr (.inl h1)
   ·exact .inr (.inr (.inr h1))
  ·split at h
   ·exact .inr (.inr (.inl (by assumption)))
   ·cases h
theorem may_role {s:Sh} (h:S.may s=true) (hk:s.kind≠2):s.role=1\/s.role=2\/s.role=3\/s.role=4:=by
 unfold S.may at h;rw[decide_eq_false hk]at h;simp only[Bool.false_or,Bool.and_eq_true]at h;exact entry_role h.2.2
theorem fnd_role {N:Nand} {b r:Int} {f:Fnd} (h:f∈R.all N b r):f.en.role=1\/f.en.role=2\/f.en.role=4:=by
 unfold R.all at h;rw[List.mem_flatMap]at h;obtain⟨m,_,h⟩:=h;unfold R.allM at h;rw[List.mem_filterMap]at h;obtain⟨k,hk,h⟩:=h;rw[List.mem_range,(look_len N b r m).1]at hk;unfold R.fnd at h;split at h
 ·rename_i hc;injection h with h;subst h;simp only[Bool.and_eq_true,bne_iff_ne,ne_eq]at hc;obtain⟨h1,h3⟩:=hc;dsimp only;have key:(R.enAt (R.look N b r m) k).role=1\/(R.enAt (R.look N b r m) k).role=2\/(R.enAt (R.look N b r m) k).role=3\/(R.enAt (R.look N b r m) k).role=4:=by
   obtain⟨e2,e1⟩:=look_slot N b r m hk;unfold R.enAt;unfold R.okAt at h1;split
   ·rename_i hg;rw[List.getD_eq_getElem?_getD,e2,Option.getD_some];rw[e1]at hg;unfold R.one at hg ⊢;simp only[Bool.and_eq_true,beq_iff_eq]at hg;obtain⟨hl,hm⟩:=hg;obtain⟨hb,hx⟩:=look_fine hl;refine may_role (look_may hl) λhkd=>?_;simp only[M.bad,Bool.or_eq_false_iff,bne_eq_false_iff_eq,Bool.not_eq_false']at hb;obtain⟨⟨⟨b1,b2⟩,b3⟩,b4⟩:=hb;rw[hm,b1,b2,hkd,beq_self_eq_true,beq_iff_eq]at b4;obtain⟨o1,o2⟩:=oth_die m b r k
    by_cases hlt:k<(othI m b r).length
    ·have:=o2 k rfl hlt;have hmem:=List.mem_of_getElem? this;unfold othI at hmem;split at hmem
     ·have:=(List.mem_filter.1 hmem).2;simp only[bne_iff_ne,ne_eq]at this;exact this b4.symm
     ·cases hmem
    ·have:=o1 (.inr (by omega));omega
   ·rename_i hg;rw[Bool.not_eq_true]at hg;rw[hg,Bool.false_or]at h1;unfold R.mendB at h1;simp only[Bool.and_eq_true]at h1;have hb:=h1.2;unfold R.mend;rw[if_pos (by rw[Bool.and_eq_true];exact h1.1),W.back,if_pos hb];unfold W.backB at hb;simp only[Bool.and_eq_true]at hb;exact may_role (s:=W.sh _ _ _ _) hb.2 (show(1:Int)≠2 by decide)
  omega
 ·cases h
theorem all_role {N:Nand} {f:Fnd} (h:f∈V.all N):f.en.role=1\/f.en.role=2\/f.en.role=4:=by
 unfold V.all at h;rw[List.mem_flatMap]at h;obtain⟨b,_,h⟩:=h;rw[List.mem_flatMap]at h;obtain⟨r,_,h⟩:=h;exact fnd_role h
def topK (L:List Fnd) (k:Int) (i:Nat):Int:=((L.take i).filter λf=>f.en.lpn==k&&f.whole).foldl (λm f=>max m f.en.seq) (-1)
theorem topK_succ (L:List Fnd) (k:Int) (i:Nat) (x:Fnd) (h:L[i]? =some x):topK L k (i+1)=if(x.en.lpn==k&&x.whole)=true then max (topK L k i) x.en.seq else topK L k i:=by
 unfold topK;rw[List.take_add_one,h,Option.toList_some,List.filter_append]
 by_cases hp:(x.en.lpn==k&&x.whole)=true
 ·have e:[x].filter (λf=>f.en.lpn==k&&f.whole)=[x]:=by rw[List.filter_cons,if_pos hp];rfl
  rw[if_pos hp,e,List.foldl_append];rfl
 ·have e:[x].filter (λf=>f.en.lpn==k&&f.whole)=[]:=by rw[List.filter_cons,if_neg hp];rfl
  rw[if_neg hp,e,List.append_nil]
theorem topK_all (L:List Fnd) (k:Int):topK L k L.length=V.topSeq ((V.of L k).filter λf=>f.whole):=by
 unfold topK V.topSeq V.of;rw[List.take_length,List.filter_filter];congr 1;exact List.filter_congr λf _=>Bool.and_comm _ _
def heldK (H:List Int) (L:List Fnd) (k:Int) (t:Int) (i:Nat):List Int:=(((L.take i).filter λf=>f.en.lpn==k&&f.whole&&f.en.seq==t).map (·.block)).foldl insI H
theorem heldK_succ (H:List Int) (L:List Fnd) (k t:Int) (i:Nat) (x:Fnd) (h:L[i]? =some x):heldK H L k t (i+1)=if(x.en.lpn==k&&x.whole&&x.en.seq==t)=true then insI (heldK H L k t i) x.block else heldK H L k t i:=by
 unfold heldK;rw[List.take_add_one,h,Option.toList_some,List.filter_append]
 by_cases hp:(x.en.lpn==k&&x.whole&&x.en.seq==t)=true
 ·have e:[x].filter (λf=>f.en.lpn==k&&f.whole&&f.en.seq==t)=[x]:=by rw[List.filter_cons,if_pos hp];rfl
  rw[if_pos hp,e,List.map_append,List.foldl_append];rfl
 ·have e:[x].filter (λf=>f.en.lpn==k&&f.whole&&f.en.seq==t)=[]:=by rw[List.filter_cons,if_neg hp];rfl
  rw[if_neg hp,e,List.append_nil]
theorem normI_app (H:List Int):∀B:List Int,normI (H++B)=B.foldl insI (normI H):=by
 intro B;have:∀k,k<=B.length->normI (H++B.take k)=(B.take k).foldl insI (normI H):=by
  intro k
  induction k with
  | zero=>intro _;simp
  | succ k ih=>
   intro hk;rw[List.take_add_one,List.getElem?_eq_getElem (by omega),Option.toList_some,<- List.append_assoc,normI_snoc,List.foldl_append,ih (by omega)];rfl
 have h:=this B.length (Nat.le_refl _)
 rwa [List.take_length]at h
theorem heldK_all (H:List Int) (L:List Fnd) (k:Int) (h0:∀f∈L,0<=f.en.seq):heldK (normI H) L k (topK L k L.length) L.length=normI (H++V.holds (V.of L k)):=by
 rw[normI_app,topK_all];unfold heldK V.holds;rw[List.take_length,V.tops_whole ((V.of L k).filter λf=>f.whole) (λf hf=>⟨(List.mem_filter.1 hf).2,h0 f (List.mem_filter.1 (List.mem_filter.1 hf).1).1⟩)];congr 2;unfold V.of;rw[List.filter_filter,List.filter_filter];refine List.filter_congr λf _=>?_;cases f.en.lpn==k<;>cases f.whole<;>simp
theorem heldK_len (H:List Int) (L:List Fnd) (k t:Int) (i:Nat):(heldK H L k t i).length<=H.length+i:=by
 have hi:∀(l:List Int) (b:Int),(insI l b).length<=l.length+1:=by
  intro l
  induction l with
  | nil=>intro b;simp[insI]
  | cons x l ih=>
   intro b;simp only[insI];split
   ·rw[List.length_cons,List.length_cons];have:=ih b;omega
   ·split
    ·omega
    ·simp
 have hf:∀(B:List Int) (H:List Int),(B.foldl insI H).length<=H.length+B.length:=by
  intro B
  induction B with
  | nil=>intro H;simp
  | cons b B ih=>
   intro H;rw[List.foldl_cons,List.length_cons];have:=ih (insI H b);have:=hi H b;omega
 unfold heldK;refine Nat.le_trans (hf _ _) ?_;rw[List.length_map];have:=List.length_filter_le (λf:Fnd=>f.en.lpn==k&&f.whole&&f.en.seq==t) (L.take i);rw[List.length_take]at this;omega
end Go.Proofs.YtdocmcapegcoeaaGreat
namespace Go.Proofs.YtdocmcapegcoeaaGreat
open Go Go.RowKit
def stL (o:Option AtV):List Value:=[.bool o.isSome, .int .i64 (o.getD AtV.zero).block, .int .i64 (o.getD AtV.zero).row, .int .i64 (o.getD AtV.zero).slot, .int .i64 (o.getD AtV.zero).mask, .int .i64 (o.getD AtV.zero).seq, .int .i64 (o.getD AtV.zero).role]
def stC (l:List (Int×AtV)) (m:Nat):List Value:=(List.range m).flatMap λi=>stL (Tb.look l (i:Nat))
theorem range_get {m i:Nat} (h:i<m):(List.range m)[i]? =some i:=List.getElem?_range h
theorem stC_len (l:List (Int×AtV)) (m:Nat):(stC l m).length=m*7:=by
 unfold stC
 induction m with
 | zero=>rfl
 | succ m ih=>rw[List.range_succ,List.flatMap_append,List.length_append,ih,Nat.succ_mul];rfl
theorem stC_at (l:List (Int×AtV)) {m i:Nat} (h:i<m):((stC l m).drop (i*7)).take 7=stL (Tb.look l (i:Nat)):=flat_get (λi:Nat=>stL (Tb.look l (i:Nat))) 7 (λ_=>rfl) (List.range m) i i (range_get h)
theorem stC_cell (l:List (Int×AtV)) {m i:Nat} (h:i<m) (j:Nat) (hj:j<7):(stC l m)[i*7+j]? =(stL (Tb.look l (i:Nat)))[j]?:=by
 rw[<- stC_at l h,List.getElem?_take,if_pos hj,List.getElem?_drop]
theorem stC_zero (m:Nat):(List.replicate m (stL none)).flatten=stC [] m:=by
 unfold stC
 induction m with
 | zero=>rfl
 | succ m ih=>rw[List.range_succ,List.flatMap_append,<- ih,List.replicate_succ',List.flatten_append];simp[Tb.look]
theorem stC_put (l:List (Int×AtV)) {m i:Nat} (h:i<m) (a:AtV):(stC l m).take (i*7)++stL (some a)++(stC l m).drop (i*7+7)=stC (Tb.put1 l i a) m:=by
 have hlen:=stC_len l m;have hlen2:=stC_len (Tb.put1 l i a) m;apply List.ext_getElem?;intro n;rcases Nat.lt_or_ge n (m*7)with hn | hn
 ·have hk:n/7<m:=by omega
  have hj:n % 7<7:=Nat.mod_lt _ (by decide);have hnn:n=n/7*7+n % 7:=by omega
  have hr:(stC (Tb.put1 l i a) m)[n]? =(stL (if n/7=i then some a else Tb.look l ((n/7:Nat):Int)))[n % 7]?:=by
   conv=>lhs;rw[hnn]
   rw[stC_cell _ hk _ hj,Tb.look_put1]
   by_cases e:n/7=i
   ·rw[if_pos e,if_pos (by omega)]
   ·rw[if_neg e,if_neg (by omega)]
  rw[hr];have hmid:(stL (some a)).length=7:=rfl;have htk:((stC l m).take (i*7)).length=i*7:=by rw[List.length_take,hlen];omega
  rcases Nat.lt_trichotomy (n/7) i with h1 | h1 | h1
  ·rw[if_neg (by omega),List.getElem?_append_left (by rw[List.length_append,htk];omega),List.getElem?_append_left (by rw[htk];omega),List.getElem?_take,if_pos (by omega)]
   conv=>lhs;rw[hnn]
   rw[stC_cell _ hk _ hj]
  ·rw[if_pos h1,List.getElem?_append_left (by rw[List.length_append,htk,hmid];omega),List.getElem?_append_right (by rw[htk];omega),htk];congr 1;omega
  ·rw[if_neg (by omega),List.getElem?_append_right (by rw[List.length_append,htk,hmid];omega),List.length_append,htk,hmid,List.getElem?_drop,show i*7+7+(n-(i*7+7))=n from by omega]
   conv=>lhs;rw[hnn]
   rw[stC_cell _ hk _ hj]
 ·have e1:(stC (Tb.put1 l i a) m)[n]? =none:=List.getElem?_eq_none (by rw[hlen2];exact hn);rw[e1];refine List.getElem?_eq_none ?_;rw[List.length_append,List.length_append,List.length_take,List.length_drop,hlen];show min (i*7) (m*7)+7+(m*7-(i*7+7))<=n;omega
def RefP (q:Nat) (t:Tb) (m:Nat) (g:Nat):List Atom:=[.pt q 82 [.slice (some ⟨g,0,none⟩) m m, .int .i64 t.next], .pt g 79 (stC t.at_ m)]
def RefA (q:Nat) (t:Tb) (m:Nat):Atom:=exA λg:Nat=>RefP q t m g
theorem mm13 (n:Int):(if(if(65536:Int)<n then 65536 else n)>0 then(if(65536:Int)<n then 65536 else n)else 0)=min (max n 0) 65536:=by
 by_cases h:(65536:Int)<n
 ·simp only[if_pos h];rw[if_pos (by decide)];omega
 ·simp only[if_neg h];split<;>omega
theorem f13_New (n:Int) (m:Nat) (hm:min (max n 0) 65536=(m:Int)):Fn Tryz.prog 82 [.int .i64 n] [] (λv As=>∃q,v= .pointer (some ⟨q,0,none⟩)/\As=[RefA q (Tb.new n) m]):=by
 have hm1:m<=65536:=by omega
 refine Fn.enter [0] Tryz.func82 rfl rfl rfl λX F hX=>?_;refine J.qn hX 9 λ_=>?_;rw[mm13,hm];refine J.makeMany hX tk 2 rfl rfl rfl rfl rfl rfl rfl rfl rfl rfl rfl ?_ ?_ (λ_=>rfl) (λ_=>rfl) λg=>⟨trivial,?_⟩
 ·simp only[maxLen];omega
 ·omega
 have hz:(List.replicate m [Value.bool false, .int .i64 0, .int .i64 0, .int .i64 0, .int .i64 0, .int .i64 0, .int .i64 0]).flatten=stC (Tb.new n).at_ m:=stC_zero m;rw[hz];refine J.q hX λbs=>?_;refine J.close (f:=λg:Nat=>RefP (bs 0) (Tb.new n) m g) g [2,1] rfl rfl rfl ?_;refine J.q hX λ_=>?_;refine J.ru hX [2] ?_;exact⟨bs 0,rfl,rfl⟩
theorem f13_Put (q:Nat) (t:Tb) (m:Nat) (e:En) (b r s mk:Int) (hl:0<=e.lpn/\e.lpn<(m:Int)) (hm:m<=65536) (hlog:t.logical=(m:Int)) (hr:e.role=1\/e.role=2\/e.role=4) (hs:0<=e.seq/\e.seq<=1099511627775) (hno:Tb.look t.at_ e.lpn=none):
  Fn Tryz.prog 85 [.pointer (some ⟨q,0,none⟩),enV e,plV b r s, .int .i64 mk] [RefA q t m] (λv As=>v= .bool true/\As=[RefA q (t.put e b r s mk) m]):=by
 obtain⟨i,hi⟩:=Int.eq_ofNat_of_zero_le hl.1;have him:i<m:=by omega
 have hput:t.put e b r s mk=⟨t.logical,Tb.put1 t.at_ e.lpn ⟨b,r,s,mk,e.seq,e.role⟩,Tb.cnt2 t e b,if e.seq>=t.next then e.seq+1 else t.next⟩:=by
  have ho:t.ok e=true:=by
   unfold Tb.ok;rw[hlog,decide_eq_false (by omega),decide_eq_false (by omega)];rcases hr with h | h | h<;>rw[h]<;>rfl
  have he:t.elder e=false:=by unfold Tb.elder;rw[hno]
  unfold Tb.put Tb.putB;rw[ho,he];rfl
 have hcell0:=stC_cell t.at_ him 0 (by decide);rw[<- hi,hno]at hcell0;refine Fn.enter [2,0,0,0] Tryz.func85 rfl rfl rfl λX F hX=>?_;refine J.open_ (α:=Nat) 1 rfl rfl (λ_=>rfl) λg=>?_;refine J.q hX λ_=>?_;refine J.plan (.of [0,5,8,12,16,21,24,28,32,37,40,44,48,52,56,61,64,68,72,77,80,84,88,92,97,100,104,108,112,116,120,124,129,132,137,140,144,149,152,156,161,164,168,172,177,180,185,188,192,197,200,204,208]) [] [1,2,3,4] (by rw[hX.hP];kernel_rfl) (by kernel_rfl) ?_;refine J.qn hX 1 λ_=>?_;refine J.run hX tk 400 (λb5=>rfl) (λb5=>?_) (λb5=>?_)
 ·(repeat' (first | exact Conj.nil | refine Conj.cons ?_ ?_ | exact rfl | exact hq | (rw[hq];rfl) | (rw[(Bool.not_eq_true' _).mp hq]) | intro hq | omega | (simp;done) | (simp_all;done)))
 have hgd:(decide (e.lpn<0)||decide (e.lpn>=(m:Int))||e.role !=1&&e.role !=2&&e.role !=4)=false:=by
  rw[decide_eq_false (by omega),decide_eq_false (by omega)];rcases hr with h | h | h<;>rw[h]<;>rfl
 rw[hgd];refine J.valT hX (.bool false) 0 rfl rfl (λhg a w he hC=>?_) rfl ?_
 ·exact load1_run tk rfl rfl he rfl rfl rfl (hC rfl _ (cget_mem (i:=2) rfl)) (by rw[show 0+e.lpn.toNat*7+0=i*7+0 from by omega];exact hcell0)
 refine J.run hX tk 400 (λb6=>rfl) (λb6=>?_) (λb6=>?_)
 ·(repeat' (first | exact Conj.nil | refine Conj.cons ?_ ?_ | exact rfl | exact(λhq=>absurd hq (by decide)) | intro hq | omega))
 refine J.valT hX (.int .i64 0) 0 rfl rfl (λhg a w he hC=>by simp[G.on]at hg) rfl ?_;refine J.run hX tk 400 (λb7=>rfl) (λb7=>?_) (λb7=>?_)
 ·(repeat' (first | exact Conj.nil | refine Conj.cons ?_ ?_ | exact rfl | exact(λhq=>absurd hq (by decide)) | intro hq | omega))
 refine J.q hX λ_=>?_;refine J.cF ?_;refine J.q hX λ_=>?_;refine J.plan (.of [0,4,8,13,16,21,25,28,32,37,40,45,48,52,59]) [13,14] [1,3,4] (by rw[hX.hP];kernel_rfl) (by kernel_rfl) ?_;refine J.qn hX 2 λ_=>?_;refine J.run hX tk 400 (λb11=>rfl) (λb11=>?_) (λb11=>?_)
 ·(repeat' (first | exact Conj.nil | refine Conj.cons ?_ ?_ | exact rfl | exact(λhq=>absurd hq (by decide)) | intro hq | omega))
 refine J.storeN hX tk 2 rfl rfl rfl rfl rfl rfl rfl rfl rfl rfl rfl rfl rfl ?_ (stC (Tb.put1 t.at_ i ⟨b,r,s,mk,e.seq,e.role⟩) m) ?_ rfl (λ_=>rfl) ⟨trivial,?_⟩
 ·rw[stC_len];show 0+e.lpn.toNat*7+7<=m*7;omega
 ·rw[show 0+e.lpn.toNat*7=i*7 from by omega];exact stC_put t.at_ him ⟨b,r,s,mk,e.seq,e.role⟩
 refine J.q hX λ_=>?_;refine J.plan (.of [0,5,8,12,16,21,24]) [] [1,2,3,4] (by rw[hX.hP];kernel_rfl) (by kernel_rfl) ?_;refine J.qn hX 2 λ_=>?_;refine J.q hX λ_=>?_;refine J.cond rfl (λhq=>?_) (λhq=>?_)
 ·have hq2:e.seq>=t.next:=by simpa using hq
  refine J.q hX λ_=>?_;refine J.close (f:=λg:Nat=>RefP q (t.put e b r s mk) m g) g [1,2] rfl (by rw[hput,if_pos hq2,hi];rfl) rfl ?_;refine J.q hX λ_=>?_;exact J.ru hX [1] ⟨rfl,rfl⟩
 ·have hq2:¬e.seq>=t.next:=by simpa using hq
  refine J.q hX λ_=>?_;refine J.close (f:=λg:Nat=>RefP q (t.put e b r s mk) m g) g [1,2] rfl (by rw[hput,if_neg hq2,hi];rfl) rfl ?_;refine J.q hX λ_=>?_;exact J.ru hX [1] ⟨rfl,rfl⟩
end Go.Proofs.YtdocmcapegcoeaaGreat
