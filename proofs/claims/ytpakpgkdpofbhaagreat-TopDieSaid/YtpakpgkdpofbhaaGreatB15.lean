/- Helpers. No condition. -/
import Derived.Test.YtpakpgkdpofbhaaGreatB00
import Derived.Test.YtpakpgkdpofbhaaGreatB04
import Derived.Test.YtpakpgkdpofbhaaGreatB07
import Derived.Test.YtpakpgkdpofbhaaGreatB09
import Derived.Test.YtpakpgkdpofbhaaGreatB10
import Derived.Test.YtpakpgkdpofbhaaGreatB11
import Derived.Test.YtpakpgkdpofbhaaGreatB12
import Derived.Test.YtpakpgkdpofbhaaGreatB13
import Derived.Test.YtpakpgkdpofbhaaGreatB14
set_option maxRecDepth 20000
set_option linter.all false
namespace Go.Proofs.YtpakpgkdpofbhaaGreat
open Go Go.RowKit
theorem a4e {α:Type} [BEq α] [LawfulBEq α]:∀{K M:List α},K.Nodup->(∀x∈K,x∈M)->K.length<=M.length
 | [],M,_,_=>n7 _
 | x::K,M,h,hs=>by
  obtain⟨h1,h2⟩:=List.nodup_cons.1 h;have hx:=hs x (by simp);have h3:=a4e (M:=M.erase x) h2 λy hy=>by
   have hne:y≠x:=λe=>h1 (by rw[<- e];exact hy);exact(List.mem_erase_of_ne hne).2 (hs y (by simp[hy]))
  rw[List.length_erase_of_mem hx]at h3;have:=List.length_pos_of_mem hx;rw[o0];omega
theorem ins_len {T:Tb} (h:T.Ok) (b:Int):(T.ins b).length<=Tb.cntB T.at_ b:=by
 unfold Tb.ins;split
 ·exact n7 _
 ·have h1:(Tb.inK T b T.logical.toNat).Nodup:=by
   unfold Tb.inK;exact List.pairwise_map.2 ((List.nodup_range.filter _).imp λhne e=>hne (by omega))
  have h2:=a4e (M:=(T.at_.filter λx=>x.2.block==b).map (·.1)) h1 λx hx=>by
   simp only[Tb.inK,O8,List.mem_filter,K0]at hx;obtain⟨i,⟨_,hi⟩,rfl⟩:=hx;unfold Tb.inB at hi;cases ha:Tb.look T.at_ (i:Int)with
   | none=>rw[ha]at hi;cases hi
   | some a=>
    rw[ha]at hi;exact List.mem_map.2 ⟨((i:Int),a),List.mem_filter.2 ⟨Tb.look_mem ha,hi⟩,rfl⟩
  rw[q9]at h2;unfold Tb.cntB;rw[List.countP_eq_length_filter];exact h2
theorem b4f {T:Tb} (h:T.Ok) {b i:Int} {a:AtV} (ha:Tb.look T.at_ i=some a) (hb:a.block=b):i∈T.ins b:=by
 have hr:=h.rng _ (Tb.look_mem ha);have hc:T.count b≠0:=by
  rw[h.cnt];have:0<Tb.cntB T.at_ b:=List.countP_pos_iff.2 ⟨_,Tb.look_mem ha,by simp[hb]⟩;omega
 unfold Tb.ins;rw[i7 hc];unfold Tb.inK;obtain⟨j,rfl⟩:=j8 hr.1;refine List.mem_map.2 ⟨j,List.mem_filter.2 ⟨List.mem_range.2 (by have:=hr.2;simp only at this;omega),?_⟩,rfl⟩;unfold Tb.inB;rw[ha];simp[hb]
theorem a6d {T:Tb} {b i:Int} (h:i∈T.ins b):∃a,Tb.look T.at_ i=some a/\a.block=b:=by
 unfold Tb.ins at h;split at h
 ·cases h
 ·simp only[Tb.inK,O8,List.mem_filter,K0]at h;obtain⟨j,⟨_,hj⟩,rfl⟩:=h;unfold Tb.inB at hj;cases ha:Tb.look T.at_ (j:Int)with
  | none=>rw[ha]at hj;cases hj
  | some a=>rw[ha]at hj;exact⟨a,rfl,by simpa using hj⟩
theorem a5d (kind:Int->Bool) (o:Int):∀n,(A5 kind o n).length=(List.range n).countP λi:Nat=>((i:Int) !=o)&&kind i
 | 0=>rfl
 | n+1=>by
  rw[a1q,A9,a2A,<- a5d kind o n]
  by_cases h:(((n:Int) !=o)&&kind n)=true
  ·rw[i9 h,j6];simp[I4,h]
  ·rw[i7 h];simp[I4,h]
theorem a6s {p q:Nat->Bool} {o:Int}:∀n:Nat,(∀i,i<n->p i=true\/q i=true\/(i:Int)=o)->n<=(List.range n).countP p+(List.range n).countP q+(if 0<=o/\o<n then 1 else 0)
 | 0,_=>by simp
 | n+1,h=>by
  have ih:=a6s (p:=p) (q:=q) (o:=o) n λi hi=>h i (by omega);rw[A9,a2A,a2A];have hn:=h n (by omega);have e1:[n].countP p=if p n then 1 else 0:=by simp[I4]
  have e2:[n].countP q=if q n then 1 else 0:=by simp[I4]
  rw[e1,e2];have a1:p n=true->(if p n=true then 1 else 0)=1:=λe=>i9 e;have a2:q n=true->(if q n=true then 1 else 0)=1:=λe=>i9 e;generalize(if p n=true then 1 else 0)=x1 at a1 ⊢;generalize(if q n=true then 1 else 0)=x2 at a2 ⊢
  by_cases ho:0<=o/\o<n
  ·rw[i9 ho]at ih;rw[i9 (show 0<=o/\o<((n+1:Nat):Int)by omega)];rcases hn with e | e | e
   ·have:=a1 e;omega
   ·have:=a2 e;omega
   ·omega
  ·rw[i7 ho]at ih;rcases hn with e | e | e
   ·have:=a1 e;split<;>omega
   ·have:=a2 e;split<;>omega
   ·rw[i9 (show 0<=o/\o<((n+1:Nat):Int)by omega)];omega
structure Rmy (fd:Int) (W:List (Int×En)) (S:Dv):Prop where
 inv:Inv fd S
 hd:Hd S W
 wok:WOk W
 held:∀b,S.t.has b=true->(S.t.at_ b).held=false
 ff:(∀i:Nat,S.N.dead.getD i false=false)->∀i j:Nat,(S.N.blk i j).fails=false
 cap:2*W.length<=(S.N.blocks-5)*(S.N.pages*(S.N.dies-2))+1
namespace Rmy
variable {fd : Int} {S : Dv} {k m β : Nat} {W : List (Int × En)}
theorem clear(h:Rmy fd W S) (hO:S.Ok (96+k) m):∃V,S.clear=(V,0)/\Rmy fd W V/\V.Ok k m/\A5 (D1 V.t V.T) V.op V.t.b=[]/\V.t.blanks=S.t.blanks+(A5 (D1 S.t S.T) S.op S.t.b).length/\V.T=S.T/\V.op=S.op/\V.row=S.row/\V.next=S.next/\V.rows=S.rows+S.N.pages*(A5 (D1 S.t S.T) S.op S.t.b).length/\V.N.dead=S.N.dead/\V.N.broken=S.N.broken/\S.N.Like V.N/\(∀d:Int,L.has S.t.dead d=true->L.has V.t.dead d=true)/\(Hot2 fd S β->Hot2 fd V β):=by
 have hk:=Dv.clear_keep hO;obtain⟨N',t',c1,c2,c3⟩:=h.inv.clear_hd hO h.hd;rw[c1]at hk;refine⟨_,c1,⟨c2.inv,c3,h.wok,λb hb=>?_,λhd=>?_,?_⟩,hk.1,?_,c2.blanks,rfl,rfl,rfl,rfl,?_,c2.dead,c2.broken,c2.like,c2.td,λhh=>?_⟩
 ·have hb:t'.has b=true:=hb;rw[c2.has]at hb;show(t'.at_ b).held=false;rw[c2.held b hb];exact h.held b hb
 ·have hd:∀i:Nat,N'.dead.getD i false=false:=hd;rw[c2.dead]at hd;exact(c2.nofl ⟨hd,h.ff hd⟩).1.2
 ·show 2*W.length<=(N'.blocks-5)*(N'.pages*(N'.dies-2))+1;rw[c2.like.blocks,c2.like.pages,c2.like.dies];exact h.cap
 ·refine a4x _ λx hx=>?_;have hx:x<t'.b:=hx;have htb:t'.b=S.t.b:=by rw[c2.fit.b,hO.t.b,c2.like.blocks]
  have hhas:S.t.has (x:Int)=true:=Tl.has_iff.2 (by omega);have hhas':t'.has (x:Int)=true:=by rw[c2.has];exact hhas
  cases hh:(((x:Int) !=S.op)&&D1 t' S.T x)with
  | false=>rfl
  | true=>
   exfalso
   rw[j5]at hh;have h2:=hh.2;unfold D1 at h2;simp only[j5,j7]at h2;have hu':(t'.at_ x).used=true:=by
    have:=h2.1.1.2;unfold Tl.blank at this;rw[hhas']at this;simpa using this
   by_cases hm:(x:Int)∈A5 (D1 S.t S.T) S.op S.t.b
   ·rw[c2.blank _ hm]at hu';cases hu'
   ·refine hm (mem_pkSome.2 ⟨by omega,by omega,by simpa using hh.1,?_⟩);unfold D1;rw[h.inv.usable hO hhas,h2.2];unfold Tl.blank Tl.held;rw[hhas,<- c2.rest _ hhas hm,hu',h.held _ hhas];rfl
 ·unfold Dv.rows;show N'.pages*t'.blanks+(if S.op>=0 then((N'.pages:Int)-S.row).toNat else 0)=_;rw[c2.blanks,c2.like.pages,a2H];omega
 ·cases hh with
  | calm hno=>
   have hnf:=c2.nofl ⟨hno.dead,h.ff hno.dead⟩;exact .calm ⟨λi=>by show N'.dead.getD i false=false;rw[c2.dead];exact hno.dead i,List.eq_nil_iff_forall_not_mem.2 λa ha=>(by have:=c2.plan a ha;rw[hno.plan]at this;cases this),λi j=>by show(N'.blk i j).met=false;rw[hnf.2];exact hno.met i j⟩
  | cold h1 h2=>exact .cold (c2.td fd h1) h2
  | once h1=>exact .once (c2.td fd h1)
  | brn hb=>exact .brn (hb.cleared hO.t.b c2)
  | dead h0 h1=>exact .dead h0 (by show N'.dead.getD fd.toNat false=true;rw[c2.dead];exact h1)
end Rmy
inductive Mvd (fd:Int) (S:Dv):Dv->Prop
 | nil:Mvd fd S S
 | same {U V:Dv}:Mvd fd S U->V.T=U.T->V.op=U.op->V.row=U.row->(∀b,V.t.has b=U.t.has b)->V.N.dead=U.N.dead->Inv fd V->Mvd fd S V
 | crd {U V:Dv} {I:List Int}:Mvd fd S U->Crd fd U I V->Mvd fd S V
theorem Mvd.trans {fd:Int} {S U V:Dv} (h:Mvd fd S U) (h2:Mvd fd U V):Mvd fd S V:=by
 induction h2 with
 | nil=>exact h
 | same _ h1 h2 h3 h4 h5 h6 ih=>exact .same ih h1 h2 h3 h4 h5 h6
 | crd _ hc ih=>exact .crd ih hc
namespace Rmy
variable {fd : Int} {S : Dv} {k m β : Nat} {W : List (Int × En)}
theorem victim (h:Rmy fd W S) (hO:S.Ok k m) (hsp:A5 (D1 S.t S.T) S.op S.t.b=[]) (hfr:¬(S.free:Int)>4):
  0<=S.victim/\S.t.has S.victim=true/\S.victim≠S.op/\(S.t.at_ S.victim).used=true/\0<Tb.cntB S.T.at_ S.victim/\2*Tb.cntB S.T.at_ S.victim<=S.N.pages*(S.N.dies-2)/\S.T.count S.victim<S.t.p*G.slots (S.t.mask S.victim):=by
 have hg:=hO.gd.ok.bd16;have hb:=hO.t.b;have hfl:=h.inv.free_len hO;have hlen:=hO.t.len;have hbl:S.t.blanks=(List.range S.t.b).countP λi:Nat=>!(S.t.at_ (i:Nat)).used:=by
  unfold Tl.blanks Tl.at_;rw[Inv.countP_range_get _ Sb.zero,hlen];simp
 have h3:=a6s (p:=λi:Nat=>((i:Int) !=S.op)&&V9 S.t S.T i) (q:=λi:Nat=>!(S.t.at_ (i:Nat)).used) (o:=S.op) S.t.b λi hi=>by
  have hhas:S.t.has (i:Int)=true:=Tl.has_iff.2 (by omega)
  by_cases e1:(i:Int)=S.op
  ·exact .inr (.inr e1)
  ·cases hu:(S.t.at_ (i:Int)).used with
   | false=>exact .inr (.inl rfl)
   | true=>
    left;have hc:¬S.T.count (i:Int)=0:=λhc=>by
     have:(i:Int)∈A5 (D1 S.t S.T) S.op S.t.b:=mem_pkSome.2 ⟨by omega,by omega,e1,by
      unfold D1;rw[h.inv.usable hO hhas,hc];unfold Tl.blank Tl.held;rw[hhas,hu,h.held _ hhas];rfl⟩
     rw[hsp]at this;cases this
    have hc2:S.T.count (i:Int)>0:=by
     have:=hO.T.cnt (i:Int);omega
    unfold V9 Tl.held;rw[hhas,h.held _ hhas,l8 hc2];simp[e1]
 rw[<- hbl,<- a5d]at h3;have hQ:S.N.blocks-5<=(A5 (V9 S.t S.T) S.op S.t.b).length:=by
  split at h3<;>omega
 obtain⟨x,hx⟩:∃x,x∈A5 (V9 S.t S.T) S.op S.t.b:=by
  cases hl:A5 (V9 S.t S.T) S.op S.t.b with
  | nil=>rw[hl]at hQ;simp at hQ;omega
  | cons y l=>exact⟨y,by simp⟩
 have hv:=(a4S S hx).1;obtain⟨v1,v2,v3,v4⟩:=mem_pkSome.1 hv;have hhas:S.t.has S.victim=true:=Tl.has_iff.2 ⟨v1,v2⟩;have hcn:=hO.T.cnt S.victim;have hpos:0<Tb.cntB S.T.at_ S.victim:=by
  unfold V9 at v4;simp only[j5,g7]at v4;omega
 have hsum:=b9f S.T.at_ (A5 (V9 S.t S.T) S.op S.t.b) (Inv.pkSome_nodup _ _ _);have hmin:=b4e (Tb.cntB S.T.at_ S.victim) (A5 (V9 S.t S.T) S.op S.t.b) (λb=>Tb.cntB S.T.at_ b) λb hb=>by
  have:=(a4S S hb).2;rw[hcn,hO.T.cnt b]at this;omega
 have hWl:S.T.at_.length=W.length:=by
  have:=congrArg List.length h.hd.keys;simpa using this
 have hcap:=h.cap;obtain⟨c,hc⟩:∃c,Tb.cntB S.T.at_ S.victim=c:=⟨_,rfl⟩;rw[hc]at hcn hpos hmin ⊢;have hle:(S.N.blocks-5)*c<=W.length:=by
  have:(S.N.blocks-5)*c<=(A5 (V9 S.t S.T) S.op S.t.b).length*c:=H5 _ hQ;omega
 have h2c:2*c<=S.N.pages*(S.N.dies-2):=by
  refine U8 λhlt=>?_;have h1:(S.N.blocks-5)*(S.N.pages*(S.N.dies-2)+1)<=(S.N.blocks-5)*(2*c):=s7 _ (by omega);have h2:(S.N.blocks-5)*(2*c)=2*((S.N.blocks-5)*c):=by rw[X4 2 c,<- Nat.mul_assoc,X4 _ 2]
  rw[a2H,U6]at h1;omega
 have hused:(S.t.at_ S.victim).used=true:=by
  obtain⟨y,hy,hyb⟩:=List.countP_pos_iff.1 (show 0<S.T.at_.countP λx=>x.2.block==S.victim by unfold Tb.cntB at hc;omega);have:=(h.inv.st _ _ (b0J hO.T hy)).used
  rwa [show y.2.block=S.victim from by simpa using hyb]at this
 refine⟨v1,hhas,v3,hused,hpos,h2c,?_⟩;rw[hcn];have hms:=(h.inv.msk hO hhas).pos hg.1;have hp:=hO.t.p;have h4:((S.N.pages*(S.N.dies-2):Nat):Int)=(S.N.pages:Int)*((S.N.dies:Int)-2):=by
  have:((S.N.dies-2:Nat):Int)=(S.N.dies:Int)-2:=by omega
  rw[<- this];exact a4r _ _
 have h5:(S.N.pages:Int)*((S.N.dies:Int)-2)<=(S.t.p:Int)*G.slots (S.t.mask S.victim):=by
  rw[hp];exact Int.mul_le_mul_of_nonneg_left hms.2.1 (by omega)
 omega
theorem emptied (h:Rmy fd W S) (hO:S.Ok (Dv.costR+k) m) (hsp:A5 (D1 S.t S.T) S.op S.t.b=[]) (hfr:¬(S.free:Int)>4) (hot:Hot2 fd S β) (hrw:(S.N.pages+1)/2+β<=S.rows) (hnx:S.next<=1099511627775-3000000) (f:Nat):
  ∃(V:Dv) (β':Nat),Dv.roomGo (f+1) S=Dv.roomGo f V/\Rmy fd W V/\V.Ok k m/\A5 (D1 V.t V.T) V.op V.t.b=[]/\Hot2 fd V β'/\β'<=β/\S.rows+S.N.pages+β'<=V.rows+(S.N.pages+1)/2+β/\V.next<=S.next+400/\V.N.dead=S.N.dead/\V.N.broken=S.N.broken/\S.N.Like V.N/\V.T.logical=S.T.logical/\(∀d:Int,L.has S.t.dead d=true->L.has V.t.dead d=true)/\Mvd fd S V/\∃(C:Dv) (n:Int),S.carry S.victim (S.T.count S.victim)=(C,n,(0:Int))/\C.clear=(V,(0:Int))/\S.rows+β'<=C.rows+(S.N.pages+1)/2+β:=by
 have hg:=hO.gd.ok.bd16;obtain⟨v1,v2,v3,v4,v5,v6,v7⟩:=h.victim (hO.less (m9 _)) hsp hfr;obtain⟨v,hv⟩:∃v,S.victim=v:=⟨_,rfl⟩;rw[hv]at v1 v2 v3 v4 v5 v6 v7;have hcn:=hO.T.cnt v;obtain⟨c,hc⟩:∃c,Tb.cntB S.T.at_ v=c:=⟨_,rfl⟩;rw[hc]at hcn v5 v6;have hil:=ins_len hO.T v;rw[hc]at hil;have htake:(S.T.ins v).take (max (S.T.count v) 0).toNat=S.T.ins v:=by
  rw[hcn];exact B5 (by omega)
 have hPD:S.N.pages*(S.N.dies-2)<=8*4:=T9 hg.2.2.2 (by omega);have hlenρ:(S.T.ins v).length<=(S.N.dies-2)*((S.N.pages+1)/2):=by
  have h1:(S.N.dies-2)*S.N.pages<=(S.N.dies-2)*(2*((S.N.pages+1)/2)):=s7 _ (by omega);have h2:(S.N.dies-2)*(2*((S.N.pages+1)/2))=2*((S.N.dies-2)*((S.N.pages+1)/2)):=by rw[Nat.mul_left_comm]
  rw[X4 S.N.pages]at v6;omega
 have hlen16:(S.T.ins v).length<=16:=by omega
 have hnd:(S.T.ins v).Nodup:=by
  unfold Tb.ins;split
  ·exact a0w
  ·unfold Tb.inK;exact List.pairwise_map.2 ((List.nodup_range.filter _).imp λhne e=>hne (by omega))
 have hnone:∀i,Tb.look W i=none->Tb.look S.T.at_ i=none:=λi hi=>h.hd.none hi;obtain⟨V,β',r1,r2,r3,r4,r5,r6,r7⟩:=h.inv.carry_go (S.T.ins v).length S (S.T.ins v) 0 W β ((S.N.pages+1)/2) (96+k) (hO.less (by
  have:Dv.cost*(S.T.ins v).length<=Dv.cost*65536:=s7 _ (by omega);unfold Dv.costR Dv.costC;omega)) (m9 _) h.hd h.wok (λi hi=>by
   obtain⟨a,ha,_⟩:=a6d hi;cases hw:Tb.look W i with
   | none=>rw[hnone i hw]at ha;cases ha
   | some e=>rfl) hnd hot hlenρ hrw (by omega)
 have hcar:S.carry v (S.T.count v)=(V,((S.T.ins v).length:Int),(0:Int)):=by
  unfold Dv.carry;rw[htake];show Dv.carryGo (S.T.ins v).length S (S.T.ins v) 0=_;rw[r1];simp
 have hRV:Rmy fd W V:=⟨r2.inv,r3,h.wok,λb hb=>by rw[r2.has]at hb;rw[(r2.sb b hb).1];exact h.held b hb,λhd i j=>by rw[(r2.flags i j).2];exact h.ff (λi=>by rw[<- r2.dead];exact hd i) i j,by rw[r2.like.blocks,r2.like.pages,r2.like.dies];exact h.cap⟩;obtain⟨U,u1,u2,u3,u4,u5,u6,u7,u8,u9,u10,u11,u12,u13,u14,u15⟩:=hRV.clear (β:=β') (k:=k) r7
 --the emptied one is spent
 have hvs:v∈A5 (D1 V.t V.T) V.op V.t.b:=by
  have hVb:V.t.b=S.t.b:=by
   have h1:=r7.t.b;have h2:=hO.t.b;have h3:=r2.like.blocks;omega
  have hvh:V.t.has v=true:=by rw[r2.has];exact v2
  have hfresh:∀b r,FreshP S b r->b≠v:=λb r hf e=>by
   subst e;rcases hf with⟨e1,_⟩ | ⟨_,e2⟩
   ·exact v3 e1
   ·rw[v4]at e2;cases e2
  refine mem_pkSome.2 ⟨v1,by have:=(Tl.has_iff.1 v2).2;omega,?_,?_⟩
  ·exactλe=>hfresh V.op V.row (r2.back V.op V.row (.inl ⟨rfl,D9 _⟩)) e.symm
  ·unfold D1 Tl.blank Tl.held;have hcv:V.T.count v=0:=by
    rw[r7.T.cnt];have:Tb.cntB V.T.at_ v=0:=by
     unfold Tb.cntB;rw[a1S];intro x hx hxb;have hlk:=b0J r7.T hx;have hxb:x.2.block=v:=by simpa using hxb
     by_cases hm:x.1∈S.T.ins v
     ·obtain⟨a,a1,a2,_⟩:=r2.pos _ hm;rw[hlk]at a1;injection a1 with a1;rw[<- a1]at a2;exact hfresh _ _ a2 hxb
     ·rw[r2.rest _ hm]at hlk;exact hm (b4f hO.T hlk hxb)
    rw[this];rfl
   rw[r2.inv.usable r7 hvh,hvh,(r2.sb v v2).2 v4,hRV.held v hvh,hcv];rfl
 have hlen1:1<=(A5 (D1 V.t V.T) V.op V.t.b).length:=List.length_pos_of_mem hvs;have hpg:V.N.pages=S.N.pages:=r2.like.pages;have hrowsU:V.rows+S.N.pages<=U.rows:=by
  rw[u10,hpg];have:S.N.pages*1<=S.N.pages*(A5 (D1 V.t V.T) V.op V.t.b).length:=s7 _ hlen1;omega
 have hnV:=r2.next;refine⟨U,β',?_,u2,u3,u4,u15 r4,r5,by omega,by rw[u9];omega,u11.trans r2.dead,u12.trans r2.broken,r2.like.trans u13,by rw[u6];exact r2.logical,λd hd=>u14 d (r2.td d hd), .same (.crd .nil r2) u6 u7 u8 (λb=>Inv.has_same r7.t u3.t u13 b) u11 u2.inv,V,_,by rw[hv];exact hcar,u1,r6⟩;rw[Dv.roomGo,i7 hfr,hv,i7 (by omega)];dsimp only;rw[hcar];dsimp only;rw[i7 (by decide),u1,i7 (by simp)]
theorem rows_five (hO:S.Ok k m) (hI:Inv fd S) (hfr:¬(S.free:Int)>4):S.rows<=5*S.N.pages:=by
 have hfl:=hI.free_len hO;have hr:=hO.row;have h1:S.N.pages*S.t.blanks<=S.N.pages*4:=s7 _ (by omega);unfold Dv.rows;split<;>omega
theorem go:∀(f:Nat) (S:Dv) (β k:Nat),Rmy fd W S->S.Ok (Dv.costR*f+k) m->A5 (D1 S.t S.T) S.op S.t.b=[]->Hot2 fd S β->3*S.N.pages+β<=S.rows->5*S.N.pages+β+1<=S.rows+f*(S.N.pages/2)->S.next+400*(f:Int)<=1099511627775-3000000->
  ∃(V:Dv) (β':Nat),Dv.roomGo f S=(V,0)/\Rmy fd W V/\V.Ok k m/\(V.free:Int)>4/\A5 (D1 V.t V.T) V.op V.t.b=[]/\Hot2 fd V β'/\β'<=β/\V.next<=S.next+400*(f:Int)/\V.N.dead=S.N.dead/\V.N.broken=S.N.broken/\S.N.Like V.N/\V.T.logical=S.T.logical/\(∀d:Int,L.has S.t.dead d=true->L.has V.t.dead d=true)
 | f,S,β,k,h,hO,hsp,hot,hr3,hr5,hnx=>by
  by_cases hfr:(S.free:Int)>4
  ·refine⟨S,β,?_,h,hO.less (by omega),hfr,hsp,hot,m9 _,by omega,rfl,rfl,Nand.Like.refl _,rfl,λ_ h=>h⟩;cases f with
   | zero=>rfl
   | succ f=>rw[Dv.roomGo,i9 hfr]
  ·have h5:=rows_five hO h.inv hfr;have hg:=hO.gd.ok.bd16;cases f with
   | zero=>omega
   | succ f=>
    have hmul:(f+1)*(S.N.pages/2)=f*(S.N.pages/2)+S.N.pages/2:=L6 _ _;obtain⟨V,β1,w1,w2,w3,w4,w5,w6,w7,w8,w9,w10,w11,w12,w13,_⟩:=h.emptied (k:=Dv.costR*f+k) (by rw[C2]at hO;exact hO.less (by omega)) hsp hfr hot (by omega) (by omega) f;have hpg:=w11.pages;obtain⟨U,β2,u1,u2,u3,u4,u5,u6,u7,u8,u9,u10,u11,u12,u13⟩:=go f V β1 k w2 w3 w4 w5 (by rw[hpg];omega) (by rw[hpg];omega) (by omega);exact⟨U,β2,by rw[w1,u1],u2,u3,u4,u5,u6,by omega,by omega,u9.trans w9,u10.trans w10,w11.trans u11,u12.trans w12,λd hd=>u13 d (w13 d hd)⟩
theorem room (h:Rmy fd W S) (hO:S.Ok (96+(Dv.costR*S.t.b+k)) m) (hot:Hot2 fd S β) (hr3:3*S.N.pages+β<=S.rows) (hβ:β<=1) (hnx:S.next<=1099511627775-4000000):
  ∃(V:Dv) (β':Nat),S.room=(V,0)/\Rmy fd W V/\V.Ok k m/\(V.free:Int)>4/\A5 (D1 V.t V.T) V.op V.t.b=[]/\Hot2 fd V β'/\β'<=β/\V.next<=S.next+6400/\V.N.dead=S.N.dead/\V.N.broken=S.N.broken/\S.N.Like V.N/\V.T.logical=S.T.logical/\(∀d:Int,L.has S.t.dead d=true->L.has V.t.dead d=true):=by
 have hg:=hO.gd.ok.bd16;have hb:=hO.t.b;obtain⟨U,u1,u2,u3,u4,u5,u6,u7,u8,u9,u10,u11,u12,u13,u14,u15⟩:=h.clear (β:=β) hO;have hpg:=u13.pages;have h8:8*(S.N.pages/2)<=S.t.b*(S.N.pages/2):=H5 _ (by omega);obtain⟨V,β',v1,v2,v3,v4,v5,v6,v7,v8,v9,v10,v11,v12,v13⟩:=go S.t.b U β k u2 u3 u4 (u15 hot) (by rw[hpg,u10];omega) (by rw[hpg,u10];omega) (by rw[u9];omega);refine⟨V,β',?_,v2,v3,v4,v5,v6,v7,by rw[u9]at v8;omega,v9.trans u11,v10.trans u12,u13.trans v11,by rw[v12,u6],λd hd=>v13 d (u14 d hd)⟩;unfold Dv.room;rw[u1];dsimp only;rw[i7 (by decide),v1]
end Rmy
theorem b1g {T:Tb} (h:T.Ok):T.at_.length<=T.logical.toNat:=by
 have h1:=a4e (K:=T.at_.map (·.1)) (M:=(List.range T.logical.toNat).map λi:Nat=>(i:Int)) h.keys λx hx=>by
  obtain⟨y,hy,rfl⟩:=List.mem_map.1 hx;have:=h.rng y hy;exact List.mem_map.2 ⟨y.1.toNat,List.mem_range.2 (by omega),by omega⟩
 simpa using h1
theorem WOk.put {W:List (Int×En)} (h:WOk W) {e:En} (he:FitR e):WOk (Tb.put1 W e.lpn e):=λi x hx=>by
 rw[Tb.look_put1]at hx;split at hx
 ·rename_i e1;injection hx with hx;subst hx;exact⟨e1.symm,he⟩
 ·exact h i x hx
namespace Rmy
variable {fd : Int} {S : Dv} {k m β : Nat} {W : List (Int × En)}
theorem many (h:Rmy fd W S) (hO:S.Ok k m) (hfr:(S.free:Int)>4):5*S.N.pages<=S.rows:=by
 have:=h.inv.free_len hO;have h1:S.N.pages*5<=S.N.pages*S.t.blanks:=s7 _ (by omega);unfold Dv.rows;omega
end Rmy
theorem Dv.Ok.fault0 {S:Dv} {k m:Nat} (h:S.Ok k m) (kd x y z n xx:Int) (hk:kd≠1):({S with N:=(S.N.fault kd x y z n xx).2}:Dv).Ok k m:=
 ⟨h.gd.fault0 kd x y z n xx hk,h.t.like (Nand.like_fault _ _ _ _ _ _ _),h.T,h.sl,h.row,h.next⟩
namespace B18
def S0:Dv:=Dv.new 3 8 2 20
def S1:Dv:=(S0.pen [e18 1 1,e18 2 2,e18 3 3]).1
def S2:Dv:=(S1.pen [e18 3 3]).1
def S3:Dv:=(S2.carry 0 2).1
def S4:Dv:={S3 with N:=(S3.N.fault 4 2 0 0 0 0).2}
def S5:Dv:=(S4.step 2).1
def S6:Dv:=S5.room.1
def S7:Dv:=(S6.torn [e18 9 9]).1
theorem h1:(S0.pen [e18 1 1,e18 2 2,e18 3 3]).2=(2,0):=by kernel_rfl
theorem h2:(S1.pen [e18 3 3]).2=(1,0):=by kernel_rfl
theorem h3:(S2.carry 0 2).2=(2,0):=by kernel_rfl
theorem h4:Tb.look S3.T.at_ 1=some ⟨1,0,0,7,4,1⟩:=by kernel_rfl
theorem h5:S3.op=1:=by kernel_rfl
theorem h6:(S4.step 2).2=(1,0):=by kernel_rfl
theorem h7:S5.leftN=2:=by kernel_rfl
theorem h8:S5.N.broken=0:=by kernel_rfl
theorem h9:S5.room.2=0:=by kernel_rfl
theorem h10:(S6.torn [e18 9 9]).2=0:=by kernel_rfl
theorem h11:S7.clear.2=0:=by kernel_rfl
def U:Nat:=10000000000
theorem G0:S0.Ok (10*U) 0:=Dv.Ok.new 3 8 2 20 rfl _ (by decide)
theorem d3:∀s∈[e18 1 1,e18 2 2,e18 3 3],s.data.length=16:=by decide
theorem d1:∀s∈[e18 3 3],s.data.length=16:=by decide
theorem d9:∀s∈[e18 9 9],s.data.length=16:=by decide
theorem G1:S1.Ok (9*U) 0:=(Dv.pen_keep (G0.less (by decide:8*Dv.fuel+9*U<=_)) d3).1
theorem G2:S2.Ok (8*U) 0:=(Dv.pen_keep (G1.less (by decide:8*Dv.fuel+8*U<=_)) d1).1
theorem G3:S3.Ok (7*U) 0:=(Dv.carry_keep (G2.less (by decide:Dv.costC+7*U<=_)) 0 2).1
theorem G4:S4.Ok (7*U) 0:=Dv.Ok.fault0 G3 4 2 0 0 0 0 (by decide)
theorem G5:S5.Ok (6*U) 0:=(Dv.step_keep (G4.less (by decide:Dv.costS+6*U<=_)) 2).1
theorem G6:S6.Ok (5*U) 0:=(Dv.room_keep (G5.less (by decide:Dv.costM+5*U<=_))).1
theorem G7:S7.Ok (4*U) 0:=(Dv.tornGo_keep 1 S6 [e18 9 9] _ (G6.less (by decide:Dv.costT*1+4*U<=_)) d9).1
end B18
end Go.Proofs.YtpakpgkdpofbhaaGreat
namespace Go.Proofs.YtpakpgkdpofbhaaGreat
open Go Go.RowKit
open B18
theorem b5j:FP 213 [] [] (Ps (.bool true) []):=by
 refine FE [] Tryz.func213 λX F hX=>?_;refine J.qp (b5i) [] λ_=>?_;exact J.qx []
theorem b5g:FP 145 [] [] (Ps (.bool true) []):=by
 refine FE [] Tryz.func145 λX F hX=>?_;refine J.qc (b5f 3 8 2 rfl 20) [] λ_=>?_;rintro v As ⟨n,t,l,q,rfl,rfl⟩;refine⟨_,rfl,trivial,?_⟩;rw[show Dv.new 3 8 2 20=S0 from rfl];refine J.qF λ_=>?_;refine J.qp (a2S 1 1) [] λ_=>?_;refine J.qp (a2S 2 2) [] λ_=>?_;refine J.qp (a2S 3 3) [] λ_=>?_;refine J.q λbx=>?_;refine J.ca hX (by kernel_rfl) (a3O q n t l S0 (9*U) 0 (G0.less (by decide)) (.pt (bx 0) 113 (x5 [e18 1 1,e18 2 2,e18 3 3])) (some ⟨bx 0,0,none⟩) 3 3 [e18 1 1,e18 2 2,e18 3 3] (a2L _ _ _ _ _ rfl) rfl (by decide) B18.d3) [1,2,3,4,5] 0 rfl rfl rfl rfl rfl rfl (λ_=>rfl) ?_;refine cpq ⟨_,rfl,trivial,?_⟩;rw[show(S0.pen [e18 1 1,e18 2 2,e18 3 3]).1=S1 from rfl,h1];refine J.qp (a2S 3 3) [] λ_=>?_;refine J.q λby_=>?_;refine J.ca hX (by kernel_rfl) (a3O q n t l S1 (8*U) 0 (G1.less (by decide)) (.pt (by_ 0) 113 (x5 [e18 3 3])) (some ⟨by_ 0,0,none⟩) 1 1 [e18 3 3] (a2L _ _ _ _ _ rfl) rfl (by decide) B18.d1) [1,2,3,4,6] 0 rfl rfl rfl rfl rfl rfl (λ_=>rfl) ?_;refine cpq ⟨_,rfl,trivial,?_⟩;rw[show(S1.pen [e18 3 3]).1=S2 from rfl,h2];refine J.qp (a7C n t l q S2 (7*U) 0 (G2.less (by decide)) 0 2) [1,2,3,4] λ_=>?_;rw[show(S2.carry 0 2).1=S3 from rfl,h3];refine J.qp (a5S l S3.T 1) [4] λ_=>?_;rw[h4,m7,a2z];refine J.qp (a3h q n t l S3) [1] λ_=>?_;rw[h5];refine J.qp (a2s n S3.N G3.gd.ok 0 4 2 0 0 0 0) [2] λ_=>?_;rw[show(S3.N.fault 4 2 0 0 0 0).2=S4.N from rfl,show a2k q n t l S3=a2k q n t l S4 from rfl,show S3.t=S4.t from rfl,show S3.T=S4.T from rfl];refine J.qp (b4c n t l q S4 (6*U) 0 (G4.less (by decide)) (by decide) 2) [1,2,3,4] λ_=>?_;rw[show(S4.step 2).1=S5 from rfl,h6];refine J.qp (b5j) [] λ_=>?_;refine J.qp (b4d t l S5 (6*U) 0 G5) [3,4] λ_=>?_;rw[h7];refine J.qp (a2O n S5.N) [2] λ_=>?_;rw[h8];refine J.qp (a4X n t l q S5 (5*U) 0 (G5.less (by decide)) (by decide)) [1,2,3,4] λ_=>?_;rw[show S5.room.1=S6 from rfl,h9];refine J.qp (a2S 9 9) [] λ_=>?_;refine J.q λ_=>?_;refine J.effG hX tk rfl rfl rfl (λ_=>rfl) (by(repeat' (first | exact Conj.nil | refine Conj.cons ?_ ?_ | omega | exact hq0 | (simpa using hq0) | (exactλh=>h) | exact rfl | (intro hq;have hq0:=hq;try simp only[j5,n5,g7,j7,c9]at hq) | (simp;done) | (simp;omega) | decide))) (λ_=>rfl) λbt=>⟨trivial,?_⟩;refine J.q λ_=>?_;refine J.ca hX (by kernel_rfl) (b0F n t l q S6 (4*U) 0 (.pt bt 113 (x5 [e18 9 9])) (some (bt,0)) 1 1 [e18 9 9] (a2L _ _ _ _ _ rfl) rfl (by decide) (by decide) (λh=>by cases h) B18.d9 (G6.less (by decide)) (by decide)) [1,2,3,4,8] 0 rfl rfl rfl rfl rfl rfl (λ_=>rfl) ?_;refine cpq ⟨_,rfl,trivial,?_⟩;rw[show(S6.torn [e18 9 9]).1=S7 from rfl,h10];refine J.qp (a3h q n t l S7) [1] λ_=>?_;refine J.q λ_=>?_;refine J.ca hX (by kernel_rfl) (a4Y n t l S7.N S7.t S7.T (3*U) 0 (G7.gd.less (by decide) (m9 _)) (by decide) G7.t S7.op) [2,3,4] 0 rfl rfl rfl rfl rfl rfl (λ_=>rfl) ?_;refine cpq ⟨_,rfl,trivial,?_⟩;rw[show(Dv.clearX S7.N S7.t S7.T S7.op).2.2=0 from h11];exact J.qx []
end Go.Proofs.YtpakpgkdpofbhaaGreat
namespace Go.Proofs.YtpakpgkdpofbhaaGreat
open Go Go.RowKit
theorem b5F (N:Nand) (x y:Int):N.Like (N.eraseN x y)/\(N.eraseN x y).dead=N.dead/\(N.eraseN x y).broken=N.broken/\(∀i j,j≠y.toNat->(N.eraseN x y).blk i j=N.blk i j)/\∀(d b r:Int) (c:NCell),(N.eraseN x y).pageAt d b r=some c->c.lost=true\/N.pageAt d b r=some c:=by
 have key:∀(M:Nand) (B':NBlock),M.blk=N.blk->(∀(r:Int) (c:NCell),B'.cells[r.toNat]? =some c->c.lost=true\/(N.blk x.toNat y.toNat).cells[r.toNat]? =some c)->(∀i j,j≠y.toNat->(M.setBlk x.toNat y.toNat B').blk i j=N.blk i j)/\∀(d b r:Int) (c:NCell),(M.setBlk x.toNat y.toNat B').pageAt d b r=some c->c.lost=true\/N.pageAt d b r=some c:=λM B' hM hB=>by
  have hb:∀i j,(M.setBlk x.toNat y.toNat B').blk i j=if i=x.toNat/\j=y.toNat then B' else N.blk i j:=λi j=>by rw[<- hM];rfl
  refine⟨λi j hj=>by rw[hb,i7 (λe=>hj e.2)],λd b r c hc=>?_⟩;unfold Nand.pageAt at hc ⊢;rw[hb]at hc;split at hc
  ·rename_i e;rw[e.1,e.2];exact hB r c hc
  ·exact .inr hc
 unfold Nand.eraseN;dsimp only;split
 ·exact⟨Nand.Like.refl _,rfl,rfl,λ_ _ _=>rfl,λ_ _ _ _ h=> .inr h⟩
 split
 ·have:=key N.cutN {N.blk x.toNat y.toNat with cells:=((N.blk x.toNat y.toNat).cells++List.replicate (N.pages-(N.blk x.toNat y.toNat).cells.length) Nand.zcell).map λc=>{c with lost:=true}} rfl (λr c hc=>by
   left;dsimp only at hc;rw[m6]at hc;obtain⟨c0,_,rfl⟩:=Option.map_eq_some_iff.1 hc;rfl)
  exact⟨⟨rfl,rfl,rfl⟩,rfl,rfl,this⟩
 split
 ·have:=key N.cutN {N.blk x.toNat y.toNat with met:=true} rfl (λr c hc=> .inr hc);exact⟨⟨rfl,rfl,rfl⟩,rfl,rfl,this⟩
 ·have:=key N.cutN {N.blk x.toNat y.toNat with cells:=[],worn:=(N.blk x.toNat y.toNat).worn+1} rfl (λr c hc=>by simp at hc);exact⟨⟨rfl,rfl,rfl⟩,rfl,rfl,this⟩
structure ErsP (N N':Nand) (l:List Int):Prop where
 like:N.Like N'
 dead:N'.dead=N.dead
 broken:N'.broken=N.broken
 rest:∀i j,(∀y∈l,j≠y.toNat)->N'.blk i j=N.blk i j
 less:∀(d b r:Int) (c:NCell),N'.pageAt d b r=some c->c.lost=true\/N.pageAt d b r=some c
theorem ErsP.refl (N:Nand) (l:List Int):ErsP N N l:=⟨Nand.Like.refl _,rfl,rfl,λ_ _ _=>rfl,λ_ _ _ _ h=> .inr h⟩
theorem ErsP.trans {N N' N'':Nand} {l:List Int} (h:ErsP N N' l) (h2:ErsP N' N'' l):ErsP N N'' l:=
 ⟨h.like.trans h2.like,h2.dead.trans h.dead,h2.broken.trans h.broken,λi j hj=>(h2.rest i j hj).trans (h.rest i j hj),λd b r c hc=>by
  rcases h2.less d b r c hc with e | e
  ·exact .inl e
  ·exact h.less d b r c e⟩
theorem a8v (N:Nand) (t:Tl) (b mk:Int):∀(q:List Nat) (x:Nand×Tl×Int),ErsP x.1 (q.foldl (Dv.eraseD b mk) x).1 [b]
 | [],x=>ErsP.refl _ _
 | d::q,x=>by
  rw[y5];refine ErsP.trans (N':=(Dv.eraseD b mk x d).1) ?_ (a8v N t b mk q _);unfold Dv.eraseD;split
  ·exact ErsP.refl _ _
  split
  ·exact ErsP.refl _ _
  ·obtain⟨e1,e2,e3,e4,e5⟩:=b5F x.1 d b;exact⟨e1,e2,e3,λi j hj=>e4 i j (hj b (by simp)),e5⟩
theorem a6L:∀(l:List Int) (N:Nand) (t:Tl),ErsP N (Dv.clearGo l N t).1 l
 | [],N,t=>ErsP.refl _ _
 | b::l,N,t=>by
  have h1:ErsP N (Dv.erase N t b).1 (b::l):=by
   have h2:ErsP N (Dv.eraseB N t b).1 [b]:=a8v N t b (t.mask b) _ (N,t,0);have h3:ErsP N (Dv.eraseB N t b).1 (b::l):=⟨h2.like,h2.dead,h2.broken,λi j hj=>h2.rest i j λy hy=>hj y (by simp at hy;simp[hy]),h2.less⟩;unfold Dv.erase;dsimp only;split
   ·exact h3
   ·exact h3
  rw[Dv.clearGo];split
  ·exact h1
  ·have ih:=a6L l (Dv.erase N t b).1 (Dv.erase N t b).2.1;exact h1.trans ⟨ih.like,ih.dead,ih.broken,λi j hj=>ih.rest i j λy hy=>hj y (by simp[hy]),ih.less⟩
structure Ev (C:En->Prop) (N:Nand) (b r m:Int) (l:List En):Prop where
 is:RowIs N b r m l
 inn:RowIn N b r m l
 kind:∀e∈l,e.role=3\/C e
structure Old (d:Nat) (E:En->Prop) (N:Nand) (b r:Int) (l:List En):Prop where
 is:RowIs N b r (L.all N.dies) l
 inn:∀x∈R.job b r (L.all N.dies) l,x.1=(d:Int)->∀c,N.pageAt (d:Int) b r=some c->a2l x.2 c
 kind:∀e∈l,e.role=3\/E e
inductive DscG (fd:Int) (C E:En->Prop) (N:Nand) (b r:Int):Prop
 | none:(∀(d:Int) (c:NCell),N.pageAt d b r=some c->c.lost=true)->DscG fd C E N b r
 | all (l:List En):Ev C N b r (L.all N.dies) l->DscG fd C E N b r
 | but (d:Nat) (l:List En):fd=(d:Int)->d<N.dies->Ev C N b r (L.without (L.all N.dies) (d:Nat)) l->((∀c,N.pageAt (d:Int) b r=some c->c.lost=true)\/∃l',Old d E N b r l')->DscG fd C E N b r
namespace DscG
variable {fd : Int} {C C' E E' : En → Prop} {N N' : Nand} {b r : Int}
theorem mono (h:DscG fd C E N b r) (hC:∀e,C e->C' e) (hE:∀e,E e->E' e):DscG fd C' E' N b r:=by
 cases h with
 | none h=>exact .none h
 | all l h=>exact .all l ⟨h.is,h.inn,λe he=>(h.kind e he).imp id (hC e)⟩
 | but d l e hd h o=>exact .but d l e hd ⟨h.is,h.inn,λe he=>(h.kind e he).imp id (hC e)⟩ (o.imp id λ⟨l',o⟩=>⟨l',o.is,o.inn,λe he=>(o.kind e he).imp id (hE e)⟩)
theorem less (h:DscG fd C E N b r) (hl:N.Like N') (hp:∀(d:Int) (c:NCell),N'.pageAt d b r=some c->c.lost=true\/∃c0,N.pageAt d b r=some c0/\(∀s,a2l s c0->a2l s c)/\(c0.lost=true->c.lost=true)):DscG fd C E N' b r:=by
 have hev:∀m l,Ev C N b r m l->Ev C N' b r m l:=λm l h=>⟨h.is.like hl,λx hx c hc=>by
  rcases hp _ c hc with e | ⟨c0,h1,h2,_⟩
  ·exact .inl e
  ·exact h2 _ (h.inn x hx c0 h1),h.kind⟩
 cases h with
 | none h=>
  refine .none λd c hc=>?_;rcases hp d c hc with e | ⟨c0,h1,_,h3⟩
  ·exact e
  ·exact h3 (h d c0 h1)
 | all l h=>exact .all l (by rw[hl.dies];exact hev _ _ h)
 | but d l e hd h o=>
  refine .but d l e (by rw[hl.dies];exact hd) (by rw[hl.dies];exact hev _ _ h) ?_;rcases o with o | ⟨l',o⟩
  ·left;intro c hc;rcases hp _ c hc with e | ⟨c0,h1,_,h3⟩
   ·exact e
   ·exact h3 (o c0 h1)
  ·right;refine⟨l',by rw[hl.dies];exact o.is.like hl,λx hx hxd c hc=>?_,o.kind⟩;rw[hl.dies]at hx;rcases hp _ c hc with e | ⟨c0,h1,h2,_⟩
   ·exact .inl e
   ·exact h2 _ (o.inn x hx hxd c0 h1)
theorem gone (h:DscG fd C E N b r) (hl:N.Like N') (hp:∀(d:Int) (c:NCell),N'.pageAt d b r=some c->c.lost=true\/N.pageAt d b r=some c):DscG fd C E N' b r:=
 h.less hl λd c hc=>(hp d c hc).imp id λh=>⟨c,h,λ_ h=>h,λh=>h⟩
end DscG
def CS (W:List (Int×En)) (T:Tb) (b r:Int) (e:En):Prop:=∃w a,Tb.look W e.lpn=some w/\Tb.look T.at_ e.lpn=some a/\(e.seq<a.seq\/e.seq=a.seq/\a.block=b/\a.row=r/\e.role=w.role/\e.data=w.data)
def CE (T:Tb) (e:En):Prop:=∃a,Tb.look T.at_ e.lpn=some a/\e.seq<a.seq
structure GI (fd:Int) (W:List (Int×En)) (S:Dv):Prop where
 inv:Inv fd S
 hd:Hd S W
 wok:WOk W
 msk:∀i a,Tb.look S.T.at_ i=some a->Msk S.N.dies fd a.mask
 dsc:∀b r:Nat,b<S.N.blocks->r<S.N.pages->DscG fd (CS W S.T b r) (CE S.T) S.N b r
 ff:(∀i:Nat,S.N.dead.getD i false=false)->∀i j:Nat,(S.N.blk i j).fails=false
theorem b1r {W:List (Int×En)} {l:List En} (h:WOk W) (hf:∀e∈l,FitR e):∀n,n<=l.length->WOk (a1a W l n)
 | 0,_=>h
 | n+1,hn=>by
  rw[a1P];exact(b1r h hf n (by omega)).put (hf _ (a0p (by omega)))
theorem a9M {l:List En} (hnd:(l.map (·.lpn)).Nodup) {n:Nat} (hn:n<=l.length):∀a b,a<b->b<n->(l.getD a En.zero).lpn≠(l.getD b En.zero).lpn:=λa b hab hb e=>by
 have g1:a<l.length:=by omega
 have g2:b<l.length:=by omega
 have h3:(l.map (·.lpn))[a]? =(l.map (·.lpn))[b]?:=by
  rw[m6,m6,d6 g1,d6 g2];rw[d7,d7,d6 g1,d6 g2]at e;exact congrArg some e
 have:=(U0 (by rw[q9];exact g1) hnd).1 h3;omega
namespace GI
variable {fd : Int} {W : List (Int × En)} {S Q : Dv} {k m : Nat} {l : List En}
theorem at1 (h:GI fd W S) (hO:S.Ok k m) (h0:¬(S.left=false/\S.pick<0)):GI fd W S.at1:=by
 have hat:=Dv.at1_like S;have hw:Went fd S S.at1 0:=by
  unfold Dv.at1;cases hl:S.left with
  | true=>rw[i9 rfl];exact Went.refl h.inv
  | false=>rw[i7 n8];exact(h.inv.opens hO hl λe=>h0 ⟨hl,e⟩).1
 refine⟨hw.inv,h.hd.went h.inv hw,h.wok,λi a ha=>?_,λb r hb hr=>?_,by rw[hat.1];exact h.ff⟩
 ·rw[hat.2.1]at ha;rw[hat.1];exact h.msk i a ha
 ·rw[hat.1]at hb hr ⊢;rw[hat.2.1];exact h.dsc b r hb hr
theorem wrote (h:GI fd W Q) (hO:Q.Ok k m) (hl:Last fd Q l) (hf:∀e∈l,FitR e) (hnd:(l.map (·.lpn)).Nodup) (hlg:∀e∈l,e.lpn<Q.T.logical):GI fd (a1a W l (Q.fit l)) (N9 Q l):=by
 have hg:=hO.gd.ok.bd16;obtain⟨l1,l2⟩:=hl.look h.inv hO hf hlg hnd;have hH:=h.hd.wrote h.inv hO hl hf hlg hnd;have hlk:Q.N.Like (N9 Q l).N:=hl.turn.like;have hfit:=Dv.fit_le Q l;have hfd:Q.fit l=min l.length (G.slots Q.mask).toNat:=rfl;obtain⟨n,hn⟩:∃n,Q.fit l=n:=⟨_,rfl⟩;rw[hn]at l1 l2 hH hfit hfd ⊢;obtain⟨w1,w2⟩:=a0Z (W:=W) (l:=l) n (a9M hnd hfit.2.1);have hR:=h.inv.rowIs hO hl.left hf hl.bd;have ho:=h.inv.opn hl.left;have hrdy:RdyW Q.N Q.op Q.row Q.mask:=⟨h.inv.lit,λd hd ha=>(ho.cells d hd).2 ha⟩;have hq:=hrdy.rdy hR;have w3:WroteR Q.N (N9 Q l).N Q.op Q.row (R.job Q.op Q.row Q.mask (Q.es l)):=(a7b hrdy hR).2.2;have hF:Full fd (N9 Q l).N Q.op Q.row Q.mask (Q.es l):=hl.turn.full;have hsq:∀i a,Tb.look Q.T.at_ i=some a->a.seq<Q.next:=λi a ha=>(h.inv.st i a ha).seq.2;have hmono:∀b r e,CS W Q.T b r e->CS (a1a W l n) (N9 Q l).T b r e:=λb r e ⟨w,a,h1,h2,h3⟩=>by
  by_cases hex:∃j,j<n/\(l.getD j En.zero).lpn=e.lpn
  ·obtain⟨j,hj,hje⟩:=hex;have x1:=l1 j hj;have x2:=w1 j hj;have ha:=hsq _ _ h2;rw[hje]at x1 x2;refine⟨_,_,x2,x1, .inl ?_⟩;show e.seq<Q.next+(j:Int);omega
  ·have hno:∀j,j<n->(l.getD j En.zero).lpn≠e.lpn:=λj hj hh=>hex ⟨j,hj,hh⟩;exact⟨w,a,by rw[w2 _ hno];exact h1,by rw[l2 _ hno];exact h2,h3⟩
 have hmonoE:∀e,CE Q.T e->CE (N9 Q l).T e:=λe ⟨a,h2,h3⟩=>by
  by_cases hex:∃j,j<n/\(l.getD j En.zero).lpn=e.lpn
  ·obtain⟨j,hj,hje⟩:=hex;have x1:=l1 j hj;have ha:=hsq _ _ h2;rw[hje]at x1;refine⟨_,x1,?_⟩;show e.seq<Q.next+(j:Int);omega
  ·have hno:∀j,j<n->(l.getD j En.zero).lpn≠e.lpn:=λj hj hh=>hex ⟨j,hj,hh⟩;exact⟨a,by rw[l2 _ hno];exact h2,h3⟩
 have hold:∀e,CS W Q.T Q.op Q.row e->CE (N9 Q l).T e:=λe ⟨w,a,_,h2,h3⟩=>by
  refine hmonoE e ⟨a,h2,?_⟩;rcases h3 with h3 | ⟨_,h4,h5,_⟩
  ·exact h3
  ·have:=(h.inv.st _ _ h2).below h4;omega
 refine⟨hl.inv h.inv hO,hH,b1r h.wok hf n hfit.2.1,λi a ha=>?_,λb r hb hr=>?_,λhd i j=>?_⟩
 rotate_right
 ·have hd:∀i:Nat,(Q.wrote l).N.dead.getD i false=false:=hd;rw[hl.turn.dead]at hd;show((Q.wrote l).N.blk i j).fails=false;rw[(hl.turn.flags i j).2.1];exact h.ff hd i j
 ·by_cases hex:∃j,j<n/\(l.getD j En.zero).lpn=i
  ·obtain⟨j,hj,rfl⟩:=hex;rw[l1 j hj]at ha;injection ha with ha;rw[<- ha,hlk.dies];exact ho.mask
  ·rw[l2 i λj hj e=>hex ⟨j,hj,e⟩]at ha;rw[hlk.dies];exact h.msk i a ha
 ·by_cases e:(b:Int)=Q.op/\(r:Int)=Q.row
  ·have hev:Ev (CS (a1a W l n) (N9 Q l).T Q.op Q.row) (N9 Q l).N Q.op Q.row Q.mask (Q.es l):=⟨hF.is,hF.inn,λx hx=>by
    rcases b0E hx with⟨i,hi,hin,rfl⟩ | rfl
    ·right;have hin2:i<n:=by rw[hfd];omega
     exact⟨_,_,w1 i hin2,l1 i hin2, .inr ⟨rfl,rfl,rfl,rfl,rfl⟩⟩
    ·exact .inl rfl⟩
   rw[e.1,e.2];rcases ho.mask.eq hg.1 with⟨hm,_⟩ | ⟨f0,f1,fno,hm⟩
   ·refine .all (Q.es l) ?_;rw[hlk.dies,<- hm];exact hev
   ·obtain⟨d,rfl⟩:=j8 f0;have hd:d<Q.N.dies:=by omega
    have hpg:(N9 Q l).N.pageAt (d:Int) Q.op Q.row=Q.N.pageAt (d:Int) Q.op Q.row:=by
     unfold Nand.pageAt;rw[l9,w3.rest d Q.op.toNat (.inr λx hx he=>by
      obtain⟨n1,_,n3⟩:=hR.inn x hx;rw[show x.1=(d:Int)from by omega,fno]at n3;cases n3)]
    refine .but d (Q.es l) rfl (by rw[hlk.dies];exact hd) (by rw[hlk.dies,<- hm];exact hev) ?_;have hb0:=ho.blk;have hr0:=ho.row;have hrp:=(Dv.left_spec hl.left).2.1;have h0:=h.dsc Q.op.toNat Q.row.toNat (by omega) (by omega);rw[a0t hb0.1,a0t hr0.1]at h0;cases h0 with
    | none h0=>exact .inl λc hc=>h0 d c (by rw[<- hpg];exact hc)
    | all l0 h0=>
     refine .inr ⟨l0,by rw[hlk.dies];exact h0.is.like hlk,λx hx hxd c hc=>?_,λe he=>(h0.kind e he).imp id (hold e)⟩;rw[hlk.dies]at hx;exact h0.inn x hx c (by rw[hxd,<- hpg];exact hc)
    | but d' l0 e' hd' h0 o=>
     obtain rfl:d'=d:=by omega
     rcases o with o | ⟨l',o⟩
     ·exact .inl λc hc=>o c (by rw[<- hpg];exact hc)
     ·refine .inr ⟨l',by rw[hlk.dies];exact o.is.like hlk,λx hx hxd c hc=>?_,λe he=>(o.kind e he).imp id (hmonoE e)⟩;rw[hlk.dies]at hx;exact o.inn x hx hxd c (by rw[<- hpg];exact hc)
  ·refine((h.dsc b r (by rw[<- hlk.blocks];exact hb) (by rw[<- hlk.pages];exact hr)).gone hlk λd c hc=> .inr ?_).mono (hmono b r) hmonoE;rw[b2Y]at hc ⊢;rw[<- w3.page hq (a0N _) (a0N _) (a0N _) λe1 e2=>e ⟨e1,e2⟩];exact hc
theorem pen (h:GI fd W S) (hO:S.Ok (8*Dv.fuel+k) m) (hot:Hot2 fd S 0) (hf:∀e∈l,FitR e) (hl0:l.length≠0) (hnd:(l.map (·.lpn)).Nodup) (hlg:∀e∈l,e.lpn<S.T.logical) (hnx:S.next<=1099511627775-1200):
  S.pen l=(S,0,11)/\S.rows=0\/∃(V:Dv) (n:Nat),S.pen l=(V,(n:Int),0)/\Pnd fd S l V n 0/\V.Ok k m/\GI fd (a1a W l n) V/\Hot2 fd V 0:=by
 by_cases hr:S.rows=0
 ·obtain⟨e1,e2⟩:=h.inv.full (hO.less (m9 _)) hr;left;refine⟨?_,hr⟩;show Dv.write (159+1) S l=_;rw[Dv.write_succ,i7 hl0,i9 ⟨e1,e2⟩]
 ·right;obtain⟨V,n,γ,p1,p2,p3,p4⟩:=h.inv.pen_step hO hot (by omega) hf hl0 hnd hlg hnx h.hd;obtain⟨γ',Q,g1,g2,g3,g4,g5,_,_,_,g9,_⟩:=h.inv.write_go (l:=l) 0 159 S k (m:=m) hO hot.hot (by omega) hf hl0 (by omega);obtain rfl:γ'=0:=by omega
  obtain rfl:=g9 rfl;obtain⟨q1,q2⟩:=p2.hot 0 hot;obtain rfl:γ=0:=by omega
  have hp:S.pen l=(N9 S.at1 l,(S.at1.fit l:Int),(0:Int)):=g5;rw[hp]at p1;have e1:=congrArg Prod.fst p1;have e2:=congrArg (λz=>z.2.1) p1;dsimp only at e1 e2;have hns:¬(S.left=false/\S.pick<0):=λe=>by
   rcases h.inv.rows_pos (hO.less (m9 _)) (by omega)with e2 | e2
   ·rw[e.1]at e2;cases e2
   ·exact e2 e.2
  have hat:=Dv.at1_like S;have hG:=(h.at1 (hO.less (m9 _)) hns).wrote g3 g4 hf hnd (λe he=>by rw[hat.2.1];exact hlg e he);subst e1;have e2:S.at1.fit l=n:=by omega
  rw[e2]at hG hp;exact⟨_,n,hp,p2,p3,hG,q2⟩
theorem swap {E:List En} {n:Nat} (h:GI fd (a1a W E n) S) (hW:WOk W) (hE:∀j,j<n->∃e sq,Tb.look W (E.getD j En.zero).lpn=some e/\E.getD j En.zero={e with seq:=sq}) (hd:∀i j,i<j->j<n->(E.getD i En.zero).lpn≠(E.getD j En.zero).lpn):GI fd W S:=by
 obtain⟨w1,w2⟩:=a0Z (W:=W) (l:=E) n hd;refine⟨h.inv,h.hd.swap hE hd,hW,h.msk,λb r hb hr=>(h.dsc b r hb hr).mono (λe ⟨w,a,x1,x2,x3⟩=>?_) λe he=>he,h.ff⟩
 by_cases hex:∃j,j<n/\(E.getD j En.zero).lpn=e.lpn
 ·obtain⟨j,hj,hje⟩:=hex;obtain⟨e0,sq,y1,y2⟩:=hE j hj;have z1:=w1 j hj;rw[hje]at z1 y1;rw[z1]at x1;injection x1 with x1;refine⟨e0,a,y1,x2,x3.imp id λ⟨z2,z3,z4,z5,z6⟩=>⟨z2,z3,z4,?_,?_⟩⟩
  ·rw[z5,<- x1,y2]
  ·rw[z6,<- x1,y2]
 ·exact⟨w,a,by rw[<- w2 _ λj hj hh=>hex ⟨j,hj,hh⟩];exact x1,x2,x3⟩
theorem carry_go:∀(f:Nat) (S:Dv) (I:List Int) (done:Int) (k:Nat),GI fd W S->S.Ok (Dv.cost*f+k) m->Hot2 fd S 0->I.length<=f->(∀i∈I,(Tb.look W i).isSome=true)->I.Nodup->S.next+1000*(f:Int)<=1099511627775-1300->
  ∃(V:Dv) (n e:Int),Dv.carryGo f S I done=(V,n,e)/\GI fd W V/\V.Ok k m/\Hot2 fd V 0/\V.next<=S.next+1000*(f:Int)/\V.T.logical=S.T.logical/\S.N.Like V.N
 | 0,S,I,done,k,h,hO,hot,hL,_,_,_=>⟨S,done,0,rfl,h,hO.less (by omega),hot,by omega,rfl,Nand.Like.refl _⟩
 | f+1,S,I,done,k,h,hO,hot,hL,hin,hnd,hnx=>by
  by_cases hl0:I.length=0
  ·have:I=[]:=p6 hl0;subst this;exact⟨S,done,0,by rw[Dv.carryGo,i9 (show([]:List Int).length=0 from rfl)],h,hO.less (by omega),hot,by omega,rfl,Nand.Like.refl _⟩
  ·have hg:=hO.gd.ok.bd16;obtain⟨c,hc⟩:∃c,(max S.slots 1).toNat=c:=⟨_,rfl⟩;have hc2:1<=c:=by omega
   obtain⟨E,e1,e2,e3,e4,e5⟩:=h.hd.rds h.wok (I.take c) λi hi=>hin i (C7 hi);have hEl:E.length=min c I.length:=by rw[e2,n9]
   have hnd2:(E.map (·.lpn)).Nodup:=by rw[e3];exact hnd.sublist (a1l _ _)
   have hlgE:∀e∈E,e.lpn<S.T.logical:=λe he=>by
    have:e.lpn∈I.take c:=by rw[<- e3];exact Q7 he
    have h1:=hin _ (C7 this);obtain⟨w,hw⟩:=Option.isSome_iff_exists.1 h1;obtain⟨_,a,ha,_⟩:=h.hd.each _ _ hw;exact(hO.T.rng _ (Tb.look_mem ha)).2
   have hstep:Dv.carryGo (f+1) S I done=(let w:=S.pen E;if w.2.2≠0 then(w.1,done+w.2.1,w.2.2)else Dv.carryGo f w.1 (I.drop w.2.1.toNat) (done+w.2.1)):=by
    rw[Dv.carryGo,i7 hl0,hc];dsimp only;rw[e1];dsimp only;rw[i7 (by decide)]
   rcases h.pen (k:=Dv.cost*f+k) (m:=m) (by have:Dv.cost*(f+1)=Dv.cost*f+Dv.cost:=C2 _ _;exact hO.less (by unfold Dv.cost at this ⊢;omega)) hot e4 (by omega) hnd2 hlgE (by omega)with⟨p1,_⟩ | ⟨V,n,p1,p2,p3,p4,p5⟩
   ·rw[hstep,p1];dsimp only;rw[i9 (by decide)];exact⟨S,_,11,rfl,h,hO.less (by omega),hot,by omega,rfl,Nand.Like.refl _⟩
   ·have hnE:=p2.n1;have hV:GI fd W V:=p4.swap h.wok (λj hj=>e5 j (by rw[<- e2];omega)) (a9M hnd2 hnE);rw[hstep,p1];dsimp only;rw[i7 (by decide),l9];have hdl:(I.drop n).length=I.length-n:=B6;have hn1:=p2.n3;have hnx2:=p2.next;obtain⟨U,n2,e2',r1,r2,r3,r4,r5,r6,r7⟩:=carry_go f V (I.drop n) (done+(n:Int)) k hV p3 p5 (by omega) (λi hi=>hin i (M6 hi)) (hnd.sublist (a3d _ _)) (by omega);exact⟨U,n2,e2',r1,r2,r3,r4,by omega,r6.trans p2.logical,p2.like.trans r7⟩
theorem carry (h:GI fd W S) (hO:S.Ok (Dv.costC+k) m) (hot:Hot2 fd S 0) (hlg:S.T.logical<=1000) (hnx:S.next<=1099511627775-2000000) (b most:Int):
  ∃(V:Dv) (n e:Int),S.carry b most=(V,n,e)/\GI fd W V/\V.Ok k m/\Hot2 fd V 0/\V.next<=S.next+1000000/\V.T.logical=S.T.logical/\S.N.Like V.N:=by
 obtain⟨I,hI⟩:∃I,(S.T.ins b).take (max most 0).toNat=I:=⟨_,rfl⟩;have hsub:∀j∈I,j∈S.T.ins b:=λj hj=>by rw[<- hI]at hj;exact C7 hj
 have hlen:I.length<=1000:=by
  have h1:=ins_len hO.T b;have h2:Tb.cntB S.T.at_ b<=S.T.at_.length:=Y5;have h3:=b1g hO.T;rw[<- hI,n9];omega
 have hnd:I.Nodup:=by
  rw[<- hI];refine a0M (a1l _ _) ?_;unfold Tb.ins;split
  ·exact a0w
  ·unfold Tb.inK;exact List.pairwise_map.2 ((List.nodup_range.filter _).imp λhne e=>hne (by omega))
 have hcost:Dv.cost*I.length<=Dv.costC:=s7 _ (by omega);obtain⟨V,n,e,r1,r2,r3,r4,r5,r6,r7⟩:=carry_go I.length S I 0 k h (hO.less (by omega)) hot (m9 _) (λj hj=>by
  obtain⟨a,ha,_⟩:=a6d (hsub j hj);cases hw:Tb.look W j with
  | none=>rw[h.hd.none hw]at ha;cases ha
  | some e=>rfl) hnd (by omega)
 refine⟨V,n,e,?_,r2,r3,r4,by omega,r6,r7⟩;unfold Dv.carry;rw[hI];exact r1
theorem cleared (h:GI fd W S) {N':Nand} {t':Tl} (c1:S.clear=({S with N:=N',t:=t'},0)) (c2:Inv.Cleared fd S (A5 (D1 S.t S.T) S.op S.t.b) N' t') (c3:Hd {S with N:=N',t:=t'} W):GI fd W {S with N:=N',t:=t'}:=by
 have hers:ErsP S.N N' (A5 (D1 S.t S.T) S.op S.t.b):=by
  have:=a6L (A5 (D1 S.t S.T) S.op S.t.b) S.N S.t;have e:S.clear.1.N=(Dv.clearGo (A5 (D1 S.t S.T) S.op S.t.b) S.N S.t).1:=rfl;rw[<- e,c1]at this;exact this
 refine⟨c2.inv,c3,h.wok,λi a ha=>?_,λb r hb hr=>?_,λhd=>?_⟩
 rotate_right
 ·have hd:∀i:Nat,N'.dead.getD i false=false:=hd;rw[c2.dead]at hd;exact(c2.nofl ⟨hd,h.ff hd⟩).1.2
 ·show Msk N'.dies fd a.mask;rw[c2.like.dies];exact h.msk i a ha
 ·have hb:b<N'.blocks:=hb;have hr:r<N'.pages:=hr;rw[c2.like.blocks]at hb;rw[c2.like.pages]at hr;exact(h.dsc b r hb hr).gone c2.like λd c hc=>hers.less d b r c hc
theorem clear(h:GI fd W S) (hO:S.Ok (96+k) m):∃V,S.clear=(V,0)/\GI fd W V/\V.Ok k m/\V.next=S.next/\V.T=S.T/\V.op=S.op/\S.N.Like V.N/\(Hot2 fd S 0->Hot2 fd V 0):=by
 have hk:=Dv.clear_keep hO;obtain⟨N',t',c1,c2,c3⟩:=h.inv.clear_hd hO h.hd;have hG:=h.cleared c1 c2 c3;rw[c1]at hk;refine⟨_,c1,hG,hk.1,rfl,rfl,rfl,c2.like,λhh=>?_⟩;cases hh with
 | calm hno=>
  have hnf:=c2.nofl ⟨hno.dead,h.ff hno.dead⟩;exact .calm ⟨λi=>by show N'.dead.getD i false=false;rw[c2.dead];exact hno.dead i,List.eq_nil_iff_forall_not_mem.2 λa ha=>(by have:=c2.plan a ha;rw[hno.plan]at this;cases this),λi j=>by show(N'.blk i j).met=false;rw[hnf.2];exact hno.met i j⟩
 | cold h1 h2=>exact .cold (c2.td fd h1) h2
 | brn hb=>exact .brn (hb.cleared hO.t.b c2)
theorem room_go:∀(f:Nat) (S:Dv) (k:Nat),GI fd W S->S.Ok (Dv.costR*f+k) m->Hot2 fd S 0->S.T.logical<=1000->S.next+1000000*(f:Int)<=1099511627775-2000000->
  ∃(V:Dv) (e:Int),Dv.roomGo f S=(V,e)/\GI fd W V/\Hot2 fd V 0
 | 0,S,k,h,hO,hot,_,_=>⟨S,0,rfl,h,hot⟩
 | f+1,S,k,h,hO,hot,hlg,hnx=>by
  rw[C2]at hO;rw[Dv.roomGo];split
  ·exact⟨S,0,rfl,h,hot⟩
  split
  ·exact⟨S,0,rfl,h,hot⟩
  obtain⟨U,n,e,c1,c2,c3,c4,c5,c6,c7⟩:=h.carry (k:=96+(Dv.costR*f+k)) (hO.less (by unfold Dv.costR;omega)) hot hlg (by omega) S.victim (S.T.count S.victim);dsimp only;rw[c1];dsimp only;split
  ·exact⟨U,e,rfl,c2,c4⟩
  ·obtain⟨V,d1,d2,d3,d4,d5,_,_,d8⟩:=c2.clear (k:=Dv.costR*f+k) c3;rw[d1];dsimp only;rw[i7 (by decide)];exact room_go f V k d2 d3 (d8 c4) (by rw[d5,c6];exact hlg) (by omega)
theorem room (h:GI fd W S) (hO:S.Ok (Dv.costM+k) m) (hot:Hot2 fd S 0) (hlg:S.T.logical<=1000) (hnx:S.next<=1099511627775-20000000):GI fd W S.room.1/\Hot2 fd S.room.1 0:=by
 have hg:=hO.gd.ok.bd16;have htb:=hO.t.b;obtain⟨U,u1,u2,u3,u4,u5,_,_,u8⟩:=h.clear (k:=Dv.costR*16+k) (hO.less (by unfold Dv.costM;omega));have hm:Dv.costR*S.t.b<=Dv.costR*16:=s7 _ (by omega);obtain⟨V,e,v1,v2,v3⟩:=room_go S.t.b U k u2 (u3.less (by omega)) (u8 hot) (by rw[u5];exact hlg) (by omega);unfold Dv.room;rw[u1];dsimp only;rw[i7 (by decide),v1];exact⟨v2,v3⟩
end GI
theorem c1p (d b p:Nat) (h:J3 d b p=true):FP 25 [.agg #[iI d,iI b,iI p]] [] (λv As=>v= .bool true/\As=[]):=by
 have hbd:(3<=d/\d<=6)/\(8<=b/\b<=16)/\(2<=p/\p<=8):=by simp[J3]at h;omega
 refine FE [0] Tryz.func25 λX F hX=>?_;refine J.qr [] λ_=>?_;refine⟨?_,rfl⟩;simp;omega
def lgN (d b p:Nat):Nat:=((b-5)*p*(d-2)+1)/2
theorem b3o (d b p:Nat) (hd:2<=d) (hb:5<=b):(((b:Int)-5)*p*((d:Int)-2)+1).tdiv 2=(lgN d b p:Int):=by
 have e1:(b:Int)-5=((b-5:Nat):Int):=by omega
 have e2:(d:Int)-2=((d-2:Nat):Int):=by omega
 rw[e1,e2,<- a4r,<- a4r,show(((b-5)*p*(d-2):Nat):Int)+1=(((b-5)*p*(d-2)+1:Nat):Int)from by omega,a5M (by omega)];unfold lgN;omega
theorem a8t (d b p:Nat) (h:J3 d b p=true):FP 29 [.agg #[iI d,iI b,iI p]] [] (λv As=>v=iI (lgN d b p)/\As=[]):=by
 have hbd:(3<=d/\d<=6)/\(8<=b/\b<=16)/\(2<=p/\p<=8):=by simp[J3]at h;omega
 have h1:0<=((b:Int)-5)*p/\((b:Int)-5)*p<=88:=by
  refine⟨a1E (by omega) (by omega),?_⟩;have:((b:Int)-5)*p<=11*8:=a1F (by omega) (by omega) (by omega) (by omega);omega
 have h2:0<=((b:Int)-5)*p*((d:Int)-2)/\((b:Int)-5)*p*((d:Int)-2)<=352:=by
  refine⟨a1E h1.1 (by omega),?_⟩;have:((b:Int)-5)*p*((d:Int)-2)<=88*4:=a1F h1.2 (by omega) (by omega) (by omega);omega
 have h3: -1<=(((b:Int)-5)*p*((d:Int)-2)+1).tdiv 2/\(((b:Int)-5)*p*((d:Int)-2)+1).tdiv 2<=1000:=by
  generalize((b:Int)-5)*p*((d:Int)-2)=x at h2;rw[a5M (by omega)];omega
 refine FE [0] Tryz.func29 λX F hX=>?_;refine J.qp (c1p d b p h) [] λ_=>?_;refine J.qF λ_=>?_;refine J.qr [] λ_=>?_;exact⟨by rw[b3o d b p (by omega) (by omega)],rfl⟩
namespace Tl
def ofD (N:Nand) (b:Nat) (t:Tl) (d:Nat):Tl:=
 let t:=t.wore b (N.wornAt d b)
 if L.has (t.mask b) d&&decide ((N.next d b:Int)>0)then t.clean b false else t
def ofB (N:Nand) (t:Tl) (b:Nat):Tl:=(List.range N.dies).foldl (ofD N b) t
def of (N:Nand):Tl:=(List.range N.blocks).foldl (ofB N) (Dv.seeDead N (Tl.new N.dies N.blocks N.pages))
end Tl
structure Fv where
 S:Dv
 L:List En
 nx:Int
 off:Bool
namespace Fv
def lg (F:Fv):Int:=lgN F.S.N.dies F.S.N.blocks F.S.N.pages
def ask (F:Fv):Fv:={F with off:=F.off||F.S.N.off}
def told (F:Fv) (e:Int):Fv:={F with off:=F.off||e==9}
def get (F:Fv) (i:Int):List UInt8×Int:=
 if(a1y F.L i).2 then((a1y F.L i).1.data,0)
 else match Tb.look F.S.T.at_ i with
  | none=>(zeros16,0)
  | some a=>
   if a.role=2 then(zeros16,0)else if a.role=4 then(zeros16,10)
   else
    let x:=R.read F.S.N a.block a.row a.slot a.mask
    if x.2≠0\/x.1.lpn≠i\/x.1.seq≠a.seq then(zeros16,10)else(x.1.data,0)
def read (F:Fv) (i:Int):Fv×List UInt8×Int:=
 if F.ask.off then(F.ask,zeros16,9)
 else if i<0\/i>=F.ask.lg then(F.ask,zeros16,3)
 else(F.ask,F.ask.get i)
def writes (F:Fv):Fv×Int:=
 let r:=F.S.room
 if r.2≠0 then({F with S:=r.1}.told r.2,r.2)
 else
  let w:=r.1.pen F.L
  ({F with S:=w.1,L:=W9 F.L (F.L.take w.2.1.toNat)}.told w.2.2,w.2.2)
def put (F:Fv) (e:En):Fv:={F with L:=a0j F.L {e with seq:=F.nx},nx:=F.nx+1}
def waits (F:Fv) (e:En):Fv×Int:=
 if F.ask.off then(F.ask,9)
 else if e.lpn<0\/e.lpn>=F.ask.lg then(F.ask,3)
 else if(F.ask.L.length:Int)>=F.ask.S.slots then
  let w:=F.ask.writes
  if w.2≠0 then w else(w.1.put e,0)
 else(F.ask.put e,0)
def write (F:Fv) (i:Int) (d:List UInt8):Fv×Int:=F.waits ⟨i,0,1,d⟩
def trim (F:Fv) (i:Int):Fv×Int:=F.waits ⟨i,0,2,zeros16⟩
def flushGo:Nat->Fv->Fv×Int
 | 0,F=>(F,0)
 | k+1,F=>
  if F.L.length=0 then(F,0)
  else
   let w:=F.writes
   if w.2≠0 then w else flushGo k w.1
def flush (F:Fv):Fv×Int:=if F.ask.off then(F.ask,9)else flushGo F.L.length F.ask
def tick (F:Fv):Fv×Int:=
 if F.ask.off then(F.ask,9)
 else
  let s:=F.ask.S.step 4
  ({F.ask with S:=s.1}.told s.2.2,s.2.2)
def whole (F:Fv):Fv×Bool:=
 if F.ask.off then(F.ask,false)
 else({F.ask with S:=F.ask.S.seen},F.ask.S.seen.leftN==0)
end Fv
namespace Dv
def holds (S:Dv) (l:List Int) (on:Bool):Dv:={S with t:=l.foldl (λt b=>t.hold b on) S.t}
end Dv
def T4 (N:Nand):Dv×Int:=
 let s:=V.scan N (lgN N.dies N.blocks N.pages)
 let S:Dv:=⟨N,Tl.of N,s.tb,-1,0,0,max s.next 1⟩
 let a:=(S.holds s.held true).torn (s.torn.take s.first)
 if a.2≠0 then a
 else
  let b:=(a.1.holds s.held false).clear
  if b.2≠0 then b
  else
   let c:=b.1.torn (s.torn.drop s.first)
   if c.2≠0 then c else c.1.room
def Fv.of (S:Dv):Fv:=⟨S,[],0,false⟩
theorem a9x {α:Type} [BEq α] [LawfulBEq α]:∀{K M:List α},K.Nodup->(∀x∈K,x∈M)->K.length<=M.length
 | [],M,_,_=>n7 _
 | x::K,M,h,hs=>by
  obtain⟨h1,h2⟩:=List.nodup_cons.1 h;have hx:=hs x (by simp);have h3:=a9x (M:=M.erase x) h2 λy hy=>by
   have hne:y≠x:=λe=>h1 (by rw[<- e];exact hy);exact(List.mem_erase_of_ne hne).2 (hs y (by simp[hy]))
  rw[List.length_erase_of_mem hx]at h3;have:0<M.length:=List.length_pos_of_mem hx;rw[o0];omega
theorem a7m {N:Nand} (h:N.Ok):1<=lgN N.dies N.blocks N.pages/\lgN N.dies N.blocks N.pages<=200:=by
 obtain⟨hd,hb,hp⟩:=h.bd16;generalize N.dies=d at*;generalize N.blocks=b at*;generalize N.pages=p at*;have h2:3*2<=(b-5)*p:=T9 (by omega) hp.1;have h3:6*1<=(b-5)*p*(d-2):=T9 h2 (by omega);have h4:(b-5)*p<=11*8:=T9 (by omega) hp.2;have h5:(b-5)*p*(d-2)<=88*4:=T9 h4 (by omega);unfold lgN;omega
theorem a8i {N N':Nand} (h:N.Like N'):lgN N'.dies N'.blocks N'.pages=lgN N.dies N.blocks N.pages:=by rw[h.dies,h.blocks,h.pages]
theorem a3U {α:Type} {M:Nand} (f:Tl->α->Tl) (hf:∀t a,t.Fit M->(f t a).Fit M):∀(q:List α) (t:Tl),t.Fit M->(q.foldl f t).Fit M
 | [],_,h=>h
 | a::q,t,h=>a3U f hf q (f t a) (hf t a h)
theorem Tl.Fit.ofD {M N:Nand} {t:Tl} (h:t.Fit M) (b d:Nat):(Tl.ofD N b t d).Fit M:=by
 unfold Tl.ofD;dsimp only;split
 ·exact(h.wore _ _).clean _ _
 ·exact h.wore _ _
theorem Tl.Fit.ofB {M N:Nand} {t:Tl} (h:t.Fit M) (b:Nat):(Tl.ofB N t b).Fit M:=a3U _ (λ_ d h=>h.ofD b d) _ _ h
theorem Tl.Fit.new (N:Nand):(Tl.new N.dies N.blocks N.pages).Fit N:=⟨rfl,rfl,rfl,by show(List.replicate N.blocks Sb.zero).length=N.blocks;rw[V1]⟩
theorem Tl.Fit.seeDead {M N:Nand} {t:Tl} (h:t.Fit M):(Dv.seeDead N t).Fit M:=a3U _ (λt d h=>by split;(· exact h.die _);exact h) _ _ h
theorem Tl.Fit.of (N:Nand):(Tl.of N).Fit N:=a3U _ (λ_ b h=>h.ofB b) _ _ (Tl.Fit.new N).seeDead
theorem c1o {N:Nand} (hN:N.Ok) {b r:Int} {f:Fnd} (h:f∈R.all N b r):(0<=f.slot/\f.slot<=1000)/\f.en.data.length=16:=by
 unfold R.all at h;rw[M2]at h;obtain⟨m,_,h⟩:=h;unfold R.allM at h;rw[List.mem_filterMap]at h;obtain⟨k,hk,h⟩:=h;rw[K0,(a1t N b r m).1]at hk;have hs:=Dv.slots_le m;unfold R.fnd at h;split at h
 ·injection h with h;subst h;refine⟨by show(0:Int)<=((k:Nat):Int)/\((k:Nat):Int)<=1000;omega,?_⟩;show(R.enAt (R.look N b r m) k).data.length=16;unfold R.enAt;split
  ·have hl:=(a1t N b r m).1;rw[d7,d6 (by omega)];exact(a2Q hN b r m).1 _ (H9 _)
  ·exact b2a hN b r m k
 ·cases h
theorem c1F {N:Nand} (hN:N.Ok) {f:Fnd} (h:f∈V.all N):(0<=f.slot/\f.slot<=1000)/\f.en.data.length=16:=by
 unfold V.all at h;rw[M2]at h;obtain⟨b,_,h⟩:=h;rw[M2]at h;obtain⟨r,_,h⟩:=h;exact c1o hN h
theorem b8e {N:Nand} (hN:N.Ok) (n:Int):∀k,(∀x∈(V.goS N (V.all N) n k).tb.at_,0<=x.2.slot/\x.2.slot<=1000)/\(∀s∈(V.goS N (V.all N) n k).torn,s.data.length=16)/\∀s∈(V.goS N (V.all N) n k).others,s.data.length=16
 | 0=>⟨λx hx=>by simp[V.goS,Tb.new]at hx,λs hs=>by simp[V.goS]at hs,λs hs=>by simp[V.goS]at hs⟩
 | k+1=>by
  obtain⟨h1,h2,h3⟩:=b8e hN n k;rw[V.goS_succ];unfold V.step;split
  ·rename_i hs;have hm:=V.standOf_mem hs;unfold V.of at hm;obtain⟨e1,e2⟩:=c1F hN (List.mem_filter.1 hm).1;have hp:=Tb.put_slot (e:=(V.standOf (V.of (V.all N) k)).1.en) (b:=(V.standOf (V.of (V.all N) k)).1.block) (r:=(V.standOf (V.of (V.all N) k)).1.row) (m:=(V.standOf (V.of (V.all N) k)).1.mask) h1 e1;have ha:∀l:List En,(∀s∈l,s.data.length=16)->∀s∈l++[(V.standOf (V.of (V.all N) k)).1.en],s.data.length=16:=λl hl s hs=>by
    rcases List.mem_append.1 hs with hs | hs
    ·exact hl s hs
    ·rw[P6]at hs;rw[hs];exact e2
   split
   ·exact⟨hp,h2,h3⟩
   split
   ·exact⟨hp,ha _ h2,h3⟩
   ·exact⟨hp,h2,ha _ h3⟩
  ·exact⟨h1,h2,h3⟩
theorem b0r {N:Nand} (hN:N.Ok) (n:Int):(V.scan N n).tb.Ok/\(∀x∈(V.scan N n).tb.at_,0<=x.2.slot/\x.2.slot<=1000)/\(∀s∈(V.scan N n).torn,s.data.length=16)/\(1<=(V.scan N n).next/\(V.scan N n).next<=1099511627776):=by
 obtain⟨h1,h2,h3⟩:=b8e hN n (V.size n);refine⟨V.goS_ok N (V.all N) n (V.size n),h1,λs hs=>?_,V.nextOf_bd λf hf=>(b3F hf).2⟩;have hs:s∈(V.goS N (V.all N) n (V.size n)).torn++(V.goS N (V.all N) n (V.size n)).others:=hs;rcases List.mem_append.1 hs with hs | hs
 ·exact h2 s hs
 ·exact h3 s hs
theorem a9k {N:Nand} {m:Nat} (hm:m<=65536):(V.scan N m).first<=(V.scan N m).torn.length/\((V.scan N m).torn.take (V.scan N m).first).length<=m/\((V.scan N m).torn.drop (V.scan N m).first).length<=m/\(V.scan N m).torn.length<=2*m:=by
 have hsz:V.size (m:Int)=m:=by unfold V.size;omega
 have h1:=V.goS_len N (V.all N) m (V.size m);rw[hsz]at h1;have e1:(V.scan N m).first=(V.goS N (V.all N) m m).torn.length:=by show(V.goS N (V.all N) m (V.size m)).torn.length=_;rw[hsz]
 have e2:(V.scan N m).torn=(V.goS N (V.all N) m m).torn++(V.goS N (V.all N) m m).others:=by show(V.goS N (V.all N) m (V.size m)).torn++(V.goS N (V.all N) m (V.size m)).others=_;rw[hsz]
 rw[e1,e2,n9,B6,j6];omega
theorem b4K {N:Nand} (hN:N.Ok) (n:Int):(V.scan N n).held.length<=6000:=by
 have h1:=V.goS_held N (V.all N) n (V.size n);have h2:=b4u N hN;have h3:=b5a (V.goS N (V.all N) n (V.size n)).held;show(a9w (V.goS N (V.all N) n (V.size n)).held).length<=_;omega
namespace Dv
variable {S : Dv} {N : Nand} {k m : Nat}
theorem Ok.holds (h:S.Ok k m) (l:List Int) (on:Bool):(S.holds l on).Ok k m:=⟨h.gd,a3U _ (λ_ _ h=>h.hold _ _) _ _ h.t,h.T,h.sl,h.row,h.next⟩
def mt0 (N:Nand):Dv:=⟨N,Tl.of N,(V.scan N (lgN N.dies N.blocks N.pages)).tb,-1,0,0,max (V.scan N (lgN N.dies N.blocks N.pages)).next 1⟩
theorem Ok.mt0 (hG:N.Gd k m):(Dv.mt0 N).Ok k m:=by
 obtain⟨h1,h2,_,h4⟩:=b0r hG.ok (lgN N.dies N.blocks N.pages);refine⟨hG,Tl.Fit.of N,h1,h2,by show(0:Int)<=0/\(0:Int)<=8;omega,?_⟩;show 1<=max (V.scan N (lgN N.dies N.blocks N.pages)).next 1/\max (V.scan N (lgN N.dies N.blocks N.pages)).next 1<=_;omega
theorem mt0_log (hG:N.Gd k m):(Dv.mt0 N).T.logical=(lgN N.dies N.blocks N.pages:Int):=by
 have h:=a7m hG.ok;have:=V.goS_log N (V.all N) (lgN N.dies N.blocks N.pages) (V.size (lgN N.dies N.blocks N.pages));show(V.goS N (V.all N) (lgN N.dies N.blocks N.pages) (V.size (lgN N.dies N.blocks N.pages))).tb.logical=_;rw[this];omega
theorem torn_keep {l:List En} {c:Nat} (h:S.Ok (costT*c+k) m) (hl:l.length<=c) (hd:∀s∈l,s.data.length=16):(S.torn l).1.Ok k m/\S.N.Like (S.torn l).1.N/\(S.torn l).1.T.logical=S.T.logical:=
 tornGo_keep _ S l k (h.less (by have:=s7 costT hl;omega)) hd
def costK:Nat:=costT*200+(96+(costT*200+costM))
end Dv
theorem b1W (N:Nand):T4 N=(let s:=V.scan N (lgN N.dies N.blocks N.pages)
 let a:=((Dv.mt0 N).holds s.held true).torn (s.torn.take s.first)
 if a.2≠0 then a
 else
  let b:=(a.1.holds s.held false).clear
  if b.2≠0 then b
  else
   let c:=b.1.torn (s.torn.drop s.first)
   if c.2≠0 then c else c.1.room):=rfl
theorem a7Z {N:Nand} {k m:Nat} (hG:N.Gd (Dv.costK+k) m):(T4 N).1.Ok k m/\N.Like (T4 N).1.N/\(T4 N).1.T.logical=(lgN N.dies N.blocks N.pages:Int):=by
 have h200:=a7m hG.ok;obtain⟨t1,t2,t3,_⟩:=a9k (N:=N) (m:=lgN N.dies N.blocks N.pages) (by omega);obtain⟨_,_,hd,_⟩:=b0r hG.ok (lgN N.dies N.blocks N.pages);have h0:=Dv.Ok.mt0 hG;have hlog:=Dv.mt0_log hG;have hd1:∀s∈(V.scan N (lgN N.dies N.blocks N.pages)).torn.take (V.scan N (lgN N.dies N.blocks N.pages)).first,s.data.length=16:=λs hs=>hd s (C7 hs)
 have hd2:∀s∈(V.scan N (lgN N.dies N.blocks N.pages)).torn.drop (V.scan N (lgN N.dies N.blocks N.pages)).first,s.data.length=16:=λs hs=>hd s (M6 hs)
 rw[b1W];dsimp only;have ha:=Dv.torn_keep (k:=96+(Dv.costT*200+(Dv.costM+k))) (c:=200) ((h0.holds (V.scan N (lgN N.dies N.blocks N.pages)).held true).less (by unfold Dv.costK;omega)) (by omega) hd1;have ea:((Dv.mt0 N).holds (V.scan N (lgN N.dies N.blocks N.pages)).held true).N=N:=rfl;have ea2:((Dv.mt0 N).holds (V.scan N (lgN N.dies N.blocks N.pages)).held true).T=(Dv.mt0 N).T:=rfl;rw[ea,ea2,hlog]at ha;split
 ·exact⟨ha.1.less (by omega),ha.2⟩
 generalize(((Dv.mt0 N).holds (V.scan N (lgN N.dies N.blocks N.pages)).held true).torn ((V.scan N (lgN N.dies N.blocks N.pages)).torn.take (V.scan N (lgN N.dies N.blocks N.pages)).first)).1=A at ha;have hb:=Dv.clear_keep (ha.1.holds (V.scan N (lgN N.dies N.blocks N.pages)).held false);have eb:(A.holds (V.scan N (lgN N.dies N.blocks N.pages)).held false).N=A.N:=rfl;have eb2:(A.holds (V.scan N (lgN N.dies N.blocks N.pages)).held false).T=A.T:=rfl;rw[eb,eb2]at hb;split
 ·exact⟨hb.1.less (by omega),ha.2.1.trans hb.2.1,by rw[hb.2.2];exact ha.2.2⟩
 have hc:=Dv.torn_keep (k:=Dv.costM+k) (c:=200) hb.1 (E6 t3 h200.2) hd2;split
 ·exact⟨hc.1.less (by omega),(ha.2.1.trans hb.2.1).trans hc.2.1,by rw[hc.2.2,hb.2.2];exact ha.2.2⟩
 have hr:=Dv.room_keep hc.1;exact⟨hr.1,((ha.2.1.trans hb.2.1).trans hc.2.1).trans hr.2.1,by rw[hr.2.2,hc.2.2,hb.2.2];exact ha.2.2⟩
structure Fv.Ok (F:Fv) (k m:Nat):Prop where
 dv:F.S.Ok k m
 dat:∀e∈F.L,e.data.length=16
 rng:∀e∈F.L,0<=e.lpn/\e.lpn<F.lg
 nd:(F.L.map (·.lpn)).Nodup
 nx:0<=F.nx/\F.nx+(k:Int)<=4611686018427387904
namespace Fv
variable {F : Fv} {k m : Nat}
theorem lg_like {F G:Fv} (h:F.S.N.Like G.S.N):G.lg=F.lg:=by unfold lg;rw[a8i h]
theorem lg_bd (h:F.S.N.Ok):1<=F.lg/\F.lg<=200:=by have:=a7m h;unfold lg;omega
theorem Ok.less (h:F.Ok k m) {k':Nat} (hk:k'<=k):F.Ok k' m:=⟨h.dv.less hk,h.dat,h.rng,h.nd,by have:=h.nx;omega⟩
theorem Ok.len (h:F.Ok k m):F.L.length<=200:=by
 have hb:=lg_bd h.dv.gd.ok;have h1:=a9x (K:=F.L.map (·.lpn)) (M:=(List.range F.lg.toNat).map λi:Nat=>(i:Int)) h.nd λx hx=>by
  obtain⟨e,he,rfl⟩:=List.mem_map.1 hx;have:=h.rng e he;exact List.mem_map.2 ⟨e.lpn.toNat,List.mem_range.2 (by omega),by omega⟩
 simp at h1;omega
theorem Ok.ask (h:F.Ok k m):F.ask.Ok k m:=⟨h.dv,h.dat,h.rng,h.nd,h.nx⟩
def cW:Nat:=Dv.costM+8*Dv.fuel
theorem done_sub (L l:List En):(W9 L l).Sublist L:=List.filter_sublist
theorem done_lt {L:List En} {n:Nat} (h:L.length≠0) (hn:1<=n):(W9 L (L.take n)).length<L.length:=by
 unfold W9;rw[List.length_filter_lt_length_iff_exists];cases L with
 | nil=>exact absurd rfl h
 | cons x L=>
  refine⟨x,H8 ..,?_⟩;obtain⟨c,rfl⟩:∃c,n=c+1:=⟨n-1,by omega⟩;simp
structure Kept (F G:Fv):Prop where
 like:F.S.N.Like G.S.N
 log:G.S.T.logical=F.S.T.logical
theorem Kept.refl (F:Fv):Kept F F:=⟨Nand.Like.refl _,rfl⟩
theorem Kept.ask (F:Fv):Kept F F.ask:=⟨Nand.Like.refl _,rfl⟩
theorem Kept.trans {F G H:Fv} (h:Kept F G) (h2:Kept G H):Kept F H:=⟨h.like.trans h2.like,h2.log.trans h.log⟩
theorem Ok.with_ {S:Dv} {L:List En} {off:Bool} {k':Nat} (h:F.Ok k' m) (hS:S.Ok k m) (hk:k<=k') (hl:F.S.N.Like S.N) (hL:L.Sublist F.L):(⟨S,L,F.nx,off⟩:Fv).Ok k m:=
 ⟨hS,λe he=>h.dat e (hL.subset he),λe he=>by rw[lg_like (F:=F) (G:=⟨S,L,F.nx,off⟩) hl];exact h.rng e (hL.subset he),h.nd.sublist (hL.map _),by have:=h.nx;show 0<=F.nx/\F.nx+(k:Int)<=_;omega⟩
theorem writes_keep (h:F.Ok (cW+k) m):F.writes.1.Ok k m/\Kept F F.writes.1/\F.writes.1.L.length<=F.L.length/\(F.writes.2=0->F.L.length≠0->F.writes.1.L.length<F.L.length):=by
 have hr:=Dv.room_keep (S:=F.S) (k:=8*Dv.fuel+k) (m:=m) (h.dv.less (by unfold cW;omega));have he:F.writes=(let r:=F.S.room
  if r.2≠0 then({F with S:=r.1}.told r.2,r.2)
  else
   let w:=r.1.pen F.L
   ({F with S:=w.1,L:=W9 F.L (F.L.take w.2.1.toNat)}.told w.2.2,w.2.2)):=rfl
 dsimp only at he
 by_cases h0:F.S.room.2≠0
 ·rw[i9 h0]at he;rw[he];exact⟨h.with_ (hr.1.less (by omega)) (by omega) hr.2.1 (List.Sublist.refl _),⟨hr.2.1,hr.2.2⟩,m9 _,λe=>absurd e h0⟩
 ·rw[i7 h0]at he;have hp:=Dv.pen_keep hr.1 h.dat
  have ht:=λe hl=>Dv.pen_took hr.1 h.dat e hl;rw[he];refine⟨h.with_ hp.1 (by omega) (hr.2.1.trans hp.2.1) (done_sub _ _),⟨hr.2.1.trans hp.2.1,hp.2.2.trans hr.2.2⟩,(done_sub _ _).length_le,λe hl=>?_⟩;have:=ht e hl;exact done_lt hl (by omega)
theorem flushGo_keep:∀(f:Nat) (F:Fv) (k:Nat),F.Ok (cW*f+k) m->(flushGo f F).1.Ok k m/\Kept F (flushGo f F).1
 | 0,F,k,h=>⟨h.less (by omega), .refl _⟩
 | f+1,F,k,h=>by
  rw[flushGo];split
  ·exact⟨h.less (by omega), .refl _⟩
  have hw:=writes_keep (F:=F) (k:=cW*f+k) (h.less (by rw[C2];omega));dsimp only;split
  ·exact⟨hw.1.less (by omega),hw.2.1⟩
  ·have ih:=flushGo_keep f F.writes.1 k hw.1;exact⟨ih.1,hw.2.1.trans ih.2⟩
theorem flush_keep (h:F.Ok (cW*200+k) m):F.flush.1.Ok k m/\Kept F F.flush.1:=by
 unfold flush;split
 ·exact⟨h.ask.less (by omega), .ask _⟩
 ·have hl:=h.len;have hm:cW*F.L.length<=cW*200:=s7 _ hl;have r:=flushGo_keep F.L.length F.ask k (h.ask.less (by omega));exact⟨r.1,⟨r.2.like,r.2.log⟩⟩
theorem put_ok (h:F.Ok (1+k) m) {e:En} (hd:e.data.length=16) (hr:¬(e.lpn<0\/e.lpn>=F.lg)):(F.put e).Ok k m:=by
 have hlg:(F.put e).lg=F.lg:=rfl;refine⟨h.dv.less (by omega),λx hx=>?_,λx hx=>?_,?_,by have:=h.nx;show 0<=F.nx+1/\F.nx+1+(k:Int)<=_;omega⟩
 ·have hx:x∈(F.L.filter λy:En=>!(y.lpn==e.lpn))++[({e with seq:=F.nx}:En)]:=hx;rcases List.mem_append.1 hx with hx | hx
  ·exact h.dat x (List.mem_filter.1 hx).1
  ·rw[P6]at hx;rw[hx];exact hd
 ·have hx:x∈(F.L.filter λy:En=>!(y.lpn==e.lpn))++[({e with seq:=F.nx}:En)]:=hx;rw[hlg];rcases List.mem_append.1 hx with hx | hx
  ·exact h.rng x (List.mem_filter.1 hx).1
  ·rw[P6]at hx;rw[hx];show 0<=e.lpn/\e.lpn<F.lg;omega
 ·show(((F.L.filter λy:En=>!(y.lpn==e.lpn))++[({e with seq:=F.nx}:En)]).map (·.lpn)).Nodup;rw[A6,M4];refine⟨a0M ((List.filter_sublist (p:=λx:En=>!(x.lpn==e.lpn)) (l:=F.L)).map (·.lpn)) h.nd,by simp,λa ha b hb hab=>?_⟩;obtain⟨x,hx,rfl⟩:=List.mem_map.1 ha;simp at hb;have:=(List.mem_filter.1 hx).2;rw[hab,hb]at this;simp at this
theorem waits_keep (h:F.Ok (cW+(1+k)) m) {e:En} (hd:e.data.length=16):(F.waits e).1.Ok k m/\Kept F (F.waits e).1:=by
 unfold waits;split
 ·exact⟨h.ask.less (by omega), .ask _⟩
 split
 ·exact⟨h.ask.less (by omega), .ask _⟩
 rename_i hr;have hr:¬(e.lpn<0\/e.lpn>=F.lg):=hr;split
 ·have hw:=writes_keep h.ask;dsimp only;split
  ·exact⟨hw.1.less (by omega),⟨hw.2.1.like,hw.2.1.log⟩⟩
  ·refine⟨put_ok hw.1 hd ?_,⟨hw.2.1.like,hw.2.1.log⟩⟩;rw[lg_like (F:=F) (G:=F.ask.writes.1) hw.2.1.like];exact hr
 ·exact⟨put_ok (h.ask.less (by omega)) hd hr,⟨Nand.Like.refl _,rfl⟩⟩
theorem write_keep (h:F.Ok (cW+(1+k)) m) (i:Int) {d:List UInt8} (hd:d.length=16):(F.write i d).1.Ok k m/\Kept F (F.write i d).1:=waits_keep h hd
theorem trim_keep (h:F.Ok (cW+(1+k)) m) (i:Int):(F.trim i).1.Ok k m/\Kept F (F.trim i).1:=waits_keep h rfl
theorem tick_keep (h:F.Ok (Dv.costS+k) m):F.tick.1.Ok k m/\Kept F F.tick.1:=by
 unfold tick;split
 ·exact⟨h.ask.less (by omega), .ask _⟩
 ·have hs:=Dv.step_keep h.ask.dv 4;exact⟨h.ask.with_ hs.1 (by omega) hs.2.1 (List.Sublist.refl _),⟨hs.2.1,hs.2.2⟩⟩
theorem whole_keep (h:F.Ok k m):F.whole.1.Ok k m/\Kept F F.whole.1:=by
 unfold whole;split
 ·exact⟨h.ask, .ask _⟩
 ·exact⟨h.ask.with_ h.dv.seen (m9 _) (Nand.Like.refl _) (List.Sublist.refl _),⟨Nand.Like.refl _,rfl⟩⟩
theorem read_keep (h:F.Ok k m) (i:Int):(F.read i).1.Ok k m/\Kept F (F.read i).1:=by
 unfold read;split
 ·exact⟨h.ask, .ask _⟩
 split
 ·exact⟨h.ask, .ask _⟩
 ·exact⟨h.ask, .ask _⟩
theorem of_ok {S:Dv} (h:S.Ok k m) (hk:k<=1000000000000000):(Fv.of S).Ok k m:=⟨h,λ_ h=>(by cases h),λ_ h=>(by cases h),a0w,by show(0:Int)<=0/\(0:Int)+(k:Int)<=_;omega⟩
end Fv
namespace Rmy
variable {fd : Int} {S : Dv} {k m β : Nat} {W : List (Int × En)}
theorem go2:∀(f:Nat) (S:Dv) (β k:Nat),Rmy fd W S->S.Ok (Dv.costR*f+k) m->A5 (D1 S.t S.T) S.op S.t.b=[]->Hot2 fd S β->(S.N.pages+1)/2+β<=S.rows->5*S.N.pages+β+1<=S.rows+f*(S.N.pages/2)->S.next+400*(f:Int)<=1099511627775-3000000->
  ∃(V:Dv) (β':Nat),Dv.roomGo f S=(V,0)/\Rmy fd W V/\V.Ok k m/\(V.free:Int)>4/\A5 (D1 V.t V.T) V.op V.t.b=[]/\Hot2 fd V β'/\β'<=β/\V.next<=S.next+400*(f:Int)/\V.N.dead=S.N.dead/\V.N.broken=S.N.broken/\S.N.Like V.N/\V.T.logical=S.T.logical/\(∀d:Int,L.has S.t.dead d=true->L.has V.t.dead d=true)/\Mvd fd S V
 | f,S,β,k,h,hO,hsp,hot,hr3,hr5,hnx=>by
  by_cases hfr:(S.free:Int)>4
  ·refine⟨S,β,?_,h,hO.less (by omega),hfr,hsp,hot,m9 _,by omega,rfl,rfl,Nand.Like.refl _,rfl,λ_ h=>h, .nil⟩;cases f with
   | zero=>rfl
   | succ f=>rw[Dv.roomGo,i9 hfr]
  ·have h5:=rows_five hO h.inv hfr;have hg:=hO.gd.ok.bd16;cases f with
   | zero=>omega
   | succ f=>
    have hmul:(f+1)*(S.N.pages/2)=f*(S.N.pages/2)+S.N.pages/2:=L6 _ _;obtain⟨V,β1,w1,w2,w3,w4,w5,w6,w7,w8,w9,w10,w11,w12,w13,w14⟩:=h.emptied (k:=Dv.costR*f+k) (by rw[C2]at hO;exact hO.less (by omega)) hsp hfr hot (by omega) (by omega) f;have hpg:=w11.pages;obtain⟨U,β2,u1,u2,u3,u4,u5,u6,u7,u8,u9,u10,u11,u12,u13,u14⟩:=go2 f V β1 k w2 w3 w4 w5 (by rw[hpg];omega) (by rw[hpg];omega) (by omega);exact⟨U,β2,by rw[w1,u1],u2,u3,u4,u5,u6,by omega,by omega,u9.trans w9,u10.trans w10,w11.trans u11,u12.trans w12,λd hd=>u13 d (w13 d hd),w14.1.trans u14⟩
theorem room3 (h:Rmy fd W S) (hO:S.Ok (96+(Dv.costR*S.t.b+k)) m) (hot:Hot2 fd S β) (hr:5*S.N.pages+β<=S.rows+7) (hnx:S.next<=1099511627775-4000000):
  ∃(V:Dv) (β':Nat),S.room=(V,0)/\Rmy fd W V/\V.Ok k m/\(V.free:Int)>4/\A5 (D1 V.t V.T) V.op V.t.b=[]/\Hot2 fd V β'/\β'<=β/\V.next<=S.next+6400/\V.N.dead=S.N.dead/\V.N.broken=S.N.broken/\S.N.Like V.N/\V.T.logical=S.T.logical/\(∀d:Int,L.has S.t.dead d=true->L.has V.t.dead d=true)/\Mvd fd S V:=by
 have hg:=hO.gd.ok.bd16;have hb:=hO.t.b;obtain⟨U,u1,u2,u3,u4,u5,u6,u7,u8,u9,u10,u11,u12,u13,u14,u15⟩:=h.clear (β:=β) hO;have hpg:=u13.pages;have h8:8*(S.N.pages/2)<=S.t.b*(S.N.pages/2):=H5 _ (by omega);obtain⟨V,β',v1,v2,v3,v4,v5,v6,v7,v8,v9,v10,v11,v12,v13,v16⟩:=go2 S.t.b U β k u2 u3 u4 (u15 hot) (by rw[hpg,u10];omega) (by rw[hpg,u10];omega) (by rw[u9];omega);refine⟨V,β',?_,v2,v3,v4,v5,v6,v7,by rw[u9]at v8;omega,v9.trans u11,v10.trans u12,u13.trans v11,by rw[v12,u6],λd hd=>v13 d (u14 d hd),(Mvd.same .nil u6 u7 u8 (λb=>Inv.has_same hO.t u3.t u13 b) u11 u2.inv).trans v16⟩;unfold Dv.room;rw[u1];dsimp only;rw[i7 (by decide),v1]
theorem room2 (h:Rmy fd W S) (hO:S.Ok (96+(Dv.costR*S.t.b+k)) m) (hot:Hot2 fd S β) (hr:5*S.N.pages+β<=S.rows+7) (hβ:β<=1) (hnx:S.next<=1099511627775-4000000):
  ∃(V:Dv) (β':Nat),S.room=(V,0)/\Rmy fd W V/\V.Ok k m/\(V.free:Int)>4/\A5 (D1 V.t V.T) V.op V.t.b=[]/\Hot2 fd V β'/\β'<=β/\V.next<=S.next+6400/\V.N.dead=S.N.dead/\V.N.broken=S.N.broken/\S.N.Like V.N/\V.T.logical=S.T.logical/\(∀d:Int,L.has S.t.dead d=true->L.has V.t.dead d=true)/\Mvd fd S V:=
 h.room3 hO hot hr hnx
end Rmy
theorem Inv.killed {S:Dv} {d:Nat} (h:Inv d S):Inv d {S with N:={S.N with dead:=S.N.dead.set d true}}/\∀i a,Std d S i a->Std d {S with N:={S.N with dead:=S.N.dead.set d true}} i a/\R.read {S.N with dead:=S.N.dead.set d true} a.block a.row a.slot a.mask=R.read S.N a.block a.row a.slot a.mask:=by
 have hdead:∀i:Nat,(i:Int)≠d->(S.N.dead.set d true).getD i false=false:=λi hi=>by
  rw[d7,u0,i7 (by omega),<- d7];exact h.dead i hi
 have hlike:S.N.Like {S.N with dead:=S.N.dead.set d true}:=⟨rfl,rfl,rfl⟩;have hoff:({S.N with dead:=S.N.dead.set d true}:Nand).off=false:=h.lit.off;have hstd:∀i a,Std d S i a->Std d {S with N:={S.N with dead:=S.N.dead.set d true}} i a/\R.read {S.N with dead:=S.N.dead.set d true} a.block a.row a.slot a.mask=R.read S.N a.block a.row a.slot a.mask:=λi a ha=>by
  obtain⟨l,g1,g2,g3,g4⟩:=ha.row;have hk:Full d {S.N with dead:=S.N.dead.set d true} a.block a.row a.mask l:=g1.keep hlike λ_ _=>rfl;have r1:=hk.read hoff hdead g3;have r2:=g1.read h.lit.off h.dead g3;rw[show((a.slot.toNat:Nat):Int)=a.slot from by omega]at r1 r2;exact⟨⟨⟨l,hk,g2,g3,g4⟩,ha.used,ha.below,ha.seq⟩,by rw[r1,r2]⟩
 refine⟨⟨⟨h.lit.off,h.lit.cuts⟩,hdead,h.plan,h.flags,h.tdead,h.tbad,?_,h.blank,λi a ha=>(hstd i a (h.st i a ha)).1⟩,hstd⟩;rcases h.op with e | e
 ·exact .inl e
 ·refine .inr ⟨e.blk,e.used,e.row,e.mask,λx hx=>⟨(e.cells x hx).1,λhdd=>(e.cells x hx).2 ?_⟩⟩;have hdd:(S.N.dead.set d true).getD x false=false:=hdd
  by_cases hxd:x=d
  ·subst hxd;rw[d7,u0,i9 rfl]at hdd;rw[d7];split at hdd
   ·cases hdd
   ·rename_i hlt;rw[n4 (by omega)];rfl
  ·rw[d7,u0,i7 (λe=>hxd e.symm)]at hdd;rw[d7];exact hdd
theorem a2C {N:Nand} {d:Nat} (hd:∀x:Nat,N.deadAt x=decide (x=d)) (t:Tl):∀n,(List.range n).foldl (λt (x:Nat)=>if N.deadAt x then t.die x else t) t=if d<n then t.die d else t
 | 0=>rfl
 | n+1=>by
  rw[A9,C3,a2C hd t n];show(if N.deadAt n=true then Tl.die _ n else _)=_;rw[hd]
  by_cases e:n=d
  ·subst e;rw[l8 rfl,i9 rfl,i7 (Nat.lt_irrefl _),i9 (a3F _)]
  ·rw[y8 e,i7 n8]
   by_cases h:d<n
   ·rw[i9 h,i9 (by omega)]
   ·rw[i7 h,i7 (by omega)]
theorem Inv.saw {S:Dv} {d k m:Nat} (h:Inv d S) (hO:S.Ok k m) (hd:d<S.N.dies) (hdd:S.N.dead.getD d false=true):S.seen={S with t:=S.t.die d}/\Inv d S.seen/\L.has S.seen.t.dead (d:Nat)=true/\(∀b,S.seen.t.has b=S.t.has b/\S.seen.t.at_ b=S.t.at_ b)/\S.seen.t.blanks=S.t.blanks/\∀i a,Std d S i a->Std d S.seen i a:=by
 have hg:=hO.gd.ok.bd16;have htd:=hO.t.d;have hda:∀x:Nat,S.N.deadAt x=decide (x=d):=λx=>by
  unfold Nand.deadAt;rw[l9]
  by_cases e:x=d
  ·subst e;rw[hdd];simp;omega
  ·rw[h.dead x (by omega),y8 e];simp
 have hdie:S.t.die d=⟨S.t.d,S.t.b,S.t.p,S.t.l,L.with_ S.t.dead d⟩:=by
  unfold Tl.die;rw[i9];unfold Tl.hasDie;rw[l8 (by omega),l8 (by omega)];rfl
 have hseen:S.seen={S with t:=S.t.die d}:=by
  unfold Dv.seen Dv.seeDead;rw[a2C hda,i9 (by omega)]
 rw[hseen];have hw:=L.set_with h.tdead.1 (d:=(d:Int)) (by omega);have hwh:=L.with_has h.tdead.1 (d:=(d:Int)) (by omega);have hstd:∀i a,Std d S i a->Std d {S with t:=S.t.die d} i a:=λi a ha=>⟨ha.row,by show((S.t.die d).at_ a.block).used=true;rw[hdie];exact ha.used,ha.below,ha.seq⟩;refine⟨rfl,⟨h.lit,h.dead,h.plan,h.flags,?_,λb hb=>?_,?_,λb hb hu x hx=>?_,λi a ha=>hstd i a (h.st i a ha)⟩,?_,λb=>?_,?_,hstd⟩
 ·show L.set (S.t.die d).dead=true/\∀x:Int,L.has (S.t.die d).dead x=true->x=d;rw[hdie];refine⟨hw,λx hx=>?_⟩;have hx:L.has (L.with_ S.t.dead (d:Int)) x=true:=hx;rw[hwh]at hx;rcases n5 _ _▸hx with hx | hx
  ·exact h.tdead.2 x hx
  ·exact H1 hx
 ·have hb:(S.t.die d).has b=true:=hb;show L.set ((S.t.die d).at_ b).bad=true/\∀x:Int,L.has ((S.t.die d).at_ b).bad x=true->x=d;rw[hdie]at hb ⊢;exact h.tbad b hb
 ·rcases h.op with e | e
  ·exact .inl e
  ·exact .inr ⟨e.blk,by show((S.t.die d).at_ S.op).used=true;rw[hdie];exact e.used,e.row,e.mask,e.cells⟩
 ·have hb:(S.t.die d).has b=true:=hb;have hu:((S.t.die d).at_ b).used=false:=hu;have hx:L.has ((S.t.die d).mask b) (x:Nat)=true:=hx;rw[hdie]at hb hu hx;have hb2:S.t.has b=true:=hb;refine h.blank b hb2 hu x ?_;have m1:=(T5 (t:=⟨S.t.d,S.t.b,S.t.p,S.t.l,L.with_ S.t.dead d⟩) (b:=b) (by show S.t.d<=8;omega) hb hw (h.tbad b hb2).1).2 x;have m2:=(T5 (t:=S.t) (b:=b) (by omega) hb2 h.tdead.1 (h.tbad b hb2).1).2 x;rw[m1]at hx;rw[m2];simp only[j5,j7]at hx ⊢;have hx2:=hx.1.2;have hx2:L.has (L.with_ S.t.dead (d:Int)) (x:Nat)=false:=hx2;rw[hwh]at hx2;exact⟨⟨hx.1.1,(Bool.or_eq_false_iff.1 hx2).1⟩,hx.2⟩
 ·show L.has (S.t.die d).dead (d:Nat)=true;rw[hdie];show L.has (L.with_ S.t.dead (d:Int)) (d:Nat)=true;rw[hwh];simp
 ·show(S.t.die d).has b=S.t.has b/\(S.t.die d).at_ b=S.t.at_ b;rw[hdie];exact⟨rfl,rfl⟩
 ·show(S.t.die d).blanks=S.t.blanks;rw[hdie];rfl
end Go.Proofs.YtpakpgkdpofbhaaGreat
