/- Helpers, proved here. No condition. -/
import Derived.Test.YtdocmcapegcoeaaGreatA06
import Derived.Test.YtdocmcapegcoeaaGreatA18
import Derived.Test.YtdocmcapegcoeaaGreatA19
import Derived.Test.YtdocmcapegcoeaaGreatA29
import Derived.Test.YtdocmcapegcoeaaGreatA31
set_option maxRecDepth 20000
set_option linter.all false
namespace Go.Proofs.YtdocmcapegcoeaaGreat
open Go Go.RowKit
theorem f6_May (d b p:Nat) (h:geoMay d b p=true):Fn Tryz.prog 115 [.agg #[.int .i64 d, .int .i64 b, .int .i64 p]] [] (λv As=>v= .bool true/\As=[]):=by
 have hbd:(3<=d/\d<=6)/\(8<=b/\b<=16)/\(2<=p/\p<=8):=by simp[geoMay]at h;omega
 refine Fn.enter [0] Tryz.func115 rfl rfl rfl λX F hX=>?_;refine J.q hX λ_=>?_;refine J.ru hX [] ?_;refine⟨?_,rfl⟩;simp;omega
def lgN (d b p:Nat):Nat:=((b-5)*p*(d-2)+1)/2
theorem lgN_eq (d b p:Nat) (hd:2<=d) (hb:5<=b):(((b:Int)-5)*p*((d:Int)-2)+1).tdiv 2=(lgN d b p:Int):=by
 have e1:(b:Int)-5=((b-5:Nat):Int):=by omega
 have e2:(d:Int)-2=((d-2:Nat):Int):=by omega
 rw[e1,e2,<- Int.natCast_mul,<- Int.natCast_mul,show(((b-5)*p*(d-2):Nat):Int)+1=(((b-5)*p*(d-2)+1:Nat):Int)from by omega,Int.tdiv_eq_ediv_of_nonneg (by omega)];unfold lgN;omega
theorem f6_Logical (d b p:Nat) (h:geoMay d b p=true):Fn Tryz.prog 66 [.agg #[.int .i64 d, .int .i64 b, .int .i64 p]] [] (λv As=>v= .int .i64 (lgN d b p)/\As=[]):=by
 have hbd:(3<=d/\d<=6)/\(8<=b/\b<=16)/\(2<=p/\p<=8):=by simp[geoMay]at h;omega
 have h1:0<=((b:Int)-5)*p/\((b:Int)-5)*p<=88:=by
  refine⟨Int.mul_nonneg (by omega) (by omega),?_⟩;have:((b:Int)-5)*p<=11*8:=Int.mul_le_mul (by omega) (by omega) (by omega) (by omega);omega
 have h2:0<=((b:Int)-5)*p*((d:Int)-2)/\((b:Int)-5)*p*((d:Int)-2)<=352:=by
  refine⟨Int.mul_nonneg h1.1 (by omega),?_⟩;have:((b:Int)-5)*p*((d:Int)-2)<=88*4:=Int.mul_le_mul h1.2 (by omega) (by omega) (by omega);omega
 have h3: -1<=(((b:Int)-5)*p*((d:Int)-2)+1).tdiv 2/\(((b:Int)-5)*p*((d:Int)-2)+1).tdiv 2<=1000:=by
  generalize((b:Int)-5)*p*((d:Int)-2)=x at h2;rw[Int.tdiv_eq_ediv_of_nonneg (by omega)];omega
 refine Fn.enter [0] Tryz.func66 rfl rfl rfl λX F hX=>?_;refine J.q hX λ_=>?_;refine J.cb hX (f6_May d b p h) [] ?_;refine cpq ⟨_,rfl,trivial,?_⟩;refine J.q hX λ_=>?_;refine J.cF ?_;refine J.q hX λ_=>?_;refine J.ru hX [] ?_;exact⟨by rw[lgN_eq d b p (by omega) (by omega)],rfl⟩
theorem f13_Logical (n:Nat) (N:Nand) (h:geoMay N.dies N.blocks N.pages=true):Fn Tryz.prog 27 [.pointer (some ⟨n,0,none⟩)] [NandA n N] (λv As=>v= .int .i64 (lgN N.dies N.blocks N.pages)/\As=[NandA n N]):=by
 refine Fn.enter [2] Tryz.func27 rfl rfl rfl λX F hX=>?_;refine J.q hX λ_=>?_;refine J.cb hX (n_Geo n N) [1] ?_;refine cpq ⟨_,rfl,trivial,?_⟩;refine J.q hX λ_=>?_;refine J.cb hX (f6_Logical N.dies N.blocks N.pages h) [] ?_;refine cpq ⟨_,rfl,trivial,?_⟩;refine J.q hX λ_=>?_;exact J.ru hX [1] ⟨rfl,rfl⟩
end Go.Proofs.YtdocmcapegcoeaaGreat
namespace Go.Proofs.YtdocmcapegcoeaaGreat
open Go
theorem nodup_len {α:Type} [BEq α] [LawfulBEq α]:∀{K M:List α},K.Nodup->(∀x∈K,x∈M)->K.length<=M.length
 | [],M,_,_=>Nat.zero_le _
 | x::K,M,h,hs=>by
  obtain⟨h1,h2⟩:=List.nodup_cons.1 h;have hx:=hs x (by simp);have h3:=nodup_len (M:=M.erase x) h2 λy hy=>by
   have hne:y≠x:=λe=>h1 (by rw[<- e];exact hy);exact(List.mem_erase_of_ne hne).2 (hs y (by simp[hy]))
  rw[List.length_erase_of_mem hx]at h3;have:=List.length_pos_of_mem hx;rw[List.length_cons];omega
theorem ins_len {T:Tb} (h:T.Ok) (b:Int):(T.ins b).length<=Tb.cntB T.at_ b:=by
 unfold Tb.ins;split
 ·exact Nat.zero_le _
 ·have h1:(Tb.inK T b T.logical.toNat).Nodup:=by
   unfold Tb.inK;exact List.pairwise_map.2 ((List.nodup_range.filter _).imp λhne e=>hne (by omega))
  have h2:=nodup_len (M:=(T.at_.filter λx=>x.2.block==b).map (·.1)) h1 λx hx=>by
   simp only[Tb.inK,List.mem_map,List.mem_filter,List.mem_range]at hx;obtain⟨i,⟨_,hi⟩,rfl⟩:=hx;unfold Tb.inB at hi;cases ha:Tb.look T.at_ (i:Int)with
   | none=>rw[ha]at hi;cases hi
   | some a=>
    rw[ha]at hi;exact List.mem_map.2 ⟨((i:Int),a),List.mem_filter.2 ⟨Tb.look_mem ha,hi⟩,rfl⟩
  rw[List.length_map]at h2;unfold Tb.cntB;rw[List.countP_eq_length_filter];exact h2
theorem mem_ins {T:Tb} (h:T.Ok) {b i:Int} {a:AtV} (ha:Tb.look T.at_ i=some a) (hb:a.block=b):i∈T.ins b:=by
 have hr:=h.rng _ (Tb.look_mem ha);have hc:T.count b≠0:=by
  rw[h.cnt];have:0<Tb.cntB T.at_ b:=List.countP_pos_iff.2 ⟨_,Tb.look_mem ha,by simp[hb]⟩;omega
 unfold Tb.ins;rw[if_neg hc];unfold Tb.inK;obtain⟨j,rfl⟩:=Int.eq_ofNat_of_zero_le hr.1;refine List.mem_map.2 ⟨j,List.mem_filter.2 ⟨List.mem_range.2 (by have:=hr.2;simp only at this;omega),?_⟩,rfl⟩;unfold Tb.inB;rw[ha];simp[hb]
theorem ins_in {T:Tb} {b i:Int} (h:i∈T.ins b):∃a,Tb.look T.at_ i=some a/\a.block=b:=by
 unfold Tb.ins at h;split at h
 ·cases h
 ·simp only[Tb.inK,List.mem_map,List.mem_filter,List.mem_range]at h;obtain⟨j,⟨_,hj⟩,rfl⟩:=h;unfold Tb.inB at hj;cases ha:Tb.look T.at_ (j:Int)with
  | none=>rw[ha]at hj;cases hj
  | some a=>rw[ha]at hj;exact⟨a,rfl,by simpa using hj⟩
theorem pkSome_count (kind:Int->Bool) (o:Int):∀n,(pkSome kind o n).length=(List.range n).countP λi:Nat=>((i:Int) !=o)&&kind i
 | 0=>rfl
 | n+1=>by
  rw[pkSome_succ,List.range_succ,List.countP_append,<- pkSome_count kind o n]
  by_cases h:(((n:Int) !=o)&&kind n)=true
  ·rw[if_pos h,List.length_append];simp[List.countP_cons,h]
  ·rw[if_neg h];simp[List.countP_cons,h]
theorem three_count {p q:Nat->Bool} {o:Int}:∀n:Nat,(∀i,i<n->p i=true\/q i=true\/(i:Int)=o)->n<=(List.range n).countP p+(List.range n).countP q+(if 0<=o/\o<n then 1 else 0)
 | 0,_=>by simp
 | n+1,h=>by
  have ih:=three_count (p:=p) (q:=q) (o:=o) n λi hi=>h i (by omega);rw[List.range_succ,List.countP_append,List.countP_append];have hn:=h n (by omega);have e1:[n].countP p=if p n then 1 else 0:=by simp[List.countP_cons]
  have e2:[n].countP q=if q n then 1 else 0:=by simp[List.countP_cons]
  rw[e1,e2];have a1:p n=true->(if p n=true then 1 else 0)=1:=λe=>if_pos e;have a2:q n=true->(if q n=true then 1 else 0)=1:=λe=>if_pos e;generalize(if p n=true then 1 else 0)=x1 at a1 ⊢;generalize(if q n=true then 1 else 0)=x2 at a2 ⊢
  by_cases ho:0<=o/\o<n
  ·rw[if_pos ho]at ih;rw[if_pos (show 0<=o/\o<((n+1:Nat):Int)by omega)];rcases hn with e | e | e
   ·have:=a1 e;omega
   ·have:=a2 e;omega
   ·omega
  ·rw[if_neg ho]at ih;rcases hn with e | e | e
   ·have:=a1 e;split<;>omega
   ·have:=a2 e;split<;>omega
   ·rw[if_pos (show 0<=o/\o<((n+1:Nat):Int)by omega)];omega
structure Rmy (fd:Int) (W:List (Int×En)) (S:Dv):Prop where
 inv:Inv fd S
 hd:Hd S W
 wok:WOk W
 held:∀b,S.t.has b=true->(S.t.at_ b).held=false
 ff:(∀i:Nat,S.N.dead.getD i false=false)->∀i j:Nat,(S.N.blk i j).fails=false
 cap:2*W.length<=(S.N.blocks-5)*(S.N.pages*(S.N.dies-2))+1
namespace Rmy
variable {fd : Int} {S : Dv} {k m β : Nat} {W : List (Int × En)}
theorem clear(h:Rmy fd W S) (hO:S.Ok (96+k) m):∃V,S.clear=(V,0)/\Rmy fd W V/\V.Ok k m/\pkSome (pkSpent V.t V.T) V.op V.t.b=[]/\V.t.blanks=S.t.blanks+(pkSome (pkSpent S.t S.T) S.op S.t.b).length/\V.T=S.T/\V.op=S.op/\V.row=S.row/\V.next=S.next/\V.rows=S.rows+S.N.pages*(pkSome (pkSpent S.t S.T) S.op S.t.b).length/\V.N.dead=S.N.dead/\V.N.broken=S.N.broken/\S.N.Like V.N/\(∀d:Int,L.has S.t.dead d=true->L.has V.t.dead d=true)/\(Hot2 fd S β->Hot2 fd V β):=by
 have hk:=Dv.clear_keep hO;obtain⟨N',t',c1,c2,c3⟩:=h.inv.clear_hd hO h.hd;rw[c1]at hk;refine⟨_,c1,⟨c2.inv,c3,h.wok,λb hb=>?_,λhd=>?_,?_⟩,hk.1,?_,c2.blanks,rfl,rfl,rfl,rfl,?_,c2.dead,c2.broken,c2.like,c2.td,λhh=>?_⟩
 ·have hb:t'.has b=true:=hb;rw[c2.has]at hb;show(t'.at_ b).held=false;rw[c2.held b hb];exact h.held b hb
 ·have hd:∀i:Nat,N'.dead.getD i false=false:=hd;rw[c2.dead]at hd;exact(c2.nofl ⟨hd,h.ff hd⟩).1.2
 ·show 2*W.length<=(N'.blocks-5)*(N'.pages*(N'.dies-2))+1;rw[c2.like.blocks,c2.like.pages,c2.like.dies];exact h.cap
 ·refine pkSome_nil _ λx hx=>?_;have hx:x<t'.b:=hx;have htb:t'.b=S.t.b:=by rw[c2.fit.b,hO.t.b,c2.like.blocks]
  have hhas:S.t.has (x:Int)=true:=Tl.has_iff.2 (by omega);have hhas':t'.has (x:Int)=true:=by rw[c2.has];exact hhas
  cases hh:(((x:Int) !=S.op)&&pkSpent t' S.T x)with
  | false=>rfl
  | true=>
   exfalso
   rw[Bool.and_eq_true]at hh;have h2:=hh.2;unfold pkSpent at h2;simp only[Bool.and_eq_true,Bool.not_eq_true']at h2;have hu':(t'.at_ x).used=true:=by
    have:=h2.1.1.2;unfold Tl.blank at this;rw[hhas']at this;simpa using this
   by_cases hm:(x:Int)∈pkSome (pkSpent S.t S.T) S.op S.t.b
   ·rw[c2.blank _ hm]at hu';cases hu'
   ·refine hm (mem_pkSome.2 ⟨by omega,by omega,by simpa using hh.1,?_⟩);unfold pkSpent;rw[h.inv.usable hO hhas,h2.2];unfold Tl.blank Tl.held;rw[hhas,<- c2.rest _ hhas hm,hu',h.held _ hhas];rfl
 ·unfold Dv.rows;show N'.pages*t'.blanks+(if S.op>=0 then((N'.pages:Int)-S.row).toNat else 0)=_;rw[c2.blanks,c2.like.pages,Nat.mul_add];omega
 ·cases hh with
  | calm hno=>
   have hnf:=c2.nofl ⟨hno.dead,h.ff hno.dead⟩;exact .calm ⟨λi=>by show N'.dead.getD i false=false;rw[c2.dead];exact hno.dead i,List.eq_nil_iff_forall_not_mem.2 λa ha=>(by have:=c2.plan a ha;rw[hno.plan]at this;cases this),λi j=>by show(N'.blk i j).met=false;rw[hnf.2];exact hno.met i j⟩
  | cold h1 h2=>exact .cold (c2.td fd h1) h2
  | once h1=>exact .once (c2.td fd h1)
end Rmy
inductive Mvd (fd:Int) (S:Dv):Dv->Prop
 | nil:Mvd fd S S
 | same {U V:Dv}:Mvd fd S U->V.T=U.T->V.op=U.op->V.row=U.row->(∀b,V.t.has b=U.t.has b)->V.N.dead=U.N.dead->Inv fd V->Mvd fd S V
 | crd {U V:Dv} {I:List Int}:Mvd fd S U->Crd fd U I V->Mvd fd S V
theorem Mvd.trans {fd:Int} {S U V:Dv} (h:Mvd fd S U) (h2:Mvd fd U V):Mvd fd S V:=by
 induction h2 with
 | nil=>exact h
 | same _ h1 h2 h3 h4 h5 h6 ih=>exact .same ih h1 h2 h3 h4 h5 h6
 | crd _ hc ih=>exact .crd ih hc
namespace Rmy
variable {fd : Int} {S : Dv} {k m β : Nat} {W : List (Int × En)}
theorem victim (h:Rmy fd W S) (hO:S.Ok k m) (hsp:pkSome (pkSpent S.t S.T) S.op S.t.b=[]) (hfr:¬(S.free:Int)>4):
  0<=S.victim/\S.t.has S.victim=true/\S.victim≠S.op/\(S.t.at_ S.victim).used=true/\0<Tb.cntB S.T.at_ S.victim/\2*Tb.cntB S.T.at_ S.victim<=S.N.pages*(S.N.dies-2)/\S.T.count S.victim<S.t.p*G.slots (S.t.mask S.victim):=by
 have hg:=hO.gd.ok.bd16;have hb:=hO.t.b;have hfl:=h.inv.free_len hO;have hlen:=hO.t.len;have hbl:S.t.blanks=(List.range S.t.b).countP λi:Nat=>!(S.t.at_ (i:Nat)).used:=by
  unfold Tl.blanks Tl.at_;rw[Inv.countP_range_get _ Sb.zero,hlen];simp
 have h3:=three_count (p:=λi:Nat=>((i:Int) !=S.op)&&pkUsed S.t S.T i) (q:=λi:Nat=>!(S.t.at_ (i:Nat)).used) (o:=S.op) S.t.b λi hi=>by
  have hhas:S.t.has (i:Int)=true:=Tl.has_iff.2 (by omega)
  by_cases e1:(i:Int)=S.op
  ·exact .inr (.inr e1)
  ·cases hu:(S.t.at_ (i:Int)).used with
   | false=>exact .inr (.inl rfl)
   | true=>
    left;have hc:¬S.T.count (i:Int)=0:=λhc=>by
     have:(i:Int)∈pkSome (pkSpent S.t S.T) S.op S.t.b:=mem_pkSome.2 ⟨by omega,by omega,e1,by
      unfold pkSpent;rw[h.inv.usable hO hhas,hc];unfold Tl.blank Tl.held;rw[hhas,hu,h.held _ hhas];rfl⟩
     rw[hsp]at this;cases this
    have hc2:S.T.count (i:Int)>0:=by
     have:=hO.T.cnt (i:Int);omega
    unfold pkUsed Tl.held;rw[hhas,h.held _ hhas,decide_eq_true hc2];simp[e1]
 rw[<- hbl,<- pkSome_count]at h3;have hQ:S.N.blocks-5<=(pkSome (pkUsed S.t S.T) S.op S.t.b).length:=by
  split at h3<;>omega
 obtain⟨x,hx⟩:∃x,x∈pkSome (pkUsed S.t S.T) S.op S.t.b:=by
  cases hl:pkSome (pkUsed S.t S.T) S.op S.t.b with
  | nil=>rw[hl]at hQ;simp at hQ;omega
  | cons y l=>exact⟨y,by simp⟩
 have hv:=(victim_least S hx).1;obtain⟨v1,v2,v3,v4⟩:=mem_pkSome.1 hv;have hhas:S.t.has S.victim=true:=Tl.has_iff.2 ⟨v1,v2⟩;have hcn:=hO.T.cnt S.victim;have hpos:0<Tb.cntB S.T.at_ S.victim:=by
  unfold pkUsed at v4;simp only[Bool.and_eq_true,decide_eq_true_eq]at v4;omega
 have hsum:=sum_cnt S.T.at_ (pkSome (pkUsed S.t S.T) S.op S.t.b) (Inv.pkSome_nodup _ _ _);have hmin:=min_mul (Tb.cntB S.T.at_ S.victim) (pkSome (pkUsed S.t S.T) S.op S.t.b) (λb=>Tb.cntB S.T.at_ b) λb hb=>by
  have:=(victim_least S hb).2;rw[hcn,hO.T.cnt b]at this;omega
 have hWl:S.T.at_.length=W.length:=by
  have:=congrArg List.length h.hd.keys;simpa using this
 have hcap:=h.cap;obtain⟨c,hc⟩:∃c,Tb.cntB S.T.at_ S.victim=c:=⟨_,rfl⟩;rw[hc]at hcn hpos hmin ⊢;have hle:(S.N.blocks-5)*c<=W.length:=by
  have:(S.N.blocks-5)*c<=(pkSome (pkUsed S.t S.T) S.op S.t.b).length*c:=Nat.mul_le_mul_right _ hQ;omega
 have h2c:2*c<=S.N.pages*(S.N.dies-2):=by
  refine Classical.byContradiction λhlt=>?_;have h1:(S.N.blocks-5)*(S.N.pages*(S.N.dies-2)+1)<=(S.N.blocks-5)*(2*c):=Nat.mul_le_mul_left _ (by omega);have h2:(S.N.blocks-5)*(2*c)=2*((S.N.blocks-5)*c):=by rw[Nat.mul_comm 2 c,<- Nat.mul_assoc,Nat.mul_comm _ 2]
  rw[Nat.mul_add,Nat.mul_one]at h1;omega
 have hused:(S.t.at_ S.victim).used=true:=by
  obtain⟨y,hy,hyb⟩:=List.countP_pos_iff.1 (show 0<S.T.at_.countP λx=>x.2.block==S.victim by unfold Tb.cntB at hc;omega);have:=(h.inv.st _ _ (look_of hO.T hy)).used
  rwa [show y.2.block=S.victim from by simpa using hyb]at this
 refine⟨v1,hhas,v3,hused,hpos,h2c,?_⟩;rw[hcn];have hms:=(h.inv.msk hO hhas).pos hg.1;have hp:=hO.t.p;have h4:((S.N.pages*(S.N.dies-2):Nat):Int)=(S.N.pages:Int)*((S.N.dies:Int)-2):=by
  have:((S.N.dies-2:Nat):Int)=(S.N.dies:Int)-2:=by omega
  rw[<- this];exact Int.natCast_mul _ _
 have h5:(S.N.pages:Int)*((S.N.dies:Int)-2)<=(S.t.p:Int)*G.slots (S.t.mask S.victim):=by
  rw[hp];exact Int.mul_le_mul_of_nonneg_left hms.2.1 (by omega)
 omega
theorem emptied (h:Rmy fd W S) (hO:S.Ok (Dv.costR+k) m) (hsp:pkSome (pkSpent S.t S.T) S.op S.t.b=[]) (hfr:¬(S.free:Int)>4) (hot:Hot2 fd S β) (hrw:(S.N.pages+1)/2+β<=S.rows) (hnx:S.next<=1099511627775-3000000) (f:Nat):
  ∃(V:Dv) (β':Nat),Dv.roomGo (f+1) S=Dv.roomGo f V/\Rmy fd W V/\V.Ok k m/\pkSome (pkSpent V.t V.T) V.op V.t.b=[]/\Hot2 fd V β'/\β'<=β/\S.rows+S.N.pages+β'<=V.rows+(S.N.pages+1)/2+β/\V.next<=S.next+400/\V.N.dead=S.N.dead/\V.N.broken=S.N.broken/\S.N.Like V.N/\V.T.logical=S.T.logical/\(∀d:Int,L.has S.t.dead d=true->L.has V.t.dead d=true)/\Mvd fd S V:=by
 have hg:=hO.gd.ok.bd16;obtain⟨v1,v2,v3,v4,v5,v6,v7⟩:=h.victim (hO.less (Nat.le_refl _)) hsp hfr;obtain⟨v,hv⟩:∃v,S.victim=v:=⟨_,rfl⟩;rw[hv]at v1 v2 v3 v4 v5 v6 v7;have hcn:=hO.T.cnt v;obtain⟨c,hc⟩:∃c,Tb.cntB S.T.at_ v=c:=⟨_,rfl⟩;rw[hc]at hcn v5 v6;have hil:=ins_len hO.T v;rw[hc]at hil;have htake:(S.T.ins v).take (max (S.T.count v) 0).toNat=S.T.ins v:=by
  rw[hcn];exact List.take_of_length_le (by omega)
 have hPD:S.N.pages*(S.N.dies-2)<=8*4:=Nat.mul_le_mul hg.2.2.2 (by omega);have hlenρ:(S.T.ins v).length<=(S.N.dies-2)*((S.N.pages+1)/2):=by
  have h1:(S.N.dies-2)*S.N.pages<=(S.N.dies-2)*(2*((S.N.pages+1)/2)):=Nat.mul_le_mul_left _ (by omega);have h2:(S.N.dies-2)*(2*((S.N.pages+1)/2))=2*((S.N.dies-2)*((S.N.pages+1)/2)):=by rw[Nat.mul_left_comm]
  rw[Nat.mul_comm S.N.pages]at v6;omega
 have hlen16:(S.T.ins v).length<=16:=by omega
 have hnd:(S.T.ins v).Nodup:=by
  unfold Tb.ins;split
  ·exact List.nodup_nil
  ·unfold Tb.inK;exact List.pairwise_map.2 ((List.nodup_range.filter _).imp λhne e=>hne (by omega))
 have hnone:∀i,Tb.look W i=none->Tb.look S.T.at_ i=none:=λi hi=>h.hd.none hi;obtain⟨V,β',r1,r2,r3,r4,r5,r6,r7⟩:=h.inv.carry_go (S.T.ins v).length S (S.T.ins v) 0 W β ((S.N.pages+1)/2) (96+k) (hO.less (by
  have:Dv.cost*(S.T.ins v).length<=Dv.cost*65536:=Nat.mul_le_mul_left _ (by omega);unfold Dv.costR Dv.costC;omega)) (Nat.le_refl _) h.hd h.wok (λi hi=>by
   obtain⟨a,ha,_⟩:=ins_in hi;cases hw:Tb.look W i with
   | none=>rw[hnone i hw]at ha;cases ha
   | some e=>rfl) hnd hot hlenρ hrw (by omega)
 have hcar:S.carry v (S.T.count v)=(V,((S.T.ins v).length:Int),(0:Int)):=by
  unfold Dv.carry;rw[htake];show Dv.carryGo (S.T.ins v).length S (S.T.ins v) 0=_;rw[r1];simp
 have hRV:Rmy fd W V:=⟨r2.inv,r3,h.wok,λb hb=>by rw[r2.has]at hb;rw[(r2.sb b hb).1];exact h.held b hb,λhd i j=>by rw[(r2.flags i j).2];exact h.ff (λi=>by rw[<- r2.dead];exact hd i) i j,by rw[r2.like.blocks,r2.like.pages,r2.like.dies];exact h.cap⟩;obtain⟨U,u1,u2,u3,u4,u5,u6,u7,u8,u9,u10,u11,u12,u13,u14,u15⟩:=hRV.clear (β:=β') (k:=k) r7
 --the emptied one is spent
 have hvs:v∈pkSome (pkSpent V.t V.T) V.op V.t.b:=by
  have hVb:V.t.b=S.t.b:=by
   have h1:=r7.t.b;have h2:=hO.t.b;have h3:=r2.like.blocks;omega
  have hvh:V.t.has v=true:=by rw[r2.has];exact v2
  have hfresh:∀b r,FreshP S b r->b≠v:=λb r hf e=>by
   subst e;rcases hf with⟨e1,_⟩ | ⟨_,e2⟩
   ·exact v3 e1
   ·rw[v4]at e2;cases e2
  refine mem_pkSome.2 ⟨v1,by have:=(Tl.has_iff.1 v2).2;omega,?_,?_⟩
  ·exactλe=>hfresh V.op V.row (r2.back V.op V.row (.inl ⟨rfl,Int.le_refl _⟩)) e.symm
  ·unfold pkSpent Tl.blank Tl.held;have hcv:V.T.count v=0:=by
    rw[r7.T.cnt];have:Tb.cntB V.T.at_ v=0:=by
     unfold Tb.cntB;rw[List.countP_eq_zero];intro x hx hxb;have hlk:=look_of r7.T hx;have hxb:x.2.block=v:=by simpa using hxb
     by_cases hm:x.1∈S.T.ins v
     ·obtain⟨a,a1,a2,_⟩:=r2.pos _ hm;rw[hlk]at a1;injection a1 with a1;rw[<- a1]at a2;exact hfresh _ _ a2 hxb
     ·rw[r2.rest _ hm]at hlk;exact hm (mem_ins hO.T hlk hxb)
    rw[this];rfl
   rw[r2.inv.usable r7 hvh,hvh,(r2.sb v v2).2 v4,hRV.held v hvh,hcv];rfl
 have hlen1:1<=(pkSome (pkSpent V.t V.T) V.op V.t.b).length:=List.length_pos_of_mem hvs;have hpg:V.N.pages=S.N.pages:=r2.like.pages;have hrowsU:V.rows+S.N.pages<=U.rows:=by
  rw[u10,hpg];have:S.N.pages*1<=S.N.pages*(pkSome (pkSpent V.t V.T) V.op V.t.b).length:=Nat.mul_le_mul_left _ hlen1;omega
 have hnV:=r2.next;refine⟨U,β',?_,u2,u3,u4,u15 r4,r5,by omega,by rw[u9];omega,u11.trans r2.dead,u12.trans r2.broken,r2.like.trans u13,by rw[u6];exact r2.logical,λd hd=>u14 d (r2.td d hd), .same (.crd .nil r2) u6 u7 u8 (λb=>Inv.has_same r7.t u3.t u13 b) u11 u2.inv⟩;rw[Dv.roomGo,if_neg hfr,hv,if_neg (by omega)];dsimp only;rw[hcar];dsimp only;rw[if_neg (by decide),u1,if_neg (by simp)]
theorem rows_five (hO:S.Ok k m) (hI:Inv fd S) (hfr:¬(S.free:Int)>4):S.rows<=5*S.N.pages:=by
 have hfl:=hI.free_len hO;have hr:=hO.row;have h1:S.N.pages*S.t.blanks<=S.N.pages*4:=Nat.mul_le_mul_left _ (by omega);unfold Dv.rows;split<;>omega
theorem go:∀(f:Nat) (S:Dv) (β k:Nat),Rmy fd W S->S.Ok (Dv.costR*f+k) m->pkSome (pkSpent S.t S.T) S.op S.t.b=[]->Hot2 fd S β->3*S.N.pages+β<=S.rows->5*S.N.pages+β+1<=S.rows+f*(S.N.pages/2)->S.next+400*(f:Int)<=1099511627775-3000000->
  ∃(V:Dv) (β':Nat),Dv.roomGo f S=(V,0)/\Rmy fd W V/\V.Ok k m/\(V.free:Int)>4/\pkSome (pkSpent V.t V.T) V.op V.t.b=[]/\Hot2 fd V β'/\β'<=β/\V.next<=S.next+400*(f:Int)/\V.N.dead=S.N.dead/\V.N.broken=S.N.broken/\S.N.Like V.N/\V.T.logical=S.T.logical/\(∀d:Int,L.has S.t.dead d=true->L.has V.t.dead d=true)
 | f,S,β,k,h,hO,hsp,hot,hr3,hr5,hnx=>by
  by_cases hfr:(S.free:Int)>4
  ·refine⟨S,β,?_,h,hO.less (by omega),hfr,hsp,hot,Nat.le_refl _,by omega,rfl,rfl,Nand.Like.refl _,rfl,λ_ h=>h⟩;cases f with
   | zero=>rfl
   | succ f=>rw[Dv.roomGo,if_pos hfr]
  ·have h5:=rows_five hO h.inv hfr;have hg:=hO.gd.ok.bd16;cases f with
   | zero=>omega
   | succ f=>
    have hmul:(f+1)*(S.N.pages/2)=f*(S.N.pages/2)+S.N.pages/2:=Nat.succ_mul _ _;obtain⟨V,β1,w1,w2,w3,w4,w5,w6,w7,w8,w9,w10,w11,w12,w13,_⟩:=h.emptied (k:=Dv.costR*f+k) (by rw[Nat.mul_succ]at hO;exact hO.less (by omega)) hsp hfr hot (by omega) (by omega) f;have hpg:=w11.pages;obtain⟨U,β2,u1,u2,u3,u4,u5,u6,u7,u8,u9,u10,u11,u12,u13⟩:=go f V β1 k w2 w3 w4 w5 (by rw[hpg];omega) (by rw[hpg];omega) (by omega);exact⟨U,β2,by rw[w1,u1],u2,u3,u4,u5,u6,by omega,by omega,u9.trans w9,u10.trans w10,w11.trans u11,u12.trans w12,λd hd=>u13 d (w13 d hd)⟩
theorem room (h:Rmy fd W S) (hO:S.Ok (96+(Dv.costR*S.t.b+k)) m) (hot:Hot2 fd S β) (hr3:3*S.N.pages+β<=S.rows) (hβ:β<=1) (hnx:S.next<=1099511627775-4000000):
  ∃(V:Dv) (β':Nat),S.room=(V,0)/\Rmy fd W V/\V.Ok k m/\(V.free:Int)>4/\pkSome (pkSpent V.t V.T) V.op V.t.b=[]/\Hot2 fd V β'/\β'<=β/\V.next<=S.next+6400/\V.N.dead=S.N.dead/\V.N.broken=S.N.broken/\S.N.Like V.N/\V.T.logical=S.T.logical/\(∀d:Int,L.has S.t.dead d=true->L.has V.t.dead d=true):=by
 have hg:=hO.gd.ok.bd16;have hb:=hO.t.b;obtain⟨U,u1,u2,u3,u4,u5,u6,u7,u8,u9,u10,u11,u12,u13,u14,u15⟩:=h.clear (β:=β) hO;have hpg:=u13.pages;have h8:8*(S.N.pages/2)<=S.t.b*(S.N.pages/2):=Nat.mul_le_mul_right _ (by omega);obtain⟨V,β',v1,v2,v3,v4,v5,v6,v7,v8,v9,v10,v11,v12,v13⟩:=go S.t.b U β k u2 u3 u4 (u15 hot) (by rw[hpg,u10];omega) (by rw[hpg,u10];omega) (by rw[u9];omega);refine⟨V,β',?_,v2,v3,v4,v5,v6,v7,by rw[u9]at v8;omega,v9.trans u11,v10.trans u12,u13.trans v11,by rw[v12,u6],λd hd=>v13 d (u14 d hd)⟩;unfold Dv.room;rw[u1];dsimp only;rw[if_neg (by decide),v1]
end Rmy
theorem at_len {T:Tb} (h:T.Ok):T.at_.length<=T.logical.toNat:=by
 have h1:=nodup_len (K:=T.at_.map (·.1)) (M:=(List.range T.logical.toNat).map λi:Nat=>(i:Int)) h.keys λx hx=>by
  obtain⟨y,hy,rfl⟩:=List.mem_map.1 hx;have:=h.rng y hy;exact List.mem_map.2 ⟨y.1.toNat,List.mem_range.2 (by omega),by omega⟩
 simpa using h1
theorem WOk.put {W:List (Int×En)} (h:WOk W) {e:En} (he:FitR e):WOk (Tb.put1 W e.lpn e):=λi x hx=>by
 rw[Tb.look_put1]at hx;split at hx
 ·rename_i e1;injection hx with hx;subst hx;exact⟨e1.symm,he⟩
 ·exact h i x hx
namespace Rmy
variable {fd : Int} {S : Dv} {k m β : Nat} {W : List (Int × En)}
theorem pen {e:En} (h:Rmy fd W S) (hO:S.Ok (8*Dv.fuel+k) m) (hot:Hot2 fd S β) (hr:β<S.rows) (he:FitR e) (hlg:e.lpn<S.T.logical) (hcap:2*S.T.logical.toNat<=(S.N.blocks-5)*(S.N.pages*(S.N.dies-2))+1) (hnx:S.next<=1099511627775-1200):
  ∃(V:Dv) (β':Nat),S.pen [e]=(V,(1:Int),(0:Int))/\Rmy fd (Tb.put1 W e.lpn e) V/\V.Ok k m/\Hot2 fd V β'/\β'<=β/\S.rows+β'<=V.rows+1+β/\V.next<=S.next+14/\V.N.dead=S.N.dead/\V.N.broken=S.N.broken/\S.N.Like V.N/\V.T.logical=S.T.logical/\(∀d:Int,L.has S.t.dead d=true->L.has V.t.dead d=true):=by
 have hf:∀x∈[e],FitR x:=λx hx=>by simp at hx;rw[hx];exact he
 obtain⟨V,n,γ,p1,p2,p3,p4⟩:=h.inv.pen_step (E:=[e]) hO hot hr hf (by simp) (by simp) (λx hx=>by simp at hx;rw[hx];exact hlg) hnx h.hd;have hn:n=1:=by
  have h1:=p2.n1;have h2:=p2.n3;simp at h1;omega
 subst hn;have p4:Hd V (Tb.put1 W e.lpn e):=p4;obtain⟨g1,g2⟩:=p2.hot β hot;have hrw:=p2.rows;have hlen:(Tb.put1 W e.lpn e).length=V.T.at_.length:=by
  have:=congrArg List.length p4.keys;simpa using this.symm
 have hal:=at_len p3.T;refine⟨V,β-γ,p1,⟨p2.inv,p4,h.wok.put he,λb hb=>by rw[p2.has]at hb;rw[(p2.sb b hb).1];exact h.held b hb,λhd i j=>by rw[(p2.flags i j).2];exact h.ff (λi=>by rw[<- p2.dead];exact hd i) i j,?_⟩,p3,g2,by omega,by omega,p2.next.2,p2.dead,p2.broken,p2.like,p2.logical,p2.td⟩;rw[p2.like.blocks,p2.like.pages,p2.like.dies,hlen];rw[p2.logical]at hal;omega
theorem many (h:Rmy fd W S) (hO:S.Ok k m) (hfr:(S.free:Int)>4):5*S.N.pages<=S.rows:=by
 have:=h.inv.free_len hO;have h1:S.N.pages*5<=S.N.pages*S.t.blanks:=Nat.mul_le_mul_left _ (by omega);unfold Dv.rows;omega
end Rmy
end Go.Proofs.YtdocmcapegcoeaaGreat
namespace Go.Proofs.YtdocmcapegcoeaaGreat
open Go Go.RowKit
theorem lgN_le {d b p:Nat} (hd:3<=d/\d<=6) (hb:8<=b/\b<=16) (hp:2<=p/\p<=8):1<=lgN d b p/\lgN d b p<=200/\2*lgN d b p<=(b-5)*(p*(d-2))+1:=by
 have h1:(b-5)*p*(d-2)=(b-5)*(p*(d-2)):=Nat.mul_assoc _ _ _;have h2:3*2<=(b-5)*p:=Nat.mul_le_mul (by omega) hp.1;have h3:6*1<=(b-5)*p*(d-2):=Nat.mul_le_mul h2 (by omega);have h4:(b-5)*p<=11*8:=Nat.mul_le_mul (by omega) hp.2;have h5:(b-5)*p*(d-2)<=88*4:=Nat.mul_le_mul h4 (by omega);unfold lgN;omega
theorem s_SweepRoom (g0 g1 g2:Int) (A:Atom) (ao:Option Addr) (no co:Nat) (xs:List Int) (hA:Rd A ao 1 no (xs.flatMap λx=>[Value.int .i64 x])) (hlo:xs.length=no) (hdo:∀x∈xs,-9223372036854775808<=x/\x<=9223372036854775807):
  Fn Tryz.prog 6 [.agg #[.int .i64 g0, .int .i64 g1, .int .i64 g2], .slice ao no co] [A] (λv As=>v= .bool true/\As=[A]):=by
 rw[cellsI_flat]at hA;refine Fn.enter [0,0] Tryz.func6 rfl rfl rfl λX F hX=>?_;refine J.q hX λ_=>?_;refine J.cb hX (l18_begun) [] ?_;refine cpq ⟨_,rfl,trivial,?_⟩;refine J.q hX λ_=>?_;refine J.cF ?_;refine J.q hX λ_=>?_;refine J.cb hX (l6_Geo g0 g1 g2) [] ?_;rintro v As ⟨D,B,P,rfl,hD,hB,hP,rfl⟩;refine⟨_,rfl,trivial,?_⟩;have hgm:geoMay D B P=true:=by simp[geoMay];omega
 refine J.q hX λ_=>?_;refine J.cb hX (n_New D B P hgm) [] ?_;rintro v As ⟨q0,rfl,rfl⟩;refine⟨_,rfl,trivial,?_⟩;refine J.q hX λ_=>?_;refine J.cb hX (f13_Logical q0 (Nand.new D B P) hgm) [3] ?_;refine cpq ⟨_,rfl,trivial,?_⟩;rw[show lgN (Nand.new D B P).dies (Nand.new D B P).blocks (Nand.new D B P).pages=lgN D B P from rfl];obtain⟨g,hg⟩:∃g,lgN D B P=g:=⟨_,rfl⟩;have hgb:=lgN_le hD hB hP;rw[hg]at hgb ⊢;refine J.q hX λ_=>?_;refine J.cb hX (l18_bench D B P hgm g) [] ?_;rintro v As ⟨n,t,l,q,rfl,rfl⟩;refine⟨_,rfl,trivial,?_⟩;refine J.q hX λbm=>?_;refine J.turn1 [8] rfl (As:=[mapA (bm 0) kI (wM [])]) (λh s=>?_) rfl ?_
 ·refine⟨λ_=>0,λi A hA=>?_⟩;cases i with
  | zero=>simp at hA;subst hA;exact⟨#[],0,res_some.2 ⟨rfl,s.get (i:=0) rfl⟩,rfl,by simp,by simp⟩
  | succ k=>simp at hA
 obtain⟨Z,hZ⟩:∃Z,Dv.costM+8*Dv.fuel=Z:=⟨_,rfl⟩;have hO0:(Dv.new D B P g).Ok (Z*130) 0:=Dv.Ok.new D B P g hgm _ (by rw[<- hZ];decide);have hT0:(Dv.new D B P g).T.logical=(g:Int):=by
  show min (max (g:Int) 0) 65536=_;omega
 have hR0:Rmy (-1) [] (Dv.new D B P g):=⟨Inv.new _ _ _ _ _,⟨rfl,λi e he=>by cases he⟩,λi e he=>(by cases he),λb _=>(by
  show((Tl.new D B P).at_ b).held=false;have:(Tl.new D B P).at_ b=Sb.zero:=by
   unfold Tl.new Tl.at_;dsimp only;rw[List.getD_eq_getElem?_getD,List.getElem?_replicate];split<;>rfl
  rw[this];rfl),λ_ _ _=>rfl,by simp⟩
 have hr0:3*P<=(Dv.new D B P g).rows:=by
  rw[rows_new2];have:P*8<=P*B:=Nat.mul_le_mul_left _ hB.1;omega
 refine J.q hX λ_=>?_;refine J.lo (α:=(Nat×Dv×List (Int×En))) (λz=>(z.1<=no/\z.1<=120)/\Rmy (-1) z.2.2 z.2.1/\Hot2 (-1) z.2.1 0/\3*P<=z.2.1.rows/\z.2.1.T.logical=(g:Int)/\z.2.1.next<=1+7000*(z.1:Int)/\(z.2.1.N.dies=D/\z.2.1.N.blocks=B/\z.2.1.N.pages=P)/\z.2.1.N.broken=0/\z.2.1.Ok (Z*(130-z.1)) 0) (λz=>[⟨12, .int .i64 z.1,0, .tt⟩,⟨11, .map (some (bm 0)),9, .tt⟩,⟨6, .int .i64 g,0, .tt⟩,⟨1, .slice ao no co,0, .tt⟩,⟨7, .pointer (some ⟨n,0,none⟩),0, .tt⟩,⟨8, .pointer (some ⟨t,0,none⟩),0, .tt⟩,⟨9, .pointer (some ⟨l,0,none⟩),0, .tt⟩,⟨10, .pointer (some ⟨q,0,none⟩),0, .tt⟩]) [4,5,6,7,8] (λz=>(DvP q n t l z.2.1++[mapA (bm 0) kI (wM z.2.2)])) (λz=>no-z.1) ((0,Dv.new D B P g,[])) (⟨⟨Nat.zero_le _,Nat.zero_le 120⟩,hR0, .calm (NoF.new _ _ _ _),hr0,hT0,by show(1:Int)<=1+7000*0;omega,⟨rfl,rfl,rfl⟩,rfl,hO0⟩) rfl ?_ (λ_=>rfl) λz hI=>?_
 ·rfl
 obtain⟨i,S,W⟩:=z;dsimp only at hI ⊢;obtain⟨⟨hi,hi120⟩,hR,hot,hrw,hlog,hnx,hgeo,hbr,hO⟩:=hI;refine J.q hX λ_=>?_;refine J.cond rfl (λh1=>?_) (λh1=>?_)
 ·simp only[Bool.and_eq_true,decide_eq_true_eq]at h1;have hi1:i<no/\i<120:=by omega
  obtain⟨x,hx⟩:∃x,xs[i]? =some x:=⟨_,List.getElem?_eq_getElem (by omega)⟩;have hx1:=tm_bd x g (by omega);have hx2:=tm_2 x g (by omega);obtain⟨u,hu⟩:=Int.eq_ofNat_of_zero_le hx2.1;rw[hu]at hx2;have hmul:Z*(130-i)=Z*(130-(i+1))+Z:=by
   rw[show 130-i=(130-(i+1))+1 from by omega,Nat.mul_succ]
  have hO1:S.Ok (Dv.costM+(8*Dv.fuel+Z*(130-(i+1)))) 0:=hO.less (by omega);have htb:S.t.b=B:=by have:=hO.t.b;rw[hgeo.2.1]at this;exact this
  obtain⟨V,β',v1,v2,v3,v4,v5,v6,v7,v8,v9,v10,v11,v12,v13⟩:=hR.room (k:=8*Dv.fuel+Z*(130-(i+1))) (hO1.less (by
   have:Dv.costR*S.t.b<=Dv.costR*16:=Nat.mul_le_mul_left _ (by omega);unfold Dv.costM;omega)) hot (by rw[hgeo.2.2];omega) (by omega) (by omega)
  obtain rfl:β'=0:=by omega
  have hmany:=v2.many v3 v4;have hVg:V.N.dies=D/\V.N.blocks=B/\V.N.pages=P:=⟨v11.dies.trans hgeo.1,v11.blocks.trans hgeo.2.1,v11.pages.trans hgeo.2.2⟩;have hdt:∀y∈[e18 (u:Int) ((i:Int)+1)],y.data.length=16:=λy hy=>by
   simp at hy;rw[hy];rfl
  obtain⟨U,β2,u1,u2,u3,u4,u5,u6,u7,u8,u9,u10,u11,u12⟩:=v2.pen (e:=e18 (u:Int) ((i:Int)+1)) v3 v6 (by rw[hVg.2.2]at hmany;omega) (e18_fit (by omega)) (by rw[v12,hlog];show(u:Int)<g;omega) (by rw[v12,hlog,hVg.1,hVg.2.1,hVg.2.2];have:=hgb.2.2;omega) (by omega);obtain rfl:β2=0:=by omega
  have hUg:U.N.dies=D/\U.N.blocks=B/\U.N.pages=P:=⟨u10.dies.trans hVg.1,u10.blocks.trans hVg.2.1,u10.pages.trans hVg.2.2⟩;have hVt:V.t.b<=1000:=by have:=v3.t.b;rw[hVg.2.1]at this;omega
  refine J.know (p:=∃g o,ao=some ⟨g,o,none⟩) (λh' s=>Rd.addr (hA _ (s.get (i:=1) rfl)) (by omega)) λhk=>?_;obtain⟨gm,om,rfl⟩:=hk;refine J.q hX λ_=>?_;refine J.ca hX (by kernel_rfl) (sw_Room n t l q S _ 0 hO1 (by decide)) [4,5,6,7] 0 rfl rfl rfl rfl rfl rfl (λ_=>rfl) ?_;refine cpq ⟨_,rfl,trivial,?_⟩;rw[v1];dsimp only;refine J.q hX λ_=>?_;refine J.cb hX (pn_Open q n t l V) [4] ?_;refine cpq ⟨_,rfl,trivial,?_⟩;refine J.q hX λ_=>?_;refine J.cb hX (p_Free t V.t hVt v3.t.len l V.T V.op) [6,7] ?_;refine cpq ⟨_,rfl,trivial,?_⟩;have hfr:((pkSome (pkFree V.t V.T) V.op V.t.b).length:Int)>4:=v4;refine J.qn hX 2 λ_=>?_;rw[decide_eq_false (show¬((pkSome (pkFree V.t V.T) V.op V.t.b).length:Int)<=4 by omega)];refine J.q hX λ_=>?_;refine J.cF ?_;refine J.q hX λ_=>?_;refine J.val hX (.int .i64 x) 0 rfl rfl (λhg aa w he hw=>rd1_run tk rfl rfl he rfl rfl rfl (hA _ (hw.get (i:=1) rfl)) (by omega) (j:=i) (by omega) (cellsI_get hx)) rfl trivial ?_;refine J.q hX λ_=>?_;rw[hu];refine J.q hX λ_=>?_;refine J.cb hX (l18_entry u (i+1)) [] ?_;refine cpq ⟨_,rfl,trivial,?_⟩;refine J.q hX λby_=>?_;refine J.ca hX (by kernel_rfl) (pn_Write q n t l V _ 0 v3 (.pt (by_ (0+1)) 38 (cellsE [e18 u ((i:Int)+1)])) (some ⟨by_ (0+1),0,none⟩) 1 1 [e18 u ((i:Int)+1)] (pt_rd _ _ _ _ _ rfl) rfl (by decide) hdt) [4,5,6,7,10] 0 rfl rfl rfl rfl rfl rfl (λ_=>rfl) ?_;refine cpq ⟨_,rfl,trivial,?_⟩;rw[u1];dsimp only;refine J.q hX λ_=>?_;refine J.cF ?_;refine J.q hX λ_=>?_;refine J.mapUpdate hX keyI umapE (u:Int) 8 rfl rfl rfl rfl rfl rfl rfl rfl rfl rfl rfl rfl (λ_=>rfl) (show lset _ 8 (mapA _ kI (aput _ _ (enV (e18 u ((i:Int)+1)))))=_ from(by rw[aput_wM];rfl)) ⟨trivial,?_⟩;refine J.q hX λ_=>?_;refine J.nS ((i+1,U,Tb.put1 W (u:Int) (e18 u ((i:Int)+1)))) (⟨⟨by dsimp only;omega,by dsimp only;omega⟩,u2,u4,by dsimp only;rw[hVg.2.2]at hmany;omega,u11.trans (v12.trans hlog),by dsimp only;omega,hUg,u9.trans (v10.trans hbr),u3⟩) (by dsimp only;omega) [0,1,2,3,4,5,6,7,8] rfl rfl
 refine J.q hX λ_=>?_;refine J.cb hX (l18_stands n l (bm 0) S.N hO.gd.ok hO.gd.room hR.inv.lit.off S.T W (hR.hd.sts hO.T)) [5,7,8] ?_;refine cpq ⟨_,rfl,trivial,?_⟩;refine J.q hX λ_=>?_;refine J.cb hX (n_Broken n S.N) [5] ?_;refine cpq ⟨_,rfl,trivial,?_⟩;rw[hbr];refine J.q hX λ_=>?_;exact J.ru hX [1] ⟨rfl,rfl⟩
end Go.Proofs.YtdocmcapegcoeaaGreat
