/- Helpers. No condition. -/
import Derived.Test.YtnffkcabeecopaaGreatU04
import Derived.Test.YtnffkcabeecopaaGreatU07
import Derived.Test.YtnffkcabeecopaaGreatU10
import Derived.Test.YtnffkcabeecopaaGreatU11
import Derived.Test.YtnffkcabeecopaaGreatU12
import Derived.Test.YtnffkcabeecopaaGreatU13
import Derived.Test.YtnffkcabeecopaaGreatU14
import Derived.Test.YtnffkcabeecopaaGreatU15
set_option maxRecDepth 20000
set_option linter.all false
namespace Go.Proofs.YtnffkcabeecopaaGreat
open Go Go.RowKit
namespace Inv
variable {fd : Int} {S : Dv} {k m : Nat}
structure Cleared (fd:Int) (S:Dv) (l:List Int) (N':Nand) (t':Tl):Prop where
 inv:Inv fd {S with N:=N',t:=t'}
 fit:t'.Fit N'
 lit:N'.Lit
 like:S.N.Like N'
 dead:N'.dead=S.N.dead
 broken:N'.broken=S.N.broken
 plan:∀a∈N'.plan,a∈S.N.plan
 reads:∀i a,Std fd S i a->a.block∉l->Std fd {S with N:=N',t:=t'} i a/\R.read N' a.block a.row a.slot a.mask=R.read S.N a.block a.row a.slot a.mask
 has:∀x,t'.has x=S.t.has x
 blank:∀b∈l,(t'.at_ b).used=false
 rest:∀x,S.t.has x=true->x∉l->(t'.at_ x).used=(S.t.at_ x).used
 held:∀x,S.t.has x=true->(t'.at_ x).held=(S.t.at_ x).held
 blanks:t'.blanks=S.t.blanks+l.length
 td:∀e:Int,L.has S.t.dead e=true->L.has t'.dead e=true
 nofl:a7J S.N->a7J N'/\∀i j:Nat,(N'.blk i j).met=(S.N.blk i j).met
 msks:a7J S.N->∀b,t'.mask b=S.t.mask b
theorem wores_mask (N':Nand) (b:Int):∀(q:List Nat) (t:Tl),t.l.length=t.b->(q.foldl (λt (d:Nat)=>t.wore b (N'.wornAt d b)) t).l.length=(q.foldl (λt (d:Nat)=>t.wore b (N'.wornAt d b)) t).b/\∀j,(q.foldl (λt (d:Nat)=>t.wore b (N'.wornAt d b)) t).mask j=t.mask j
 | [],t,hl=>⟨hl,λ_=>rfl⟩
 | d::q,t,hl=>by
  rw[List.foldl_cons];have h1:(t.wore b (N'.wornAt d b)).l.length=(t.wore b (N'.wornAt d b)).b:=by
   unfold Tl.wore Tl.set;split
   ·show(List.set _ _ _).length=_;rw[List.length_set];exact hl
   ·exact hl
  obtain⟨i1,i2⟩:=wores_mask N' b q _ h1;exact⟨i1,λj=>(i2 j).trans (b4W hl b {t.at_ b with wear:=if N'.wornAt d b>(t.at_ b).wear then N'.wornAt d b else(t.at_ b).wear} (λ_=>rfl) j)⟩
theorem clearGo_spec:∀(l:List Int) (S:Dv),(∀b∈l,Er fd S b)->l.Nodup->Inv fd S->S.t.Fit S.N->∃N' t',Dv.clearGo l S.N S.t=(N',t',0)/\Cleared fd S l N' t'
 | [],S,_,_,h,hF=>⟨S.N,S.t,rfl,h,hF,h.lit,Nand.Like.refl _,rfl,rfl,λ_ h=>h,λi a ha _=>⟨ha,rfl⟩,λ_=>rfl,λb hb=>(by cases hb),λ_ _ _=>rfl,λ_ _=>rfl,rfl,λ_ h=>h,λhn=>⟨hn,λ_ _=>rfl⟩,λ_ _=>rfl⟩
 | b::l,S,hl,hnd,h,hF=>by
  have hb:=hl b (by simp);have hnd2:=List.nodup_cons.1 hnd;obtain⟨N1,t1,f1,g1⟩:=erase_spec hb;have hhas1:∀x,t1.has x=S.t.has x:=λx=>by
   unfold Tl.has;rw[show t1.b=S.t.b from by rw[g1.fit.b,hF.b,g1.er.like.blocks]]
  obtain⟨N2,t2,f2,g2⟩:=clearGo_spec l {S with N:=N1,t:=t1} (λx hx=>by
   have hx':=hl x (by simp[hx]);have hne:x≠b:=λe=>hnd2.1 (by rw[<- e];exact hx);exact⟨g1.inv,g1.fit,by show t1.has x=true;rw[hhas1];exact hx'.has,hx'.ne,hx'.emp,by show(t1.at_ x).used=true;rw[g1.rest x hx'.has hne];exact hx'.used,by show 3<=N1.dies/\N1.dies<=6;rw[g1.er.like.dies];exact hx'.six,by show 0<N1.pages;rw[g1.er.like.pages];exact hx'.pages⟩) hnd2.2 g1.inv g1.fit
  have l2:N1.Like N2:=g2.like;have d2:N2.dead=N1.dead:=g2.dead;have b2:N2.broken=N1.broken:=g2.broken;have bl2:t2.blanks=t1.blanks+l.length:=g2.blanks;refine⟨N2,t2,?_,g2.inv,g2.fit,g2.lit,g1.er.like.trans l2,d2.trans g1.er.dead,b2.trans g1.er.broken,λa ha=>g1.er.plan a (g2.plan a ha),λi a ha hab=>?_,λx=>(g2.has x).trans (hhas1 x),λx hx=>?_,λx hx hxl=>?_,λx hx=>?_,by rw[bl2,g1.blanks,List.length_cons];omega,λe he=>g2.td e (g1.td e he),λhn=>?_,λhn x=>?_⟩
  ·rw[Dv.clearGo,f1];dsimp only;rw[if_neg (by simp)];exact f2
  ·have r1:=g1.reads i a ha (λe=>hab (by rw[e];simp));have r2:=g2.reads i a r1.1 (λe=>hab (by simp[e]));exact⟨r2.1,r2.2.trans r1.2⟩
  ·rcases List.mem_cons.1 hx with rfl | hx
   ·have:=g2.rest x (by show t1.has x=true;rw[hhas1];exact hb.has) hnd2.1;rw[this];exact g1.blank
   ·exact g2.blank x hx
  ·have h1:=g2.rest x (by show t1.has x=true;rw[hhas1];exact hx) (λe=>hxl (by simp[e]));rw[h1];exact g1.rest x hx (λe=>hxl (by simp[e]))
  ·rw[g2.held x (by show t1.has x=true;rw[hhas1];exact hx)];exact g1.held x hx
  ·obtain⟨n1,_⟩:=g1.exact_ hn;obtain⟨n2,n3⟩:=g2.nofl n1;exact⟨n2,λi j=>(n3 i j).trans (g1.er.nof hn.2 i j).1⟩
  ·obtain⟨n1,_,_,e⟩:=g1.exact_ hn;have e2:t2.mask x=t1.mask x:=g2.msks n1 x;obtain⟨w1,w2⟩:=wores_mask N1 b (List.range N1.dies) S.t hF.len;rw[e2,e,Dv.mask_clean (t:=Dv.wores N1 S.t b) w1];exact w2 x
theorem pkSome_nodup (kind:Int->Bool) (o:Int) (n:Nat):(i3 kind o n).Nodup:=by
 unfold i3;rw[List.nodup_iff_pairwise_ne,List.pairwise_map];exact(List.Pairwise.filter _ (List.nodup_iff_pairwise_ne.1 List.nodup_range)).imp λh e=>h (by omega)
theorem spent_er (h:Inv fd S) (hO:S.Ok k m) {b:Int} (hb:b∈i3 (u7 S.t S.T) S.op S.t.b):Er fd S b:=by
 obtain⟨h1,h2,h3,h4⟩:=mem_pkSome.1 hb;have hg:=hO.gd.ok.bd16;have hhas:S.t.has b=true:=Tl.has_iff.2 ⟨h1,h2⟩;simp only[u7,Bool.and_eq_true,Bool.not_eq_true',beq_iff_eq]at h4;obtain⟨⟨⟨_,hbl⟩,_⟩,hc⟩:=h4;refine⟨h,hO.t,hhas,h3,λi a ha e=>?_,?_,hg.1,by omega⟩
 ·rw[hO.T.cnt]at hc;have hc:Tb.cntB S.T.at_ b=0:=by omega
  unfold Tb.cntB at hc;rw[List.countP_eq_zero]at hc;exact hc _ (Tb.look_mem ha) (by simp[e])
 ·unfold Tl.blank at hbl;rw[hhas,Bool.true_and]at hbl;simpa using hbl
theorem clear_spec (h:Inv fd S) (hO:S.Ok k m):∃N' t',S.clear=({S with N:=N',t:=t'},0)/\Cleared fd S (i3 (u7 S.t S.T) S.op S.t.b) N' t':=by
 obtain⟨N',t',f,g⟩:=clearGo_spec (i3 (u7 S.t S.T) S.op S.t.b) S (λb hb=>h.spent_er hO hb) (pkSome_nodup _ _ _) h hO.t;refine⟨N',t',?_,g⟩;unfold Dv.clear Dv.clearX;rw[f]
theorem countP_range_get {α:Type} (p:α->Bool) (z:α) (l:List α):l.countP p=(List.range l.length).countP λi=>p (l.getD i z):=by
 induction l with
 | nil=>rfl
 | cons x l ih=>
  rw[List.countP_cons,List.length_cons,List.range_succ_eq_map,List.countP_cons,List.countP_map,ih];rfl
theorem free_len (h:Inv fd S) (hO:S.Ok k m):S.free=S.t.blanks:=by
 unfold Dv.free i3;rw[List.length_map,<- List.countP_eq_length_filter];have hlen:=hO.t.len;unfold Tl.blanks;rw[countP_range_get _ Sb.zero,hlen];refine List.countP_congr λi hi=>?_;have hi:=List.mem_range.1 hi;have hhas:S.t.has (i:Nat)=true:=Tl.has_iff.2 (by omega);obtain⟨a1,a2⟩:=h.free_iff hO hhas;rw[a1];have e:S.t.blank (i:Nat)= !(S.t.l.getD i Sb.zero).used:=by unfold Tl.blank Tl.at_;rw[hhas,Int.toNat_natCast];rfl
 cases hb:S.t.blank (i:Nat)with
 | false=>rw[e]at hb;rw[hb];simp
 | true=>rw[a2 hb];rw[e]at hb;rw[hb];simp
end Inv
theorem a2Z {kind:Int->Bool} {o:Int}:∀n:Nat,(∀x:Nat,x<n->(((x:Int) !=o)&&kind x)=false)->i3 kind o n=[]
 | 0,_=>rfl
 | n+1,h=>by rw[P8,if_neg (by rw[h n (by omega)];decide),a2Z n λx hx=>h x (by omega)]
theorem a2M {N:Nand} {t:Tl} (h:∀i:Nat,N.dead.getD i false=false):Dv.seeDead N t=t:=by
 unfold Dv.seeDead;have:∀(q:List Nat),q.foldl (λt (d:Nat)=>if N.deadAt d then t.die d else t) t=t:=by
  intro q
  induction q with
  | nil=>rfl
  | cons d q ih=>
   rw[List.foldl_cons];have:N.deadAt d=false:=by unfold Nand.deadAt;rw[Int.toNat_natCast,h];simp
   rw[this,if_neg Bool.false_ne_true];exact ih
 exact this _
namespace Inv
variable {fd : Int} {S : Dv} {k m : Nat} {W : List (Int × En)}
theorem clear_hd (h:Inv fd S) (hO:S.Ok k m) (hH:Hd S W):∃N' t',S.clear=({S with N:=N',t:=t'},0)/\Cleared fd S (i3 (u7 S.t S.T) S.op S.t.b) N' t'/\Hd {S with N:=N',t:=t'} W:=by
 obtain⟨N',t',c1,c2⟩:=h.clear_spec hO;refine⟨N',t',c1,c2,⟨hH.keys,λi e he=>?_⟩⟩;obtain⟨h1,a,h2,h3⟩:=hH.each i e he;refine⟨h1,a,h2,?_⟩;rw[(c2.reads i a (h.st i a h2) λhb=>(h.spent_er hO hb).emp i a h2 rfl).2];exact h3
end Inv
theorem a0e {α:Type} [BEq α] [LawfulBEq α]:∀{K M:List α},K.Nodup->(∀x∈K,x∈M)->K.length<=M.length
 | [],M,_,_=>Nat.zero_le _
 | x::K,M,h,hs=>by
  obtain⟨h1,h2⟩:=List.nodup_cons.1 h;have hx:=hs x (by simp);have h3:=a0e (M:=M.erase x) h2 λy hy=>by
   have hne:y≠x:=λe=>h1 (by rw[<- e];exact hy);exact(List.mem_erase_of_ne hne).2 (hs y (by simp[hy]))
  rw[List.length_erase_of_mem hx]at h3;have:=List.length_pos_of_mem hx;rw[List.length_cons];omega
theorem ins_len {T:Tb} (h:T.Ok) (b:Int):(T.ins b).length<=Tb.cntB T.at_ b:=by
 unfold Tb.ins;split
 ·exact Nat.zero_le _
 ·have h1:(Tb.inK T b T.logical.toNat).Nodup:=by
   unfold Tb.inK;exact List.pairwise_map.2 ((List.nodup_range.filter _).imp λhne e=>hne (by omega))
  have h2:=a0e (M:=(T.at_.filter λx=>x.2.block==b).map (·.1)) h1 λx hx=>by
   simp only[Tb.inK,List.mem_map,List.mem_filter,List.mem_range]at hx;obtain⟨i,⟨_,hi⟩,rfl⟩:=hx;unfold Tb.inB at hi;cases ha:Tb.look T.at_ (i:Int)with
   | none=>rw[ha]at hi;cases hi
   | some a=>
    rw[ha]at hi;exact List.mem_map.2 ⟨((i:Int),a),List.mem_filter.2 ⟨Tb.look_mem ha,hi⟩,rfl⟩
  rw[List.length_map]at h2;unfold Tb.cntB;rw[List.countP_eq_length_filter];exact h2
theorem b6A {T:Tb} {b i:Int} (h:i∈T.ins b):∃a,Tb.look T.at_ i=some a/\a.block=b:=by
 unfold Tb.ins at h;split at h
 ·cases h
 ·simp only[Tb.inK,List.mem_map,List.mem_filter,List.mem_range]at h;obtain⟨j,⟨_,hj⟩,rfl⟩:=h;unfold Tb.inB at hj;cases ha:Tb.look T.at_ (j:Int)with
  | none=>rw[ha]at hj;cases hj
  | some a=>rw[ha]at hj;exact⟨a,rfl,by simpa using hj⟩
namespace Rmy
variable {fd : Int} {S : Dv} {k m β : Nat} {W : List (Int × En)}
end Rmy
namespace Rmy
variable {fd : Int} {S : Dv} {k m β : Nat} {W : List (Int × En)}
end Rmy
theorem b6Z {T:Tb} (h:T.Ok):T.at_.length<=T.logical.toNat:=by
 have h1:=a0e (K:=T.at_.map (·.1)) (M:=(List.range T.logical.toNat).map λi:Nat=>(i:Int)) h.keys λx hx=>by
  obtain⟨y,hy,rfl⟩:=List.mem_map.1 hx;have:=h.rng y hy;exact List.mem_map.2 ⟨y.1.toNat,List.mem_range.2 (by omega),by omega⟩
 simpa using h1
theorem WOk.put {W:List (Int×En)} (h:WOk W) {e:En} (he:FitR e):WOk (Tb.put1 W e.lpn e):=λi x hx=>by
 rw[Tb.look_put1]at hx;split at hx
 ·rename_i e1;injection hx with hx;subst hx;exact⟨e1.symm,he⟩
 ·exact h i x hx
namespace Rmy
variable {fd : Int} {S : Dv} {k m β : Nat} {W : List (Int × En)}
end Rmy
theorem Dv.Ok.fault0 {S:Dv} {k m:Nat} (h:S.Ok k m) (kd x y z n xx:Int) (hk:kd≠1):({S with N:=(S.N.fault kd x y z n xx).2}:Dv).Ok k m:=
 ⟨h.gd.fault0 kd x y z n xx hk,h.t.like (Nand.like_fault _ _ _ _ _ _ _),h.T,h.sl,h.row,h.next⟩
namespace B18
def S0:Dv:=Dv.new 3 8 2 20
def S1:Dv:=(S0.pen [e18 1 1,e18 2 2,e18 3 3]).1
def S2:Dv:=(S1.pen [e18 3 3]).1
def S3:Dv:=(S2.carry 0 2).1
def S4:Dv:={S3 with N:=(S3.N.fault 4 2 0 0 0 0).2}
def S5:Dv:=(S4.step 2).1
def S6:Dv:=S5.room.1
def S7:Dv:=(S6.torn [e18 9 9]).1
theorem h1:(S0.pen [e18 1 1,e18 2 2,e18 3 3]).2=(2,0):=by kernel_rfl
theorem h2:(S1.pen [e18 3 3]).2=(1,0):=by kernel_rfl
theorem h3:(S2.carry 0 2).2=(2,0):=by kernel_rfl
theorem h4:Tb.look S3.T.at_ 1=some ⟨1,0,0,7,4,1⟩:=by kernel_rfl
theorem h5:S3.op=1:=by kernel_rfl
theorem h6:(S4.step 2).2=(1,0):=by kernel_rfl
theorem h7:S5.leftN=2:=by kernel_rfl
theorem h8:S5.N.broken=0:=by kernel_rfl
theorem h9:S5.room.2=0:=by kernel_rfl
theorem h10:(S6.torn [e18 9 9]).2=0:=by kernel_rfl
theorem h11:S7.clear.2=0:=by kernel_rfl
def U:Nat:=10000000000
theorem G0:S0.Ok (10*U) 0:=Dv.Ok.new 3 8 2 20 rfl _ (by decide)
theorem d3:∀s∈[e18 1 1,e18 2 2,e18 3 3],s.data.length=16:=by decide
theorem d1:∀s∈[e18 3 3],s.data.length=16:=by decide
theorem d9:∀s∈[e18 9 9],s.data.length=16:=by decide
theorem G1:S1.Ok (9*U) 0:=(Dv.pen_keep (G0.less (by decide:8*Dv.fuel+9*U<=_)) d3).1
theorem G2:S2.Ok (8*U) 0:=(Dv.pen_keep (G1.less (by decide:8*Dv.fuel+8*U<=_)) d1).1
theorem G3:S3.Ok (7*U) 0:=(Dv.carry_keep (G2.less (by decide:Dv.costC+7*U<=_)) 0 2).1
theorem G4:S4.Ok (7*U) 0:=Dv.Ok.fault0 G3 4 2 0 0 0 0 (by decide)
theorem G5:S5.Ok (6*U) 0:=(Dv.step_keep (G4.less (by decide:Dv.costS+6*U<=_)) 2).1
theorem G6:S6.Ok (5*U) 0:=(Dv.room_keep (G5.less (by decide:Dv.costM+5*U<=_))).1
theorem G7:S7.Ok (4*U) 0:=(Dv.tornGo_keep 1 S6 [e18 9 9] _ (G6.less (by decide:Dv.costT*1+4*U<=_)) d9).1
end B18
end Go.Proofs.YtnffkcabeecopaaGreat
namespace Go.Proofs.YtnffkcabeecopaaGreat
open Go Go.RowKit
open B18
theorem b0v:FP 149 [] [] (Ps (.bool true) []):=by
 refine FE [] Tryz.func149 λX F hX=>?_;refine J.qp (b0u) [] λ_=>?_;exact J.qx []
theorem b0s:FP 97 [] [] (Ps (.bool true) []):=by
 refine FE [] Tryz.func97 λX F hX=>?_;refine J.qc (b0r 3 8 2 rfl 20) [] λ_=>?_;rintro v As ⟨n,t,l,q,rfl,rfl⟩;refine⟨_,rfl,trivial,?_⟩;rw[show Dv.new 3 8 2 20=S0 from rfl];refine J.qF λ_=>?_;refine J.qp (T4 1 1) [] λ_=>?_;refine J.qp (T4 2 2) [] λ_=>?_;refine J.qp (T4 3 3) [] λ_=>?_;refine J.q λbx=>?_;refine J.ca hX (by kernel_rfl) (X9 q n t l S0 (9*U) 0 (G0.less (by decide)) (.pt (bx 0) 155 (c9 [e18 1 1,e18 2 2,e18 3 3])) (some ⟨bx 0,0,none⟩) 3 3 [e18 1 1,e18 2 2,e18 3 3] (W7 _ _ _ _ _ rfl) rfl (by decide) B18.d3) [1,2,3,4,5] 0 rfl rfl rfl rfl rfl rfl (λ_=>rfl) ?_;refine cpq ⟨_,rfl,trivial,?_⟩;rw[show(S0.pen [e18 1 1,e18 2 2,e18 3 3]).1=S1 from rfl,h1];refine J.qp (T4 3 3) [] λ_=>?_;refine J.q λby_=>?_;refine J.ca hX (by kernel_rfl) (X9 q n t l S1 (8*U) 0 (G1.less (by decide)) (.pt (by_ 0) 155 (c9 [e18 3 3])) (some ⟨by_ 0,0,none⟩) 1 1 [e18 3 3] (W7 _ _ _ _ _ rfl) rfl (by decide) B18.d1) [1,2,3,4,6] 0 rfl rfl rfl rfl rfl rfl (λ_=>rfl) ?_;refine cpq ⟨_,rfl,trivial,?_⟩;rw[show(S1.pen [e18 3 3]).1=S2 from rfl,h2];refine J.qp (a2I n t l q S2 (7*U) 0 (G2.less (by decide)) 0 2) [1,2,3,4] λ_=>?_;rw[show(S2.carry 0 2).1=S3 from rfl,h3];refine J.qp (a1j l S3.T 1) [4] λ_=>?_;rw[h4,Option.getD_some,Option.isSome_some];refine J.qp (U5 q n t l S3) [1] λ_=>?_;rw[h5];refine J.qp (U7 n S3.N G3.gd.ok 0 4 2 0 0 0 0) [2] λ_=>?_;rw[show(S3.N.fault 4 2 0 0 0 0).2=S4.N from rfl,show P4 q n t l S3=P4 q n t l S4 from rfl,show S3.t=S4.t from rfl,show S3.T=S4.T from rfl];refine J.qp (a9g n t l q S4 (6*U) 0 (G4.less (by decide)) (by decide) 2) [1,2,3,4] λ_=>?_;rw[show(S4.step 2).1=S5 from rfl,h6];refine J.qp (b0v) [] λ_=>?_;refine J.qp (a9h t l S5 (6*U) 0 G5) [3,4] λ_=>?_;rw[h7];refine J.qp (a3k n S5.N) [2] λ_=>?_;rw[h8];refine J.qp (a0H n t l q S5 (5*U) 0 (G5.less (by decide)) (by decide)) [1,2,3,4] λ_=>?_;rw[show S5.room.1=S6 from rfl,h9];refine J.qp (T4 9 9) [] λ_=>?_;refine J.q λ_=>?_;refine J.effG hX tk rfl rfl rfl (λ_=>rfl) (by(repeat' (first | exact Conj.nil | refine Conj.cons ?_ ?_ | omega | exact hq0 | (simpa using hq0) | (exactλh=>h) | exact rfl | (intro hq;have hq0:=hq;try simp only[Bool.and_eq_true,Bool.or_eq_true,decide_eq_true_eq,Bool.not_eq_true',decide_eq_false_iff_not]at hq) | (simp;done) | (simp;omega) | decide))) (λ_=>rfl) λbt=>⟨trivial,?_⟩;refine J.q λ_=>?_;refine J.ca hX (by kernel_rfl) (a5H n t l q S6 (4*U) 0 (.pt bt 155 (c9 [e18 9 9])) (some (bt,0)) 1 1 [e18 9 9] (W7 _ _ _ _ _ rfl) rfl (by decide) (by decide) (λh=>by cases h) B18.d9 (G6.less (by decide)) (by decide)) [1,2,3,4,8] 0 rfl rfl rfl rfl rfl rfl (λ_=>rfl) ?_;refine cpq ⟨_,rfl,trivial,?_⟩;rw[show(S6.torn [e18 9 9]).1=S7 from rfl,h10];refine J.qp (U5 q n t l S7) [1] λ_=>?_;refine J.q λ_=>?_;refine J.ca hX (by kernel_rfl) (a0I n t l S7.N S7.t S7.T (3*U) 0 (G7.gd.less (by decide) (Nat.le_refl _)) (by decide) G7.t S7.op) [2,3,4] 0 rfl rfl rfl rfl rfl rfl (λ_=>rfl) ?_;refine cpq ⟨_,rfl,trivial,?_⟩;rw[show(Dv.clearX S7.N S7.t S7.T S7.op).2.2=0 from h11];exact J.qx []
end Go.Proofs.YtnffkcabeecopaaGreat
namespace Go.Proofs.YtnffkcabeecopaaGreat
open Go Go.RowKit
namespace SqC
variable {D B P count i r k m : Nat} {S : Dv}
end SqC
namespace CutI
variable {C : En → Prop} {W : List (Int × En)} {S : Dv} {k m : Nat} {l : List En}
end CutI
namespace Hd
end Hd
namespace DscG
variable {fd : Int} {C C' E E' : En → Prop} {N N' : Nand} {b r : Int}
end DscG
namespace GI
variable {fd : Int} {W : List (Int × En)} {S Q : Dv} {k m : Nat} {l : List En}
end GI
namespace Rmy
variable {fd : Int} {S : Dv} {k m β : Nat} {W : List (Int × En)}
end Rmy
theorem a0m {N:Nand} {d:Nat} (hd:∀x:Nat,N.deadAt x=decide (x=d)) (t:Tl):∀n,(List.range n).foldl (λt (x:Nat)=>if N.deadAt x then t.die x else t) t=if d<n then t.die d else t
 | 0=>rfl
 | n+1=>by
  rw[List.range_succ,List.foldl_append,a0m hd t n];show(if N.deadAt n=true then Tl.die _ n else _)=_;rw[hd]
  by_cases e:n=d
  ·subst e;rw[decide_eq_true rfl,if_pos rfl,if_neg (Nat.lt_irrefl _),if_pos (Nat.lt_succ_self _)]
  ·rw[decide_eq_false e,if_neg Bool.false_ne_true]
   by_cases h:d<n
   ·rw[if_pos h,if_pos (by omega)]
   ·rw[if_neg h,if_neg (by omega)]
theorem Inv.saw {S:Dv} {d k m:Nat} (h:Inv d S) (hO:S.Ok k m) (hd:d<S.N.dies) (hdd:S.N.dead.getD d false=true):S.seen={S with t:=S.t.die d}/\Inv d S.seen/\L.has S.seen.t.dead (d:Nat)=true/\(∀b,S.seen.t.has b=S.t.has b/\S.seen.t.at_ b=S.t.at_ b)/\S.seen.t.blanks=S.t.blanks/\∀i a,Std d S i a->Std d S.seen i a:=by
 have hg:=hO.gd.ok.bd16;have htd:=hO.t.d;have hda:∀x:Nat,S.N.deadAt x=decide (x=d):=λx=>by
  unfold Nand.deadAt;rw[Int.toNat_natCast]
  by_cases e:x=d
  ·subst e;rw[hdd];simp;omega
  ·rw[h.dead x (by omega),decide_eq_false e];simp
 have hdie:S.t.die d=⟨S.t.d,S.t.b,S.t.p,S.t.l,L.with_ S.t.dead d⟩:=by
  unfold Tl.die;rw[if_pos];unfold Tl.hasDie;rw[decide_eq_true (by omega),decide_eq_true (by omega)];rfl
 have hseen:S.seen={S with t:=S.t.die d}:=by
  unfold Dv.seen Dv.seeDead;rw[a0m hda,if_pos (by omega)]
 rw[hseen];have hw:=L.set_with h.tdead.1 (d:=(d:Int)) (by omega);have hwh:=L.with_has h.tdead.1 (d:=(d:Int)) (by omega);have hstd:∀i a,Std d S i a->Std d {S with t:=S.t.die d} i a:=λi a ha=>⟨ha.row,by show((S.t.die d).at_ a.block).used=true;rw[hdie];exact ha.used,ha.below,ha.seq⟩;refine⟨rfl,⟨h.lit,h.dead,h.plan,h.flags,?_,λb hb=>?_,?_,λb hb hu x hx=>?_,λi a ha=>hstd i a (h.st i a ha)⟩,?_,λb=>?_,?_,hstd⟩
 ·show L.set (S.t.die d).dead=true/\∀x:Int,L.has (S.t.die d).dead x=true->x=d;rw[hdie];refine⟨hw,λx hx=>?_⟩;have hx:L.has (L.with_ S.t.dead (d:Int)) x=true:=hx;rw[hwh]at hx;rcases Bool.or_eq_true _ _▸hx with hx | hx
  ·exact h.tdead.2 x hx
  ·exact of_decide_eq_true hx
 ·have hb:(S.t.die d).has b=true:=hb;show L.set ((S.t.die d).at_ b).bad=true/\∀x:Int,L.has ((S.t.die d).at_ b).bad x=true->x=d;rw[hdie]at hb ⊢;exact h.tbad b hb
 ·rcases h.op with e | e
  ·exact .inl e
  ·exact .inr ⟨e.blk,by show((S.t.die d).at_ S.op).used=true;rw[hdie];exact e.used,e.row,e.mask,e.cells⟩
 ·have hb:(S.t.die d).has b=true:=hb;have hu:((S.t.die d).at_ b).used=false:=hu;have hx:L.has ((S.t.die d).mask b) (x:Nat)=true:=hx;rw[hdie]at hb hu hx;have hb2:S.t.has b=true:=hb;refine h.blank b hb2 hu x ?_;have m1:=(z8 (t:=⟨S.t.d,S.t.b,S.t.p,S.t.l,L.with_ S.t.dead d⟩) (b:=b) (by show S.t.d<=8;omega) hb hw (h.tbad b hb2).1).2 x;have m2:=(z8 (t:=S.t) (b:=b) (by omega) hb2 h.tdead.1 (h.tbad b hb2).1).2 x;rw[m1]at hx;rw[m2];simp only[Bool.and_eq_true,Bool.not_eq_true']at hx ⊢;have hx2:=hx.1.2;have hx2:L.has (L.with_ S.t.dead (d:Int)) (x:Nat)=false:=hx2;rw[hwh]at hx2;exact⟨⟨hx.1.1,(Bool.or_eq_false_iff.1 hx2).1⟩,hx.2⟩
 ·show L.has (S.t.die d).dead (d:Nat)=true;rw[hdie];show L.has (L.with_ S.t.dead (d:Int)) (d:Nat)=true;rw[hwh];simp
 ·show(S.t.die d).has b=S.t.has b/\(S.t.die d).at_ b=S.t.at_ b;rw[hdie];exact⟨rfl,rfl⟩
 ·show(S.t.die d).blanks=S.t.blanks;rw[hdie];rfl
namespace Tl
variable {N : Nand} {t : Tl}
end Tl
namespace GI
variable {fd : Int} {W : List (Int × En)} {S : Dv} {k m : Nat}
end GI
structure Any (fd:Int) (W:List (Int×En)) (S V:Dv) (c:Nat):Prop where
 inv:Inv fd V
 hd:Hd V W
 next:S.next<=V.next/\V.next<=S.next+c
 logical:V.T.logical=S.T.logical
 broken:V.N.broken=S.N.broken
 like:S.N.Like V.N
namespace Any
variable {fd : Int} {W W' : List (Int × En)} {S U V : Dv} {c c' : Nat}
theorem refl (h:Inv fd S) (hd:Hd S W):Any fd W S S 0:=⟨h,hd,by omega,rfl,rfl,Nand.Like.refl _⟩
theorem trans (h:Any fd W S U c) (h2:Any fd W' U V c'):Any fd W' S V (c+c'):=
 ⟨h2.inv,h2.hd,by have:=h.next;have:=h2.next;omega,h2.logical.trans h.logical,h2.broken.trans h.broken,h.like.trans h2.like⟩
theorem more (h:Any fd W S V c) (hc:c<=c'):Any fd W S V c':=⟨h.inv,h.hd,by have:=h.next;omega,h.logical,h.broken,h.like⟩
end Any
namespace Inv
variable {fd : Int} {m : Nat}
theorem pen_any {S:Dv} {k:Nat} {W:List (Int×En)} {l:List En} (h:Inv fd S) (hO:S.Ok (8*Dv.fuel+k) m) (hW:Hd S W) (hf:∀e∈l,FitR e) (hl0:l.length≠0) (hnd:(l.map (·.lpn)).Nodup) (hlg:∀e∈l,e.lpn<S.T.logical) (hnx:S.next<=1099511627775-1200):
  ∃(V:Dv) (n:Nat) (e:Int),S.pen l=(V,(n:Int),e)/\(e=0/\1<=n/\n<=l.length\/e=11/\n=0)/\Any fd (a0C W l n) S V 1000/\V.Ok k m:=by
 have hrw:=Dv.rows_le hO;have hg:=hO.gd.ok.bd16;have hdt:∀x∈l,x.data.length=16:=λx hx=>(hf x hx).len;have hkeep:=Dv.pen_keep hO hdt;obtain⟨γ,Q,w1,w2⟩:=h.write_any (l:=l) 136 23 S k (m:=m) hO hrw hf hl0 (by omega);have hr:=w1.rows;have hn:=w1.next;rcases w2 with⟨w2,w3,w4⟩ | w4
 ·have w4:S.pen l=(U3 Q l,(Q.fit l:Int),(0:Int)):=w4;have hfit:=Dv.fit_le Q l;have hs:=Dv.left_spec w3.left;have h1:1<=Q.fit l:=by unfold Dv.fit;omega
  have hlgQ:∀e∈l,e.lpn<Q.T.logical:=λe he=>by rw[w1.T];exact hlg e he
  have hH:=(hW.went h w1).wrote w1.inv w2 w3 hf hlgQ hnd;rw[w4]at hkeep;refine⟨U3 Q l,Q.fit l,0,w4, .inl ⟨rfl,h1,hfit.2.1⟩,⟨w3.inv w1.inv w2,hH,?_,hkeep.2.2,w3.turn.broken.trans w1.broken,hkeep.2.1⟩,hkeep.1⟩;show S.next<=Q.next+(Q.fit l:Int)/\Q.next+(Q.fit l:Int)<=_;omega
 ·have w4:S.pen l=(Q,(0:Int),(11:Int)):=w4;rw[w4]at hkeep;exact⟨Q,0,11,w4, .inr ⟨rfl,rfl⟩,⟨w1.inv,hW.went h w1,by omega,hkeep.2.2,w1.broken,hkeep.2.1⟩,hkeep.1⟩
theorem carry_any:∀(f:Nat) (S:Dv) (I:List Int) (done:Int) (W:List (Int×En)) (k:Nat),Inv fd S->S.Ok (Dv.cost*f+k) m->I.length<=f->Hd S W->WOk W->(∀i∈I,(Tb.look W i).isSome=true)->I.Nodup->S.next+1000*(f:Int)<=1099511627775-1300->
  ∃(V:Dv) (n e:Int),Dv.carryGo f S I done=(V,n,e)/\(e=0\/e=11)/\Any fd W S V (1000*f)/\V.Ok k m
 | 0,S,I,done,W,k,h,hO,_,hH,_,_,_,_=>⟨S,done,0,rfl, .inl rfl,Any.refl h hH,hO.less (by omega)⟩
 | f+1,S,I,done,W,k,h,hO,hL,hH,hW,hin,hnd,hnx=>by
  by_cases hl0:I.length=0
  ·have:I=[]:=List.eq_nil_of_length_eq_zero hl0;subst this;exact⟨S,done,0,by rw[Dv.carryGo,if_pos (show([]:List Int).length=0 from rfl)], .inl rfl,(Any.refl h hH).more (Nat.zero_le _),hO.less (by omega)⟩
  ·have hg:=hO.gd.ok.bd16;obtain⟨c,hc⟩:∃c,(max S.slots 1).toNat=c:=⟨_,rfl⟩;have hc2:1<=c:=by omega
   obtain⟨E,e1,e2,e3,e4,e5⟩:=hH.rds hW (I.take c) λi hi=>hin i (List.mem_of_mem_take hi);have hEl:E.length=min c I.length:=by rw[e2,List.length_take]
   have hnd2:(E.map (·.lpn)).Nodup:=by rw[e3];exact hnd.sublist (List.take_sublist _ _)
   have hlgE:∀e∈E,e.lpn<S.T.logical:=λe he=>by
    have:e.lpn∈I.take c:=by rw[<- e3];exact List.mem_map_of_mem he
    have h1:=hin _ (List.mem_of_mem_take this);obtain⟨w,hw⟩:=Option.isSome_iff_exists.1 h1;obtain⟨_,a,ha,_⟩:=hH.each _ _ hw;exact(hO.T.rng _ (Tb.look_mem ha)).2
   obtain⟨V,n,e,p1,p2,p3,p4⟩:=h.pen_any (k:=Dv.cost*f+k) (by have:Dv.cost*(f+1)=Dv.cost*f+Dv.cost:=Nat.mul_succ _ _;exact hO.less (by unfold Dv.cost at this ⊢;omega)) hH e4 (by omega) hnd2 hlgE (by omega);have hnE:n<=E.length:=by omega
   have hdisj:∀i j,i<j->j<n->(E.getD i En.zero).lpn≠(E.getD j En.zero).lpn:=λi j hij hj e=>by
    have g1:i<E.length:=by omega
    have g2:j<E.length:=by omega
    have h3:(E.map (·.lpn))[i]? =(E.map (·.lpn))[j]?:=by
     rw[List.getElem?_map,List.getElem?_map,List.getElem?_eq_getElem g1,List.getElem?_eq_getElem g2];rw[List.getD_eq_getElem?_getD,List.getD_eq_getElem?_getD,List.getElem?_eq_getElem g1,List.getElem?_eq_getElem g2]at e;exact congrArg some e
    have:=(List.getElem?_inj (by rw[List.length_map];exact g1) hnd2).1 h3;omega
   have hHV:Hd V W:=p3.hd.swap (λj hj=>e5 j (by rw[<- e2];omega)) hdisj;have p3':Any fd W S V 1000:=⟨p3.inv,hHV,p3.next,p3.logical,p3.broken,p3.like⟩;have hstep:Dv.carryGo (f+1) S I done=(let w:=S.pen E;if w.2.2≠0 then(w.1,done+w.2.1,w.2.2)else Dv.carryGo f w.1 (I.drop w.2.1.toNat) (done+w.2.1)):=by
    rw[Dv.carryGo,if_neg hl0,hc];dsimp only;rw[e1];dsimp only;rw[if_neg (by decide)]
   rw[hstep,p1];dsimp only;rcases p2 with⟨rfl,q1,q2⟩ | ⟨rfl,rfl⟩
   ·rw[if_neg (by decide),Int.toNat_natCast];have hnext:=p3.next;have hdl:(I.drop n).length=I.length-n:=List.length_drop;obtain⟨U,n2,e2',r1,r2,r3,r4⟩:=carry_any f V (I.drop n) (done+(n:Int)) W k p3.inv p4 (by omega) hHV hW (λi hi=>hin i (List.mem_of_mem_drop hi)) (hnd.sublist (List.drop_sublist _ _)) (by omega);exact⟨U,n2,e2',r1,r2,(p3'.trans r3).more (by omega),r4⟩
   ·rw[if_pos (by decide)];exact⟨V,_,11,rfl, .inr rfl,p3'.more (by omega),p4.less (by omega)⟩
theorem carry_any2 {S:Dv} {k:Nat} {W:List (Int×En)} (h:Inv fd S) (hO:S.Ok (Dv.costC+k) m) (hH:Hd S W) (hW:WOk W) (hlg:S.T.logical<=1000) (hnx:S.next<=1099511627775-2000000) (b most:Int):
  ∃(V:Dv) (n e:Int),S.carry b most=(V,n,e)/\(e=0\/e=11)/\Any fd W S V 1000000/\V.Ok k m:=by
 obtain⟨I,hI⟩:∃I,(S.T.ins b).take (max most 0).toNat=I:=⟨_,rfl⟩;have hsub:∀j∈I,j∈S.T.ins b:=λj hj=>by rw[<- hI]at hj;exact List.mem_of_mem_take hj
 have hlen:I.length<=1000:=by
  have h1:=ins_len hO.T b;have h2:Tb.cntB S.T.at_ b<=S.T.at_.length:=List.countP_le_length;have h3:=b6Z hO.T;rw[<- hI,List.length_take];omega
 have hnd:I.Nodup:=by
  rw[<- hI];refine List.Nodup.sublist (List.take_sublist _ _) ?_;unfold Tb.ins;split
  ·exact List.nodup_nil
  ·unfold Tb.inK;exact List.pairwise_map.2 ((List.nodup_range.filter _).imp λhne e=>hne (by omega))
 have hcost:Dv.cost*I.length<=Dv.costC:=Nat.mul_le_mul_left _ (by omega);obtain⟨V,n,e,r1,r2,r3,r4⟩:=h.carry_any I.length S I 0 W k (hO.less (by omega)) (Nat.le_refl _) hH hW (λj hj=>by
  obtain⟨a,ha,_⟩:=b6A (hsub j hj);cases hw:Tb.look W j with
  | none=>rw[hH.none hw]at ha;cases ha
  | some e=>rfl) hnd (by omega)
 refine⟨V,n,e,?_,r2,r3.more (by omega),r4⟩;unfold Dv.carry;rw[hI];exact r1
theorem clear_any {S:Dv} {k:Nat} {W:List (Int×En)} (h:Inv fd S) (hO:S.Ok (96+k) m) (hH:Hd S W):∃V,S.clear=(V,0)/\Any fd W S V 0/\V.Ok k m:=by
 have hk:=Dv.clear_keep hO;obtain⟨N',t',c1,c2,c3⟩:=h.clear_hd hO hH;rw[c1]at hk;exact⟨_,c1,⟨c2.inv,c3,⟨Int.le_refl _,by show S.next<=S.next+0;omega⟩,rfl,c2.broken,c2.like⟩,hk.1⟩
theorem roomGo_any:∀(f:Nat) (S:Dv) (W:List (Int×En)) (k:Nat),Inv fd S->S.Ok (Dv.costR*f+k) m->Hd S W->WOk W->S.T.logical<=1000->S.next+1000000*(f:Int)<=1099511627775-2000000->
  ∃(V:Dv) (e:Int),Dv.roomGo f S=(V,e)/\(e=0\/e=11)/\Any fd W S V (1000000*f)/\V.Ok k m
 | 0,S,W,k,h,hO,hH,_,_,_=>⟨S,0,rfl, .inl rfl,Any.refl h hH,hO.less (by omega)⟩
 | f+1,S,W,k,h,hO,hH,hW,hlg,hnx=>by
  rw[Nat.mul_succ]at hO;rw[Dv.roomGo];split
  ·exact⟨S,0,rfl, .inl rfl,(Any.refl h hH).more (Nat.zero_le _),hO.less (by omega)⟩
  split
  ·exact⟨S,0,rfl, .inl rfl,(Any.refl h hH).more (Nat.zero_le _),hO.less (by omega)⟩
  obtain⟨U,n,e,c1,c2,c3,c4⟩:=h.carry_any2 (k:=96+(Dv.costR*f+k)) (hO.less (by unfold Dv.costR;omega)) hH hW hlg (by omega) S.victim (S.T.count S.victim);dsimp only;rw[c1];dsimp only;rcases c2 with rfl | rfl
  ·rw[if_neg (by decide)];obtain⟨V,d1,d2,d3⟩:=c3.inv.clear_any (k:=Dv.costR*f+k) c4 c3.hd;rw[d1];dsimp only;rw[if_neg (by decide)];have n1:=c3.next;have n2:=d2.next;obtain⟨X,e,r1,r2,r3,r4⟩:=roomGo_any f V W k d2.inv d3 d2.hd hW (by rw[d2.logical,c3.logical];exact hlg) (by omega);exact⟨X,e,r1,r2,((c3.trans d2).trans r3).more (by omega),r4⟩
  ·rw[if_pos (by decide)];exact⟨U,11,rfl, .inr rfl,c3.more (by omega),c4.less (by omega)⟩
theorem room_any {S:Dv} {k:Nat} {W:List (Int×En)} (h:Inv fd S) (hO:S.Ok (Dv.costM+k) m) (hH:Hd S W) (hW:WOk W) (hlg:S.T.logical<=1000) (hnx:S.next<=1099511627775-20000000):
  ∃(V:Dv) (e:Int),S.room=(V,e)/\(e=0\/e=11)/\Any fd W S V 16000000/\V.Ok k m:=by
 have hg:=hO.gd.ok.bd16;have htb:=hO.t.b;obtain⟨U,u1,u2,u3⟩:=h.clear_any (k:=Dv.costR*16+k) (hO.less (by unfold Dv.costM;omega)) hH;have n1:=u2.next;have hm:Dv.costR*S.t.b<=Dv.costR*16:=Nat.mul_le_mul_left _ (by omega);obtain⟨V,e,v1,v2,v3,v4⟩:=roomGo_any S.t.b U W k u2.inv (u3.less (by omega)) u2.hd hW (by rw[u2.logical];exact hlg) (by omega);refine⟨V,e,?_,v2,(u2.trans v3).more (by omega),v4⟩;unfold Dv.room;rw[u1];dsimp only;rw[if_neg (by decide),v1]
end Inv
namespace Inv
variable {fd : Int} {S : Dv} {k m : Nat} {W : List (Int × En)}
theorem dead_cases (h:Inv fd S) (hO:S.Ok k m):(∀i:Nat,S.N.dead.getD i false=false)\/∃d:Nat,fd=(d:Int)/\d<S.N.dies/\S.N.dead.getD d false=true:=by
 by_cases hx:∃i:Nat,S.N.dead.getD i false=true
 ·obtain⟨i,hi⟩:=hx;right;refine⟨i,?_,?_,hi⟩
  ·refine Classical.byContradiction λhne=>?_;rw[h.dead i λe=>hne e.symm]at hi;cases hi
  ·rw[List.getD_eq_getElem?_getD]at hi;refine Classical.byContradiction λhge=>?_;rw[List.getElem?_eq_none (by have:=hO.gd.ok.dead;omega)]at hi;cases hi
 ·left;intro i;cases hi:S.N.dead.getD i false with
  | false=>rfl
  | true=>exact absurd ⟨i,hi⟩ hx
theorem seen_any (h:Inv fd S) (hO:S.Ok k m) (hH:Hd S W):Any fd W S S.seen 0:=by
 rcases h.dead_cases hO with hd | ⟨d,rfl,hd,hdd⟩
 ·have e:S.seen=S:=by
   unfold Dv.seen;rw[a2M hd]
  rw[e];exact Any.refl h hH
 ·obtain⟨_,s2,_⟩:=h.saw hO hd hdd;exact⟨s2,⟨hH.keys,hH.each⟩,⟨Int.le_refl _,by show S.next<=S.next+((0:Nat):Int);omega⟩,rfl,rfl,Nand.Like.refl _⟩
theorem step_any (h:Inv fd S) (hO:S.Ok (Dv.costS+k) m) (hH:Hd S W) (hW:WOk W) (hlg:S.T.logical<=1000) (hnx:S.next<=1099511627775-30000000) (most:Int):
  ∃(V:Dv) (n e:Int),S.step most=(V,n,e)/\(e=0\/e=11)/\Any fd W S V 20000000/\V.Ok k m:=by
 have h1:=h.seen_any hO hH;obtain⟨U,e,u1,u2,u3,u4⟩:=h1.inv.room_any (k:=Dv.costC+k) (m:=m) (hO.seen.less (by unfold Dv.costS;omega)) h1.hd hW hlg (by show S.next<=_;omega);have n1:=h1.next;have n2:=u3.next;have hst:S.step most=(let r:=S.seen.room;if r.2≠0 then(r.1,0,r.2)else match r.1.hurts with | []=>(r.1,0,0) | b::_=>r.1.carry b most):=rfl;rw[u1]at hst;dsimp only at hst;rcases u2 with rfl | rfl
 ·rw[if_neg (by decide)]at hst;cases hh:U.hurts with
  | nil=>
   rw[hh]at hst;exact⟨U,0,0,hst, .inl rfl,(h1.trans u3).more (by omega),u4.less (by omega)⟩
  | cons b l=>
   rw[hh]at hst;obtain⟨V,n,e,c1,c2,c3,c4⟩:=u3.inv.carry_any2 u4 u3.hd hW (by rw[u3.logical];exact hlg) (by omega) b most;exact⟨V,n,e,by rw[hst];exact c1,c2,((h1.trans u3).trans c3).more (by omega),c4⟩
 ·rw[if_pos (by decide)]at hst;exact⟨U,0,11,hst, .inr rfl,(h1.trans u3).more (by omega),u4.less (by omega)⟩
end Inv
def cur (W:List (Int×En)) (L:List En) (i:Int):List UInt8:=match L.find? (λx=>x.lpn==i)with
 | some e=>e.data
 | none=>match Tb.look W i with
  | some e=>e.data
  | none=>zeros16
structure FI (fd:Int) (W:List (Int×En)) (lg:Nat) (F:Fv):Prop where
 inv:Inv fd F.S
 hd:Hd F.S W
 wok:WOk W
 wr:∀i e,Tb.look W i=some e->e.role≠4
 log:F.S.T.logical=(lg:Int)
 lgn:F.lg=(lg:Int)
 lg2:lg<=200
 des:∀e∈F.L,FitR e/\e.role≠4/\e.lpn<(lg:Int)
 nd:(F.L.map (·.lpn)).Nodup
 off:F.off=false
theorem find_none {L:List En} {i:Int}:L.find? (λx=>x.lpn==i)=none↔i∉L.map (·.lpn):=by
 rw[List.find?_eq_none];constructor
 ·intro h hm;obtain⟨x,hx,e⟩:=List.mem_map.1 hm;exact h x hx (by simp[e])
 ·intro h x hx hb;exact h (List.mem_map.2 ⟨x,hx,by simpa using hb⟩)
theorem b0P {L:List En} (hnd:(L.map (·.lpn)).Nodup) {e:En} (he:e∈L):L.find? (λx=>x.lpn==e.lpn)=some e:=by
 induction L with
 | nil=>cases he
 | cons x L ih=>
  simp only[List.map_cons,List.nodup_cons]at hnd;rw[List.find?_cons];rcases List.mem_cons.1 he with rfl | he
  ·simp
  ·have:(x.lpn==e.lpn)=false:=by
    rw[beq_eq_false_iff_ne];intro e2;exact hnd.1 (by rw[e2];exact List.mem_map_of_mem he)
   rw[this];exact ih hnd.2 he
theorem b0W {L:List En} (hnd:(L.map (·.lpn)).Nodup) (n:Nat):D8 L (L.take n)=L.drop n:=by
 unfold D8;have hsp:L=L.take n++L.drop n:=(List.take_append_drop n L).symm;have hnd2:=hnd;rw[hsp,List.map_append,List.nodup_append]at hnd2;obtain⟨_,_,hdis⟩:=hnd2
 conv=>lhs;arg 2;rw[hsp]
 rw[List.filter_append];have h1:(L.take n).filter (λx=>!((L.take n).any λe=>e.lpn==x.lpn&&e.seq==x.seq))=[]:=by
  rw[List.filter_eq_nil_iff];intro x hx;have:((L.take n).any λe=>e.lpn==x.lpn&&e.seq==x.seq)=true:=List.any_eq_true.2 ⟨x,hx,by simp⟩;rw[this];simp
 have h2:(L.drop n).filter (λx=>!((L.take n).any λe=>e.lpn==x.lpn&&e.seq==x.seq))=L.drop n:=by
  rw[List.filter_eq_self];intro x hx;have:((L.take n).any λe=>e.lpn==x.lpn&&e.seq==x.seq)=false:=by
   rw[<- Bool.not_eq_true,List.any_eq_true];rintro⟨e,he,hb⟩;simp only[Bool.and_eq_true,beq_iff_eq]at hb;exact hdis _ (List.mem_map_of_mem he) _ (List.mem_map_of_mem hx) hb.1
  rw[this];rfl
 rw[h1,h2];rfl
theorem b3F {W:List (Int×En)} {L:List En} (hnd:(L.map (·.lpn)).Nodup) (n:Nat) (hn:n<=L.length) (i:Int):cur (a0C W L n) (L.drop n) i=cur W L i:=by
 have hdisj:∀a b,a<b->b<n->(L.getD a En.zero).lpn≠(L.getD b En.zero).lpn:=λa b hab hb e=>by
  have g1:a<L.length:=by omega
  have g2:b<L.length:=by omega
  have h3:(L.map (·.lpn))[a]? =(L.map (·.lpn))[b]?:=by
   rw[List.getElem?_map,List.getElem?_map,List.getElem?_eq_getElem g1,List.getElem?_eq_getElem g2];rw[List.getD_eq_getElem?_getD,List.getD_eq_getElem?_getD,List.getElem?_eq_getElem g1,List.getElem?_eq_getElem g2]at e;exact congrArg some e
  have:=(List.getElem?_inj (by rw[List.length_map];exact g1) hnd).1 h3;omega
 obtain⟨w1,w2⟩:=R5 (W:=W) (l:=L) n hdisj;have hsp:L=L.take n++L.drop n:=(List.take_append_drop n L).symm;have hnd2:=hnd;rw[hsp,List.map_append,List.nodup_append]at hnd2;obtain⟨hn1,hn2,hdis⟩:=hnd2
 by_cases hi:i∈(L.take n).map (·.lpn)
 ·obtain⟨e,he,rfl⟩:=List.mem_map.1 hi;have hf:=b0P hnd (List.mem_of_mem_take he);have hnone:(L.drop n).find? (λx=>x.lpn==e.lpn)=none:=find_none.2 λhm=>hdis _ hi _ hm rfl;obtain⟨j,hj,hje⟩:=List.mem_iff_getElem.1 he;rw[List.length_take]at hj;have hge:L.getD j En.zero=e:=by
   rw[List.getD_eq_getElem?_getD,List.getElem?_eq_getElem (by omega),Option.getD_some,<- hje,List.getElem_take]
  have hl:=w1 j (by omega);rw[hge]at hl;unfold cur;rw[hnone,hf];dsimp only;rw[hl]
 ·have h1:(L.take n).find? (λx=>x.lpn==i)=none:=find_none.2 hi;have h2:L.find? (λx=>x.lpn==i)=(L.drop n).find? (λx=>x.lpn==i):=by
   conv=>lhs;rw[hsp]
   rw[List.find?_append,h1];rfl
  have h3:Tb.look (a0C W L n) i=Tb.look W i:=w2 i λj hj e=>hi (List.mem_map.2 ⟨L.getD j En.zero,by
   rw[List.getD_eq_getElem?_getD,List.getElem?_eq_getElem (by omega),Option.getD_some];exact List.mem_iff_getElem.2 ⟨j,by rw[List.length_take];omega,List.getElem_take ..⟩,e⟩)
  unfold cur;rw[h2,h3]
theorem a8N {W:List (Int×En)} {L:List En} (hW:WOk W) (hr:∀i e,Tb.look W i=some e->e.role≠4) (hL:∀e∈L,FitR e/\e.role≠4):∀n,n<=L.length->WOk (a0C W L n)/\∀i e,Tb.look (a0C W L n) i=some e->e.role≠4
 | 0,_=>⟨hW,hr⟩
 | n+1,hn=>by
  obtain⟨h1,h2⟩:=a8N hW hr hL n (by omega);have hm:=hL _ (O3 (show n<L.length by omega));rw[a0b];refine⟨h1.put hm.1,λi e he=>?_⟩;rw[Tb.look_put1]at he;split at he
  ·injection he with he;rw[<- he];exact hm.2
  ·exact h2 i e he
namespace FI
variable {fd : Int} {W : List (Int × En)} {lg k m : Nat} {F : Fv}
theorem ask (h:FI fd W lg F):F.ask=F:=by
 unfold Fv.ask;rw[h.inv.lit.off,h.off];have:=h.off;cases F;dsimp only at this;rw[this];rfl
theorem len (h:FI fd W lg F):F.L.length<=lg:=by
 have h1:=a0e (K:=F.L.map (·.lpn)) (M:=(List.range lg).map λi:Nat=>(i:Int)) h.nd λx hx=>by
  obtain⟨e,he,rfl⟩:=List.mem_map.1 hx;obtain⟨d1,_,d3⟩:=h.des e he;have:=d1.lpn;exact List.mem_map.2 ⟨e.lpn.toNat,List.mem_range.2 (by omega),by omega⟩
 simpa using h1
theorem get (h:FI fd W lg F) (i:Int):F.get i=(cur W F.L i,0):=by
 unfold Fv.get cur T8;cases hf:F.L.find? (λx=>x.lpn==i)with
 | some e=>rfl
 | none=>
  dsimp only;rw[if_neg Bool.false_ne_true];cases hw:Tb.look W i with
  | none=>rw[h.hd.none hw]
  | some e=>
   obtain⟨h1,a,ha,hr⟩:=h.hd.each i e hw;obtain⟨y,hy,_,_,hyr⟩:=h.inv.read ha;have hwe:=h.wok i e hw;rw[hr]at hy;have her:e.role=a.role:=by injection hy with hy;rw[<- hyr,<- hy]
   have h4:=h.wr i e hw;rw[ha];dsimp only;rcases hwe.2.role with r | ⟨r | r,hz⟩
   ·rw[if_neg (by omega),if_neg (by omega),hr];dsimp only;rw[if_neg];rintro(x | x | x)
    ·exact x rfl
    ·exact x hwe.1
    ·exact x rfl
   ·rw[if_pos (by omega),hz]
   ·exact absurd r h4
theorem read (h:FI fd W lg F) (i:Int):F.read i=if i<0\/i>=(lg:Int)then(F,zeros16,3)else(F,cur W F.L i,0):=by
 unfold Fv.read;rw[h.ask,h.off,if_neg Bool.false_ne_true,h.lgn,h.get]
theorem writes (h:FI fd W lg F) (hO:F.S.Ok (Dv.costM+(8*Dv.fuel+k)) m) (hnx:F.S.next<=1099511627775-30000000):
  ∃(F':Fv) (e:Int) (W':List (Int×En)),F.writes=(F',e)/\(e=0\/e=11)/\FI fd W' lg F'/\(∀i,cur W' F'.L i=cur W F.L i)/\F'.S.Ok k m/\F'.S.next<=F.S.next+20000000/\F'.nx=F.nx/\F'.S.N.broken=F.S.N.broken/\F.S.N.Like F'.S.N/\F'.L.length<=F.L.length/\(e=0->F.L.length≠0->F'.L.length<F.L.length):=by
 obtain⟨U,e,u1,u2,u3,u4⟩:=h.inv.room_any hO h.hd h.wok (by have:=h.log;have:=h.lg2;omega) (by omega);have n1:=u3.next;have hlgU:∀V:Dv,U.N.Like V.N->(Fv.lg {F with S:=V})=(lg:Int):=λV hl=>by
  have:=h.lgn;unfold Fv.lg at this ⊢;have hl2:=u3.like.trans hl;show((lgN V.N.dies V.N.blocks V.N.pages:Nat):Int)=_;rw[hl2.dies,hl2.blocks,hl2.pages];exact this
 have hwr:F.writes=(let r:=F.S.room;if r.2≠0 then({F with S:=r.1}.told r.2,r.2)else
  let w:=r.1.pen F.L
  ({F with S:=w.1,L:=D8 F.L (F.L.take w.2.1.toNat)}.told w.2.2,w.2.2)):=rfl
 rw[u1]at hwr;dsimp only at hwr;rcases u2 with rfl | rfl
 ·rw[if_neg (by decide)]at hwr
  by_cases hl0:F.L.length=0
  ·have hL:F.L=[]:=List.eq_nil_of_length_eq_zero hl0;have hpen:U.pen F.L=(U,0,0):=by
    show Dv.write (159+1) U F.L=_;rw[Dv.write_succ,if_pos hl0]
   rw[hpen]at hwr;dsimp only at hwr;rw[show D8 F.L (F.L.take (0:Int).toNat)=F.L from by rw[hL];rfl]at hwr;refine⟨_,0,W,hwr, .inl rfl,⟨u3.inv,u3.hd,h.wok,h.wr,u3.logical.trans h.log,hlgU U (Nand.Like.refl _),h.lg2,h.des,h.nd,?_⟩,λi=>rfl,u4.less (by omega),?_,rfl,u3.broken,u3.like,Nat.le_refl _,λ_ h2=>absurd hl0 h2⟩
   ·show(F.off||(0:Int)==9)=false;rw[h.off];rfl
   ·show U.next<=_;omega
  ·obtain⟨V,n,e,p1,p2,p3,p4⟩:=u3.inv.pen_any u4 u3.hd (λe he=>(h.des e he).1) hl0 h.nd (λe he=>by rw[u3.logical,h.log];exact(h.des e he).2.2) (by omega);have n2:=p3.next;have hn:n<=F.L.length:=by omega
   rw[p1]at hwr;dsimp only at hwr;rw[Int.toNat_natCast,b0W h.nd]at hwr;obtain⟨w1,w2⟩:=a8N h.wok h.wr (λe he=>⟨(h.des e he).1,(h.des e he).2.1⟩) n hn;refine⟨_,e,a0C W F.L n,hwr,by omega,⟨p3.inv,p3.hd,w1,w2,p3.logical.trans (u3.logical.trans h.log),hlgU V p3.like,h.lg2,λx hx=>h.des x (List.mem_of_mem_drop hx),?_,?_⟩,b3F h.nd n hn,p4,?_,rfl,p3.broken.trans u3.broken,u3.like.trans p3.like,?_,λhe0 _=>?_⟩
   ·show((F.L.drop n).map (·.lpn)).Nodup;rw[List.map_drop];exact h.nd.sublist (List.drop_sublist _ _)
   ·show(F.off||e==9)=false;rw[h.off];rcases p2 with⟨rfl,_⟩ | ⟨rfl,_⟩<;>rfl
   ·show V.next<=_;omega
   ·show(F.L.drop n).length<=_;rw[List.length_drop];omega
   ·show(F.L.drop n).length<_;rw[List.length_drop];omega
 ·rw[if_pos (by decide)]at hwr;refine⟨_,11,W,hwr, .inr rfl,⟨u3.inv,u3.hd,h.wok,h.wr,u3.logical.trans h.log,hlgU U (Nand.Like.refl _),h.lg2,h.des,h.nd,?_⟩,λi=>rfl,u4.less (by omega),?_,rfl,u3.broken,u3.like,Nat.le_refl _,λh1=>by cases h1⟩
  ·show(F.off||(11:Int)==9)=false;rw[h.off];rfl
  ·show U.next<=_;omega
end FI
theorem a7n {L:List En} {i j:Int} (h:i≠j):(L.filter λx=>!(x.lpn==j)).find? (λx=>x.lpn==i)=L.find? (λx=>x.lpn==i):=by
 induction L with
 | nil=>rfl
 | cons x L ih=>
  rw[List.filter_cons]
  by_cases e:x.lpn=j
  ·have h1:(!(x.lpn==j))=false:=by simp[e]
   have h2:(x.lpn==i)=false:=by rw[beq_eq_false_iff_ne];omega
   rw[h1,if_neg Bool.false_ne_true,ih,List.find?_cons,h2]
  ·have h1:(!(x.lpn==j))=true:=by simp[e]
   rw[h1,if_pos rfl,List.find?_cons,List.find?_cons,ih]
theorem b5v (W:List (Int×En)) (L:List En) (e:En) (i:Int):cur W (T7 L e) i=if i=e.lpn then e.data else cur W L i:=by
 unfold cur T7;rw[List.find?_append]
 by_cases h:i=e.lpn
 ·subst h;have h1:(L.filter λx=>!(x.lpn==e.lpn)).find? (λx=>x.lpn==e.lpn)=none:=by
   rw[List.find?_eq_none];intro x hx hb;have:=(List.mem_filter.1 hx).2;rw[hb]at this;cases this
  rw[h1,if_pos rfl];simp
 ·rw[a7n h,if_neg h];have h2:[e].find? (λx=>x.lpn==i)=none:=by
   rw[List.find?_eq_none];intro x hx hb;simp at hx;subst hx;exact h (eq_of_beq hb).symm
  rw[h2,Option.or_none]
namespace FI
variable {fd : Int} {W : List (Int × En)} {lg k m : Nat} {F : Fv}
theorem put (h:FI fd W lg F) {e:En} (he:FitR e/\e.role≠4/\e.lpn<(lg:Int)):FI fd W lg (F.put e)/\∀i,cur W (F.put e).L i=if i=e.lpn then e.data else cur W F.L i:=by
 refine⟨⟨h.inv,h.hd,h.wok,h.wr,h.log,h.lgn,h.lg2,λx hx=>?_,?_,h.off⟩,λi=>b5v W F.L {e with seq:=F.nx} i⟩
 ·have hx:x∈(F.L.filter λy:En=>!(y.lpn==e.lpn))++[({e with seq:=F.nx}:En)]:=hx;rcases List.mem_append.1 hx with hx | hx
  ·exact h.des x (List.mem_filter.1 hx).1
  ·simp at hx;rw[hx];exact⟨⟨he.1.lpn,he.1.role,he.1.len⟩,he.2.1,he.2.2⟩
 ·show(((F.L.filter λy:En=>!(y.lpn==e.lpn))++[({e with seq:=F.nx}:En)]).map (·.lpn)).Nodup;rw[List.map_append,List.nodup_append];refine⟨List.Nodup.sublist ((List.filter_sublist (p:=λx:En=>!(x.lpn==e.lpn)) (l:=F.L)).map (·.lpn)) h.nd,by simp,λa ha b hb hab=>?_⟩;obtain⟨x,hx,rfl⟩:=List.mem_map.1 ha;simp at hb;have:=(List.mem_filter.1 hx).2;rw[hab,hb]at this;simp at this
theorem waits (h:FI fd W lg F) (hO:F.S.Ok (Dv.costM+(8*Dv.fuel+k)) m) (hnx:F.S.next<=1099511627775-30000000) {e:En} (he:0<=e.lpn->e.lpn<(lg:Int)->FitR e/\e.role≠4):
  ∃(F':Fv) (er:Int) (W':List (Int×En)),F.waits e=(F',er)/\FI fd W' lg F'/\F'.S.Ok k m/\F'.S.next<=F.S.next+20000000/\F'.S.N.broken=F.S.N.broken/\F.S.N.Like F'.S.N/\
   ((er=0/\0<=e.lpn/\e.lpn<(lg:Int)/\∀i,cur W' F'.L i=if i=e.lpn then e.data else cur W F.L i)\/((er=3/\¬(0<=e.lpn/\e.lpn<(lg:Int))\/er=11)/\∀i,cur W' F'.L i=cur W F.L i)):=by
 unfold Fv.waits;rw[h.ask,h.off,if_neg Bool.false_ne_true,h.lgn]
 by_cases hr:e.lpn<0\/e.lpn>=(lg:Int)
 ·rw[if_pos hr];exact⟨F,3,W,rfl,h,hO.less (by omega),by omega,rfl,Nand.Like.refl _, .inr ⟨.inl ⟨rfl,by omega⟩,λ_=>rfl⟩⟩
 ·rw[if_neg hr];obtain⟨h1,h2⟩:=he (by omega) (by omega)
  by_cases hs:(F.L.length:Int)>=F.S.slots
  ·rw[if_pos hs];obtain⟨G,er,W',w1,w2,w3,w4,w5,w6,_,w7,w8,_,_⟩:=h.writes hO hnx;rw[w1];dsimp only;rcases w2 with rfl | rfl
   ·rw[if_neg (by decide)];obtain⟨p1,p2⟩:=w3.put (e:=e) ⟨h1,h2,by omega⟩;exact⟨_,0,W',rfl,p1,w5,w6,w7,w8, .inl ⟨rfl,by omega,by omega,λi=>by rw[p2,w4]⟩⟩
   ·rw[if_pos (by decide)];exact⟨_,11,W',rfl,w3,w5,w6,w7,w8, .inr ⟨.inr rfl,w4⟩⟩
  ·rw[if_neg hs];obtain⟨p1,p2⟩:=h.put (e:=e) ⟨h1,h2,by omega⟩;exact⟨_,0,W,rfl,p1,hO.less (by omega),by show F.S.next<=_;omega,rfl,Nand.Like.refl _, .inl ⟨rfl,by omega,by omega,p2⟩⟩
def costW:Nat:=Dv.costM+8*Dv.fuel
theorem flush_go:∀(f:Nat) (F:Fv) (W:List (Int×En)) (k:Nat),FI fd W lg F->F.S.Ok (costW*f+k) m->F.L.length<=f->F.S.next+20000000*(f:Int)<=1099511627775-30000000->
  ∃(F':Fv) (er:Int) (W':List (Int×En)),Fv.flushGo f F=(F',er)/\FI fd W' lg F'/\F'.S.Ok k m/\F'.S.next<=F.S.next+20000000*(f:Int)/\F'.S.N.broken=F.S.N.broken/\F.S.N.Like F'.S.N/\(er=0/\F'.L=[]\/er=11)/\∀i,cur W' F'.L i=cur W F.L i
 | 0,F,W,k,h,hO,hL,_=>⟨F,0,W,rfl,h,hO.less (by omega),by omega,rfl,Nand.Like.refl _, .inl ⟨rfl,List.eq_nil_of_length_eq_zero (by omega)⟩,λ_=>rfl⟩
 | f+1,F,W,k,h,hO,hL,hnx=>by
  rw[Fv.flushGo]
  by_cases hl0:F.L.length=0
  ·rw[if_pos hl0];exact⟨F,0,W,rfl,h,hO.less (by omega),by omega,rfl,Nand.Like.refl _, .inl ⟨rfl,List.eq_nil_of_length_eq_zero hl0⟩,λ_=>rfl⟩
  ·rw[if_neg hl0];rw[Nat.mul_succ]at hO;obtain⟨G,er,W',w1,w2,w3,w4,w5,w6,_,w7,w8,w9,w10⟩:=h.writes (k:=costW*f+k) (hO.less (by unfold costW;omega)) (by omega);rw[w1];dsimp only;rcases w2 with rfl | rfl
   ·rw[if_neg (by decide)];have:=w10 rfl hl0;obtain⟨F',er,W2,r1,r2,r3,r4,r5,r6,r7,r8⟩:=flush_go f G W' k w3 w5 (by omega) (by omega);exact⟨F',er,W2,r1,r2,r3,by omega,r5.trans w7,w8.trans r6,r7,λi=>(r8 i).trans (w4 i)⟩
   ·rw[if_pos (by decide)];exact⟨G,11,W',rfl,w3,w5.less (by omega),by omega,w7,w8, .inr rfl,w4⟩
theorem flush (h:FI fd W lg F) (hO:F.S.Ok (costW*200+k) m) (hnx:F.S.next<=1099511627775-5000000000):
  ∃(F':Fv) (er:Int) (W':List (Int×En)),F.flush=(F',er)/\FI fd W' lg F'/\F'.S.Ok k m/\F'.S.next<=F.S.next+4000000000/\F'.S.N.broken=F.S.N.broken/\F.S.N.Like F'.S.N/\(er=0/\F'.L=[]\/er=11)/\∀i,cur W' F'.L i=cur W F.L i:=by
 unfold Fv.flush;rw[h.ask,h.off,if_neg Bool.false_ne_true];have hl:=h.len;have h2:=h.lg2;have hm:costW*F.L.length<=costW*200:=Nat.mul_le_mul_left _ (by omega);obtain⟨F',er,W',r1,r2,r3,r4,r5⟩:=flush_go F.L.length F W k h (hO.less (by omega)) (Nat.le_refl _) (by omega);exact⟨F',er,W',r1,r2,r3,by omega,r5⟩
theorem tick (h:FI fd W lg F) (hO:F.S.Ok (Dv.costS+k) m) (hnx:F.S.next<=1099511627775-40000000):
  ∃(F':Fv) (er:Int),F.tick=(F',er)/\(er=0\/er=11)/\FI fd W lg F'/\F'.S.Ok k m/\F'.S.next<=F.S.next+20000000/\F'.S.N.broken=F.S.N.broken/\F.S.N.Like F'.S.N/\F'.L=F.L:=by
 unfold Fv.tick;rw[h.ask,h.off,if_neg Bool.false_ne_true];obtain⟨V,n,e,r1,r2,r3,r4⟩:=h.inv.step_any hO h.hd h.wok (by have:=h.log;have:=h.lg2;omega) (by omega) 4;rw[r1];dsimp only;have hn:=r3.next;refine⟨_,e,rfl,r2,⟨r3.inv,r3.hd,h.wok,h.wr,r3.logical.trans h.log,?_,h.lg2,h.des,h.nd,?_⟩,r4,?_,r3.broken,r3.like,rfl⟩
 ·have:=h.lgn;unfold Fv.lg at this ⊢;show((lgN V.N.dies V.N.blocks V.N.pages:Nat):Int)=_;rw[r3.like.dies,r3.like.blocks,r3.like.pages];exact this
 ·show(F.off||e==9)=false;rw[h.off];rcases r2 with rfl | rfl<;>rfl
 ·show V.next<=_;omega
end FI
theorem b5A (D B P:Nat):V.all (Nand.new D B P)=[]:=by
 unfold V.all;rw[List.flatMap_eq_nil_iff];intro b _;rw[List.flatMap_eq_nil_iff];intro r _;refine b1c λd=>?_;have:=a8n (N:=Nand.new D B P) (d:=(d:Nat)) (b:=(b:Nat)) (r:=(r:Nat)) (Nat.zero_le _);omega
theorem a9t (N:Nand) (n:Int):∀k,V.goS N [] n k=⟨Tb.new n,[],[],[]⟩
 | 0=>rfl
 | k+1=>by
  rw[V.goS_succ,a9t N n k];unfold V.step;rw[if_neg];show¬(V.standOf (V.of [] k)).2=true;rw[show V.of [] (k:Int)=[]from rfl,V.standOf_nil];exact Bool.false_ne_true
theorem b1Q (D B P:Nat) (n:Int):V.scan (Nand.new D B P) n=⟨Tb.new n,[],0,[],1,0⟩:=by
 unfold V.scan V.scanOf;rw[b5A,a9t];have h1:m9 (I0 [])=[]:=a4D;dsimp only;rw[h1];rfl
theorem b1P {t:Tl} (hl:t.l.length=t.b) (k:Int):t.set k (t.at_ k)=t:=by
 unfold Tl.set;split
 ·rename_i h;have hk:=Tl.get_at hl h;have:t.l.set k.toNat (t.at_ k)=t.l:=by
   apply List.ext_getElem?;intro i;rw[List.getElem?_set];split
   ·rename_i e;subst e;rw[hk];split
    ·rfl
    ·rename_i h2;rw[List.getElem?_eq_none (by omega)]at hk;cases hk
   ·rfl
  rw[this]
 ·rfl
theorem b3O (D B P:Nat) (b:Int):(Tl.new D B P).at_ b=Sb.zero:=by
 unfold Tl.new Tl.at_;dsimp only;rw[List.getD_eq_getElem?_getD,List.getElem?_replicate];split<;>rfl
theorem b4N (D B P:Nat) (b d:Nat):Tl.ofD (Nand.new D B P) b (Tl.new D B P) d=Tl.new D B P:=by
 have hw:(Nand.new D B P).wornAt d b=0:=by unfold Nand.wornAt;split<;>rfl
 have hn:(Nand.new D B P).next d b=0:=by unfold Nand.next;split<;>rfl
 have h1:(Tl.new D B P).wore b 0=Tl.new D B P:=by
  have h2:=b1P (t:=Tl.new D B P) (by show(List.replicate B Sb.zero).length=B;rw[List.length_replicate]) (b:Int);unfold Tl.wore;rw[b3O]at h2 ⊢;exact h2
 unfold Tl.ofD;dsimp only;rw[hw,hn,h1,if_neg];simp
theorem b6r (D B P:Nat):Tl.of (Nand.new D B P)=Tl.new D B P:=by
 have hd:Dv.seeDead (Nand.new D B P) (Tl.new D B P)=Tl.new D B P:=a2M λi=>by
  show(List.replicate D false).getD i false=false;rw[List.getD_eq_getElem?_getD,List.getElem?_replicate];split<;>rfl
 have h1:∀(b:Nat) (q:List Nat),q.foldl (Tl.ofD (Nand.new D B P) b) (Tl.new D B P)=Tl.new D B P:=by
  intro b q
  induction q with
  | nil=>rfl
  | cons d q ih=>rw[List.foldl_cons,b4N,ih]
 have h2:∀q:List Nat,q.foldl (Tl.ofB (Nand.new D B P)) (Tl.new D B P)=Tl.new D B P:=by
  intro q
  induction q with
  | nil=>rfl
  | cons b q ih=>
   rw[List.foldl_cons];have:Tl.ofB (Nand.new D B P) (Tl.new D B P) b=Tl.new D B P:=h1 b _;rw[this,ih]
 unfold Tl.of;rw[show(Nand.new D B P).dies=D from rfl,show(Nand.new D B P).blocks=B from rfl,show(Nand.new D B P).pages=P from rfl,hd,h2]
theorem b1U {D B P k m:Nat} {lg:Int} (hO:(Dv.new D B P lg).Ok k m):(Dv.new D B P lg).clear=(Dv.new D B P lg,0)/\(Dv.new D B P lg).room=(Dv.new D B P lg,0):=by
 have hg:=hO.gd.ok.bd16;have hg:(3<=D/\D<=6)/\(8<=B/\B<=16)/\(2<=P/\P<=8):=hg;have hsp:i3 (u7 (Dv.new D B P lg).t (Dv.new D B P lg).T) (Dv.new D B P lg).op (Dv.new D B P lg).t.b=[]:=a2Z _ λx hx=>by
  have hx:x<B:=hx;unfold u7 Tl.blank;rw[show(Dv.new D B P lg).t=Tl.new D B P from rfl,b3O,Tl.has_iff.2 (show 0<=(x:Int)/\(x:Int)<(Tl.new D B P).b by show 0<=(x:Int)/\(x:Int)<(B:Int);omega)];simp[Sb.zero]
 have hc:(Dv.new D B P lg).clear=(Dv.new D B P lg,0):=by
  unfold Dv.clear Dv.clearX;rw[hsp];rfl
 have hfr:((Dv.new D B P lg).free:Int)>4:=by
  have h1:=(Inv.new (-1) D B P lg).free_len (k:=k) (m:=m) hO;have h2:(Dv.new D B P lg).t.blanks=B:=by
   show(List.replicate B Sb.zero).countP _=B;rw[List.countP_replicate];rfl
  have h1:(Dv.new D B P lg).free=(Dv.new D B P lg).t.blanks:=h1;omega
 refine⟨hc,?_⟩;unfold Dv.room;rw[hc,if_neg (by simp)];obtain⟨c,hc2⟩:∃c,(Dv.new D B P lg).t.b=c+1:=⟨(Dv.new D B P lg).t.b-1,by show B=B-1+1;omega⟩;rw[hc2];show Dv.roomGo (c+1) (Dv.new D B P lg)=_;unfold Dv.roomGo;rw[if_pos hfr]
theorem a1q {D B P k m:Nat} (hO:(Dv.new D B P (lgN D B P)).Ok k m):p5 (Nand.new D B P)=(Dv.new D B P (lgN D B P),0):=by
 obtain⟨c1,c2⟩:=b1U hO;unfold p5;rw[show(Nand.new D B P).dies=D from rfl,show(Nand.new D B P).blocks=B from rfl,show(Nand.new D B P).pages=P from rfl,b1Q,b6r];have e:(⟨Nand.new D B P,Tl.new D B P,Tb.new (lgN D B P),-1,0,0,max 1 1⟩:Dv)=Dv.new D B P (lgN D B P):=rfl;dsimp only;rw[e];have h1:(Dv.new D B P (lgN D B P)).holds [] true=Dv.new D B P (lgN D B P):=rfl;have h2:(Dv.new D B P (lgN D B P)).holds [] false=Dv.new D B P (lgN D B P):=rfl;have h3:(Dv.new D B P (lgN D B P)).torn []=(Dv.new D B P (lgN D B P),0):=rfl;rw[h1,List.take_nil,List.drop_nil,h3];dsimp only;rw[if_neg (by simp),h2,c1];dsimp only;rw[if_neg (by simp),h3];dsimp only;rw[if_neg (by simp)];exact c2
theorem FI.new (fd:Int) {D B P:Nat} (hD:3<=D/\D<=6) (hB:8<=B/\B<=16) (hP:2<=P/\P<=8) (hlg:lgN D B P<=200):FI fd [] (lgN D B P) (Fv.of (Dv.new D B P (lgN D B P))):=
 ⟨Inv.new fd D B P _,⟨rfl,λ_ _ he=>(by cases he)⟩,λ_ _ he=>(by cases he),λ_ _ he=>(by cases he),(by
  show min (max ((lgN D B P:Nat):Int) 0) 65536=_;omega),rfl,hlg,λ_ he=>(by cases he),List.nodup_nil,rfl⟩
namespace Rmy
variable {fd : Int} {S : Dv} {k m β : Nat} {W : List (Int × En)}
end Rmy
namespace FC
variable {W : List (Int × En)} {lg k m : Nat} {F : Fv}
end FC
namespace GI
variable {fd : Int} {W : List (Int × En)} {S : Dv} {k m : Nat}
end GI
namespace FC
variable {W : List (Int × En)} {lg k m : Nat} {F : Fv}
end FC
theorem a7z (l:List Td):∀u∈s5 l,u.oneCell'=true:=by
 intro u hu;simp only[s5,List.mem_flatMap]at hu;obtain⟨s,_,hu⟩:=hu;simp only[tdC,List.mem_cons,List.not_mem_nil,or_false]at hu;rcases hu with rfl | rfl | rfl | rfl | rfl | rfl | rfl | rfl | rfl | rfl | rfl | rfl | rfl | rfl | rfl | rfl | rfl<;>rfl
theorem a9N (a:Option Nat) (n cap:Nat) (l:List Td) (hl:l.length=n) (hn:n<=1000000):FP 65 [slv a n cap] [c8 50 17 a n cap (s5 l)]
  (λv As=>∃a' c',v=slv a' n c'/\As=[c8 50 17 a n cap (s5 l),c8 50 17 a' n c' (s5 l)]):=by
 refine FE [0] Tryz.func65 λX F hX=>?_;cases a with
 | none=>
  refine J.know (λh' s=>(s.get (i:=1) rfl).2) λhn0=>?_;obtain⟨rfl,rfl⟩:=hn0;have:l=[]:=List.eq_nil_of_length_eq_zero hl;subst this;refine J.qT λ_=>?_;refine J.turn1 [] rfl (As:=[c8 50 17 none 0 0 (s5 [])]) (λh s=>Sep.one ⟨rfl,rfl,rfl⟩) rfl ?_;refine J.qr [1,2] λ_=>?_;exact⟨none,0,rfl,rfl⟩
 | some g=>
  refine J.qF λ_=>?_;refine J.qn 5 λbb=>?_;refine J.closeOwn (e:=50) (size:=17) (n:=0) (cap:=0) (xs:=[]) 2 rfl rfl rfl (Nat.le_refl _) (Nat.zero_le _) rfl rfl rfl ?_;refine J.q λ_=>?_;refine J.appendR hX tk (a:=some (bb 0)) (n:=0) (cap:=0) (xs:=[]) (oo:=0) (Ay:=c8 50 17 (some g) n cap (s5 l)) 2 1 0 rfl rfl rfl rfl rfl rfl rfl rfl rfl rfl (B6 _ _ (some g) _ _ _) rfl rfl rfl rfl (a7z l) ?_ ?_ (λ_=>rfl) λa' c'=>⟨_,rfl,trivial,?_⟩
  ·simp only[maxLen];omega
  ·omega
  rw[Nat.zero_add n,List.nil_append];refine J.qr [1,2] λ_=>?_;exact⟨a',c',rfl,rfl⟩
theorem a7X (q n:Nat) (A:Pad) (P:Pv) (hl:P.log.length<=1000):FP 20 [pp q] [PlQ q n P.Z A.f (pp A.fp) (slv A.a2 P.log.length A.c2),c8 50 17 A.a2 P.log.length A.c2 (s5 P.log)]
  (λv As=>∃a' c',v=slv a' P.log.length c'/\As=[PlQ q n P.Z A.f (pp A.fp) (slv A.a2 P.log.length A.c2),c8 50 17 A.a2 P.log.length A.c2 (s5 P.log),c8 50 17 a' P.log.length c' (s5 P.log)]):=by
 refine FE [2] Tryz.func20 λX F hX=>?_;refine J.qF λ_=>?_;refine J.qc (a9N A.a2 P.log.length A.c2 P.log rfl (by omega)) [2] λ_=>?_;rintro v As ⟨a',c',rfl,rfl⟩;refine⟨_,rfl,trivial,?_⟩;refine J.qr [1,2,3] λ_=>?_;exact⟨a',c',rfl,rfl⟩
def a9E (d b p:Int):Int:=if l9 d b p then 12*d*b*p+40 else 0
theorem b6S (d b p:Int):FP 42 [.agg #[iI d,iI b,iI p]] [] (Ps (iI (a9E d b p)) []):=by
 refine FE [0] Tryz.func42 λX F hX=>?_;refine J.qp (a1V d b p) [] λ_=>?_;refine J.qd (λ_ h1=>?_) λ_ h1=>?_
 ·have hg:l9 d b p=false:=by simpa using h1
  refine J.qr [] λ_=>?_;exact⟨by unfold a9E;rw[hg];rfl,rfl⟩
 ·have hg:l9 d b p=true:=by simpa using h1
  have hbd:(3<=d/\d<=6)/\(8<=b/\b<=16)/\(2<=p/\p<=8):=by simp[l9]at hg;omega
  have m1:0<=12*d*b/\12*d*b<=1152:=by
   have h1:=Int.mul_nonneg (show 0<=12*d by omega) (show 0<=b by omega);have h2:=Int.mul_le_mul (show 12*d<=72 by omega) (show b<=16 by omega) (by omega) (by omega);omega
  have m2:0<=12*d*b*p/\12*d*b*p<=9216:=by
   have h1:=Int.mul_nonneg m1.1 (show 0<=p by omega);have h2:=Int.mul_le_mul m1.2 (show p<=8 by omega) (by omega) (by omega);omega
  refine J.qr [] λ_=>?_;exact⟨by unfold a9E;rw[hg];rfl,rfl⟩
def Fv.allG:Nat->Int->Fv->Fv×List (List UInt8)×Int
 | 0,_,Z=>(Z,[],0)
 | n+1,i,Z=>if(Z.read i).2.2≠0 then((Z.read i).1,[],(Z.read i).2.2)else((Fv.allG n (i+1) (Z.read i).1).1,(Z.read i).2.1::(Fv.allG n (i+1) (Z.read i).1).2.1,(Fv.allG n (i+1) (Z.read i).1).2.2)
theorem Fv.allG_succ (n:Nat) (i:Int) (Z:Fv):Fv.allG (n+1) i Z=if(Z.read i).2.2≠0 then((Z.read i).1,[],(Z.read i).2.2)else((Fv.allG n (i+1) (Z.read i).1).1,(Z.read i).2.1::(Fv.allG n (i+1) (Z.read i).1).2.1,(Fv.allG n (i+1) (Z.read i).1).2.2):=rfl
def Fv.all (Z:Fv):Fv×List (List UInt8)×Int:=if(Fv.allG Z.lg.toNat 0 Z).2.2≠0 then((Fv.allG Z.lg.toNat 0 Z).1,[],(Fv.allG Z.lg.toNat 0 Z).2.2)else Fv.allG Z.lg.toNat 0 Z
theorem a6c (l:List (List UInt8)) (d:List UInt8):i7 l++i9 d=i7 (l++[d]):=by unfold i7;rw[List.flatMap_append];simp
theorem b6Q (f p n t l d:Nat) (Z:Fv) (k m:Nat) (hO:Z.Ok k m):FP 50 [pp f] (FvP f p n t l d Z)
  (λv As=>∃a c,v= .tuple #[slv a Z.all.2.1.length c,iI Z.all.2.2]/\As=FvP f p n t l d Z.all.1++[c8 30 16 a Z.all.2.1.length c (i7 Z.all.2.1)]):=by
 refine FE [2] Tryz.func50 λX F hX=>?_;refine J.q λb9=>?_;refine J.cF ?_;refine J.qp (V3 f n t l p d Z hO.dv.gd.ok) [1,3] λ_=>?_;have hlb:=Fv.lg_bd (F:=Z) hO.dv.gd.ok;obtain⟨N,hN⟩:=Int.eq_ofNat_of_zero_le (show 0<=Z.lg by omega);rw[hN];have hall:Z.all=if(Fv.allG N 0 Z).2.2≠0 then((Fv.allG N 0 Z).1,[],(Fv.allG N 0 Z).2.2)else Fv.allG N 0 Z:=by unfold Fv.all;rw[hN];rfl
 refine J.q λ_=>?_;refine J.turn1 [] rfl (As:=[c8 30 16 none 0 0 (i7 [])]) (λh s=>Sep.one ⟨rfl,rfl,rfl⟩) rfl ?_;refine J.q λ_=>?_;refine J.l (α:=(Nat×Fv×List (List UInt8)×Option Nat×Nat)) (λz=>z.1<=N/\z.2.1.Ok k m/\z.2.2.1.length=z.1/\Fv.allG N 0 Z=((Fv.allG (N-z.1) z.1 z.2.1).1,z.2.2.1++(Fv.allG (N-z.1) z.1 z.2.1).2.1,(Fv.allG (N-z.1) z.1 z.2.1).2.2)) (λz=>[si 12 z.1,si 11 N,⟨0,pp f,2, .tt⟩,sv 4 (slv z.2.2.2.1 z.2.2.1.length z.2.2.2.2)]) [1,2,3,4,5,6,7] (λz=>(FvP f p n t l d z.2.1++[c8 30 16 z.2.2.2.1 z.2.2.1.length z.2.2.2.2 (i7 z.2.2.1)])) (λz=>N-z.1) ((0,Z,[],none,0)) (⟨Nat.zero_le _,hO,rfl,rfl⟩) λz hI=>?_;obtain⟨j,Y,acc,ga,ca⟩:=z;dsimp only at hI ⊢;obtain⟨hj,hY,hacc,hgo⟩:=hI;refine J.qd (λ_ h1=>?_) λ_ h1=>?_
 ·simp only[decide_eq_true_eq,Int.ofNat_lt]at h1;have hk:=Fv.read_keep hY j;rw[show N-j=(N-(j+1))+1 from by omega]at hgo;rw[Fv.allG_succ]at hgo;refine J.qp (V2 f p n t l d Y k m hY j) [1,2,3,4,5,6] λ_=>?_;generalize Y.read j=R at hgo hk ⊢;obtain⟨Y2,dd,er⟩:=R;dsimp only at hgo hk ⊢;refine J.qd (λ_ h2=>?_) λ_ h2=>?_
  ·have he:er≠0:=by simpa using h2
   rw[if_pos he]at hgo;rw[hgo,if_pos he]at hall;refine J.turn1 [] rfl (As:=[c8 30 16 none 0 0 (i7 [])]) (λh s=>Sep.one ⟨rfl,rfl,rfl⟩) rfl ?_;refine J.qr [1,2,3,4,5,6,9] λ_=>?_;rw[hall];exact⟨none,0,rfl,rfl⟩
  ·have he:er=0:=by simpa using h2
   rw[if_neg (λh=>h he)]at hgo;refine J.qn 5 λb9=>?_;refine J.ap 7 9 0 (a6c acc dd) λa3 c3=>?_;refine J.q λ_=>?_;rw[show acc.length+1=(acc++[dd]).length from by simp];refine J.q λ_=>?_;refine J.n ((j+1,Y2,acc++[dd],a3,c3)) (⟨by dsimp only;omega,hk.1,by dsimp only;rw[List.length_append];exact congrArg (· +1) hacc,by dsimp only;rw[hgo,List.append_assoc];rfl⟩) (by dsimp only;omega) [0,1,2,3,4,5,6,7]
 simp only[decide_eq_false_iff_not,Int.ofNat_lt]at h1;obtain rfl:j=N:=by omega
 rw[Nat.sub_self,show Fv.allG 0 (j:Int) Y=(Y,[],0)from rfl,List.append_nil]at hgo;rw[hgo,if_neg (by simp)]at hall;refine J.qr [1,2,3,4,5,6,7] λ_=>?_;rw[hall];exact⟨ga,ca,rfl,rfl⟩
def UN:Nat:=Fv.cW+1
theorem a7H:UN=Dv.costM+8*Dv.fuel+1:=rfl
theorem b3R:96<=UN:=by
 have:96<=8*Dv.fuel:=by decide
 rw[a7H];omega
theorem a7G:Fv.cW*200<=UN*200:=Nat.mul_le_mul_right _ (Nat.le_succ _)
theorem b1h:FI.costW*200<=UN*200:=Nat.mul_le_mul_right _ (Nat.le_succ _)
theorem b3S:Dv.costK<=UN*402:=by
 have h:Dv.costT*200<=UN*200:=Nat.mul_le_mul_right _ (Nat.le_succ _);have:=b3R;have h2:Dv.costM<=UN:=by rw[a7H];omega
 unfold Dv.costK;omega
theorem b7b:UN*200000<=1000000000000000:=by decide+kernel
theorem b5S {n:Nat} (h:n<=200000):UN*n<=1000000000000000:=Nat.le_trans (Nat.mul_le_mul_left _ h) b7b
namespace Dev
variable {D B P n : Nat} {F : Fv} {c : Nat → List UInt8}
end Dev
namespace FC
variable {W : List (Int × En)} {lg k m : Nat} {F : Fv}
end FC
namespace Dev
variable {D B P n : Nat} {F : Fv} {c : Nat → List UInt8}
end Dev
structure FdCh (fd:Nat) (N N':Nand):Prop where
 like:N.Like N'
 off:N'.off=N.off
 cuts:N'.cuts=N.cuts
 broken:N'.broken=N.broken
 dead:∀i:Nat,i≠fd->N'.dead.getD i false=N.dead.getD i false
 dead2:N'.dead.getD fd false=false->N.dead.getD fd false=false
 plan:∀a∈N'.plan,a∈N.plan\/a.1=(fd:Int)
 blk:∀i j:Nat,i≠fd->N'.blk i j=N.blk i j
 len:∀j:Nat,(N'.blk fd j).cells.length=(N.blk fd j).cells.length
 cell:∀(j r:Nat) (c:NCell),(N'.blk fd j).cells[r]? =some c->∃c0,(N.blk fd j).cells[r]? =some c0/\∀s,a0a s c0->a0a s c
namespace FdCh
variable {fd : Nat} {N N' : Nand}
theorem refl (fd:Nat) (N:Nand):FdCh fd N N:=⟨Nand.Like.refl _,rfl,rfl,rfl,λ_ _=>rfl,λh=>h,λ_ h=> .inl h,λ_ _ _=>rfl,λ_=>rfl,λ_ _ c h=>⟨c,h,λ_ h=>h⟩⟩
theorem same_blk (like:N.Like N') (off:N'.off=N.off) (cuts:N'.cuts=N.cuts) (broken:N'.broken=N.broken) (hd:∀i:Nat,i≠fd->N'.dead.getD i false=N.dead.getD i false) (hd2:N'.dead.getD fd false=false->N.dead.getD fd false=false) (plan:∀a∈N'.plan,a∈N.plan\/a.1=(fd:Int)) (hb:∀i j,N'.blk i j=N.blk i j\/i=fd/\(N'.blk i j).cells=(N.blk i j).cells):FdCh fd N N':=by
 refine⟨like,off,cuts,broken,hd,hd2,plan,λi j hi=>?_,λj=>?_,λj r c hc=>?_⟩
 ·rcases hb i j with h | ⟨h,_⟩
  ·exact h
  ·exact absurd h hi
 ·rcases hb fd j with h | ⟨_,h⟩
  ·rw[h]
  ·rw[h]
 ·refine⟨c,?_,λ_ h=>h⟩;rcases hb fd j with h | ⟨_,h⟩
  ·rw[<- h];exact hc
  ·rw[<- h];exact hc
theorem cellCh {y z:Int} (f:NCell->NCell) (hf:∀c,N.pageAt (fd:Int) y z=some c->∀s,a0a s c->a0a s (f c)):FdCh fd N (N.setCell (fd:Int) y z f):=by
 have hb:∀i j,(N.setCell (fd:Int) y z f).blk i j=if i=fd/\j=y.toNat then {N.blk fd y.toNat with cells:=(N.blk fd y.toNat).cells.modify z.toNat f}else N.blk i j:=λi j=>by
  show(if i=(fd:Int).toNat/\j=y.toNat then _ else _)=_;rw[Int.toNat_natCast]
 refine⟨⟨rfl,rfl,rfl⟩,rfl,rfl,rfl,λ_ _=>rfl,λh=>h,λ_ h=> .inl h,λi j hi=>by rw[hb,if_neg (λh=>hi h.1)],λj=>?_,λj r c hc=>?_⟩
 ·rw[hb];split
  ·rename_i h;rw[h.2];show((N.blk fd y.toNat).cells.modify z.toNat f).length=_;rw[List.length_modify]
  ·rfl
 ·rw[hb]at hc;split at hc
  ·rename_i h;rw[h.2];have hc:((N.blk fd y.toNat).cells.modify z.toNat f)[r]? =some c:=hc;rw[List.getElem?_modify]at hc;cases h0:(N.blk fd y.toNat).cells[r]? with
   | none=>rw[h0]at hc;cases hc
   | some c0=>
    rw[h0]at hc;refine⟨c0,rfl,λs hs=>?_⟩
    by_cases hz:z.toNat=r
    ·have hc:some (if z.toNat=r then f c0 else c0)=some c:=hc;rw[if_pos hz]at hc;injection hc with hc;rw[<- hc];refine hf c0 ?_ s hs;unfold Nand.pageAt;rw[Int.toNat_natCast,hz];exact h0
    ·have hc:some (if z.toNat=r then f c0 else c0)=some c:=hc;rw[if_neg hz]at hc;injection hc with hc;rw[<- hc];exact hs
  ·exact⟨c,hc,λ_ h=>h⟩
theorem cell_lost (c:NCell) (s:Sh):a0a s {c with lost:=true}:= .inl rfl
theorem xor_zero (p:List UInt8) (n:Nat):Nand.xorAt p n 0=p:=by
 unfold Nand.xorAt;rw[UInt8.xor_zero];apply List.ext_getElem?;intro i;rw[List.getElem?_set];split
 ·rename_i h;subst h;split
  ·rename_i h;rw[List.getD_eq_getElem?_getD,List.getElem?_eq_getElem h];rfl
  ·rename_i h;rw[List.getElem?_eq_none (by omega)]
 ·rfl
theorem fault (N:Nand) (kind y z n xx:Int):FdCh fd N (N.fault kind (fd:Int) y z n xx).2:=by
 unfold Nand.fault;split
 ·exact refl fd N
 split
 ·exact same_blk ⟨rfl,rfl,rfl⟩ rfl rfl rfl (λ_ _=>rfl) (λh=>h) (λa ha=>by
   have ha:a∈Nand.addP N.plan ((fd:Int),y,z):=ha;unfold Nand.addP at ha;split at ha
   ·exact .inl ha
   ·rcases List.mem_append.1 ha with h | h
    ·exact .inl h
    ·simp at h;rw[h];exact .inr rfl) (λ_ _=> .inl rfl)
 split
 ·exact same_blk ⟨rfl,rfl,rfl⟩ rfl rfl rfl (λ_ _=>rfl) (λh=>h) (λ_ h=> .inl h) (λi j=>by
   show(if i=(fd:Int).toNat/\j=y.toNat then _ else _)=_\/_;rw[Int.toNat_natCast]
   by_cases e:i=fd/\j=y.toNat
   ·right;refine⟨e.1,?_⟩;show(if i=(fd:Int).toNat/\j=y.toNat then _ else _:NBlock).cells=_;rw[Int.toNat_natCast,if_pos e,e.1,e.2]
   ·left;rw[if_neg e])
 split
 ·exact cellCh _ λc _ s _=>cell_lost c s
 split
 ·exact same_blk ⟨rfl,rfl,rfl⟩ rfl rfl rfl (λi hi=>by
   show(N.dead.set (fd:Int).toNat true).getD i false=_;rw[List.getD_eq_getElem?_getD,List.getElem?_set,if_neg (by omega),<- List.getD_eq_getElem?_getD]) (λh=>by
   have h:(N.dead.set (fd:Int).toNat true).getD fd false=false:=h;rw[List.getD_eq_getElem?_getD,List.getElem?_set,if_pos (by omega)]at h;rw[List.getD_eq_getElem?_getD];split at h
   ·cases h
   ·rename_i hlt;rw[List.getElem?_eq_none (by omega)];rfl) (λ_ h=> .inl h) (λ_ _=> .inl rfl)
 split
 ·split
  ·exact refl fd N
  ·rename_i hn;cases hp:N.pageAt (fd:Int) y z with
   | none=>exact refl fd N
   | some c=>
    dsimp only;split
    ·exact refl fd N
    split
    ·exact refl fd N
    ·rename_i ht hl;refine cellCh _ λc' hc' s hs=>?_;rw[hp]at hc';injection hc' with hc';subst hc';rcases hs with h | h | ⟨h,_⟩
     ·exact absurd h hl
     ·obtain⟨x,hx⟩:∃x,UInt8.ofNat (xx % 256).toNat=x:=⟨_,rfl⟩;show a0a s {c with p:=Nand.xorAt c.p n.toNat (UInt8.ofNat (xx % 256).toNat),turned:=true};rw[hx]
      by_cases h0:x=0
      ·rw[h0];exact .inr (.inl (by show Nand.xorAt c.p n.toNat 0=C5 s;rw[xor_zero];exact h))
      ·exact .inr (.inr ⟨rfl, .inl ⟨n.toNat,x,by omega,h0,by show Nand.xorAt c.p n.toNat x=_;rw[h]⟩⟩)
     ·exact absurd h ht
 ·exact refl fd N
end FdCh
theorem Inv.changed {S:Dv} {fd:Nat} {N':Nand} (h:Inv fd S) (c:FdCh fd S.N N'):Inv fd {S with N:=N'}/\∀i a,Std fd S i a->Std fd {S with N:=N'} i a/\R.read N' a.block a.row a.slot a.mask=R.read S.N a.block a.row a.slot a.mask:=by
 have hoff:N'.off=false:=c.off.trans h.lit.off;have hdead:∀i:Nat,(i:Int)≠fd->N'.dead.getD i false=false:=λi hi=>by rw[c.dead i (by omega)];exact h.dead i hi
 have hpage:∀(d b r:Int),d.toNat≠fd->N'.pageAt d b r=S.N.pageAt d b r:=λd b r hd=>by
  unfold Nand.pageAt;rw[c.blk _ _ hd]
 have hfull:∀b r m l,Full fd S.N b r m l->Full fd N' b r m l:=λb r m l hF=>by
  refine⟨hF.is.like c.like,λx hx hne=>?_,λx hx y hy=>?_⟩
  ·obtain⟨t,ht⟩:=hF.good x hx hne;have:=(hF.is.inn x hx).1;exact⟨t,by rw[hpage _ _ _ (by omega)];exact ht⟩
  ·by_cases e:x.1.toNat=fd
   ·unfold Nand.pageAt at hy;rw[e]at hy;obtain⟨c0,h1,h2⟩:=c.cell _ _ y hy;refine h2 _ (hF.inn x hx c0 ?_);unfold Nand.pageAt;rw[e];exact h1
   ·rw[hpage _ _ _ e]at hy;exact hF.inn x hx y hy
 have hstd:∀i a,Std fd S i a->Std fd {S with N:=N'} i a/\R.read N' a.block a.row a.slot a.mask=R.read S.N a.block a.row a.slot a.mask:=λi a ha=>by
  obtain⟨l,g1,g2,g3,g4⟩:=ha.row;have hk:=hfull _ _ _ _ g1;have r1:=hk.read hoff hdead g3;have r2:=g1.read h.lit.off h.dead g3;rw[show((a.slot.toNat:Nat):Int)=a.slot from by omega]at r1 r2;exact⟨⟨⟨l,hk,g2,g3,g4⟩,ha.used,ha.below,ha.seq⟩,by rw[r1,r2]⟩
 have hlen:∀d j:Nat,(N'.blk d j).cells.length=(S.N.blk d j).cells.length:=λd j=>by
  by_cases e:d=fd
  ·rw[e];exact c.len j
  ·rw[c.blk d j e]
 refine⟨⟨⟨hoff,c.cuts.trans h.lit.cuts⟩,hdead,λa ha=>?_,λi j hi=>?_,h.tdead,h.tbad,?_,λb hb hu d hd=>?_,λi a ha=>(hstd i a (h.st i a ha)).1⟩,hstd⟩
 ·rcases c.plan a ha with e | e
  ·exact h.plan a e
  ·exact e
 ·show(N'.blk i j).met=false/\(N'.blk i j).fails=false;rw[c.blk i j (by omega)];exact h.flags i j hi
 ·rcases h.op with e | e
  ·exact .inl e
  ·refine .inr ⟨by have:=e.blk;show 0<=S.op/\S.op<(N'.blocks:Int);rw[c.like.blocks];exact this,e.used,by have:=e.row;show 0<=S.row/\S.row<=(N'.pages:Int);rw[c.like.pages];exact this,by have:=e.mask;show Msk N'.dies fd S.mask;rw[c.like.dies];exact this,λd hd=>?_⟩;have h1:=e.cells d hd;show((N'.blk d S.op.toNat).cells.length:Int)<=S.row/\(N'.dead.getD d false=false->((N'.blk d S.op.toNat).cells.length:Int)=S.row);rw[hlen];refine⟨h1.1,λhdd=>h1.2 ?_⟩
   by_cases e2:d=fd
   ·rw[e2]at hdd ⊢;exact c.dead2 hdd
   ·rw[<- c.dead d e2];exact hdd
 ·have h1:=h.blank b hb hu d hd;have h2:=hlen d b.toNat
  rw[h1]at h2;exact List.eq_nil_of_length_eq_zero h2
theorem FI.faulted {fd lg:Nat} {W:List (Int×En)} {F:Fv} (h:FI fd W lg F) (kind y z n xx:Int):FI fd W lg {F with S:={F.S with N:=(F.S.N.fault kind (fd:Int) y z n xx).2}}:=by
 have c:=FdCh.fault (fd:=fd) F.S.N kind y z n xx;obtain⟨h1,h2⟩:=h.inv.changed c;refine⟨h1,⟨h.hd.keys,λi e he=>?_⟩,h.wok,h.wr,h.log,?_,h.lg2,h.des,h.nd,h.off⟩
 ·obtain⟨g1,a,g2,g3⟩:=h.hd.each i e he;refine⟨g1,a,g2,?_⟩;show R.read (F.S.N.fault kind (fd:Int) y z n xx).2 _ _ _ _=_;rw[(h2 i a (h.inv.st i a g2)).2];exact g3
 ·have:=h.lgn;unfold Fv.lg at this ⊢;show((lgN (F.S.N.fault kind (fd:Int) y z n xx).2.dies (F.S.N.fault kind (fd:Int) y z n xx).2.blocks (F.S.N.fault kind (fd:Int) y z n xx).2.pages:Nat):Int)=_;rw[c.like.dies,c.like.blocks,c.like.pages];exact this
structure DevF (fd:Int) (D B P:Nat) (F:Fv) (n m:Nat) (c:Nat->List UInt8):Prop where
 fi:∃W,FI fd W (lgN D B P) F/\∀i:Nat,i<lgN D B P->cur W F.L i=c i
 ok:F.Ok (UN*n) m
 nx:F.S.next+20000000*(n:Int)<=1098000000000
 br:F.S.N.broken=0
 geo:F.S.N.dies=D/\F.S.N.blocks=B/\F.S.N.pages=P
 le:n<=54500
namespace DevF
variable {fd : Int} {D B P n m : Nat} {F : Fv} {c : Nat → List UInt8}
theorem lg (h:DevF fd D B P F n m c):F.lg=(lgN D B P:Int):=by
 obtain⟨W,hW,_⟩:=h.fi;exact hW.lgn
theorem less (h:DevF fd D B P F n m c) {k:Nat} (hk:k<=n):DevF fd D B P F k m c:=
 ⟨h.fi,h.ok.less (Nat.mul_le_mul_left _ hk),by have:=h.nx;omega,h.br,h.geo,by have:=h.le;omega⟩
theorem read (h:DevF fd D B P F n m c) (i:Int):F.read i=if i<0\/i>=(lgN D B P:Int)then(F,zeros16,3)else(F,c i.toNat,0):=by
 obtain⟨W,hW,hc⟩:=h.fi;rw[hW.read]
 by_cases hi:i<0\/i>=(lgN D B P:Int)
 ·rw[if_pos hi,if_pos hi]
 ·rw[if_neg hi,if_neg hi,<- hc i.toNat (by omega),Int.toNat_of_nonneg (by omega)]
theorem like (h:DevF fd D B P F n m c) {G:Fv} (hl:F.S.N.Like G.S.N):G.S.N.dies=D/\G.S.N.blocks=B/\G.S.N.pages=P:=
 ⟨hl.dies.trans h.geo.1,hl.blocks.trans h.geo.2.1,hl.pages.trans h.geo.2.2⟩
theorem off (h:DevF fd D B P F n m c):F.S.N.off=false:=by
 obtain⟨W,hW,_⟩:=h.fi;exact hW.inv.lit.off
theorem put (h:DevF fd D B P F (n+1) m c) {e:En} (he:0<=e.lpn->e.lpn<(lgN D B P:Int)->FitR e/\e.role≠4) (hk:(F.waits e).1.Ok (UN*n) m):
  ∃er c',(F.waits e).2=er/\DevF fd D B P (F.waits e).1 n m c'/\((er=0/\(0<=e.lpn/\e.lpn<(lgN D B P:Int))/\c'=λj=>if j=e.lpn.toNat then e.data else c j)\/((er=3/\¬(0<=e.lpn/\e.lpn<(lgN D B P:Int)))\/er=11)/\c'=c):=by
 obtain⟨W,hW,hc⟩:=h.fi;have hU:UN*(n+1)=UN*n+UN:=Nat.mul_succ _ _;have hU2:=a7H;have hnx:=h.nx;obtain⟨F',er,W',r1,r2,r3,r4,r5,r6,r7⟩:=hW.waits (k:=UN*n) (h.ok.dv.less (by omega)) (by omega) he;rw[r1]at hk ⊢;have hle:=h.le;rcases r7 with⟨q1,q2,q3,q4⟩ | ⟨q1,q2⟩
 ·exact⟨er,_,rfl,⟨⟨W',r2,λi hi=>(q4 i).trans (by
   rw[hc i hi]
   by_cases e0:i=e.lpn.toNat
   ·rw[if_pos e0,if_pos (by omega)]
   ·rw[if_neg e0,if_neg (by omega)])⟩,hk,by dsimp only;omega,r5.trans h.br,h.like r6,by omega⟩, .inl ⟨q1,⟨q2,q3⟩,rfl⟩⟩
 ·exact⟨er,c,rfl,⟨⟨W',r2,λi hi=>(q2 i).trans (hc i hi)⟩,hk,by dsimp only;omega,r5.trans h.br,h.like r6,by omega⟩, .inr ⟨q1,rfl⟩⟩
theorem write (h:DevF fd D B P F (n+1) m c) (i:Int) {d:List UInt8} (hd:d.length=16):
  ∃er c',(F.write i d).2=er/\DevF fd D B P (F.write i d).1 n m c'/\((er=0/\(0<=i/\i<(lgN D B P:Int))/\c'=λj=>if j=i.toNat then d else c j)\/((er=3/\¬(0<=i/\i<(lgN D B P:Int)))\/er=11)/\c'=c):=by
 have h200:=(Fv.lg_bd (F:=F) h.ok.dv.gd.ok).2;rw[h.lg]at h200;have hU:UN*(n+1)=UN*n+UN:=Nat.mul_succ _ _;exact h.put (e:=⟨i,0,1,d⟩) (λa b=>⟨⟨⟨a,by show i<=65535;have b:i<(lgN D B P:Int):=b;omega⟩, .inl rfl,hd⟩,by show(1:Int)≠4;decide⟩) (Fv.write_keep (k:=UN*n) (h.ok.less (by unfold UN at hU ⊢;omega)) i hd).1
theorem trim (h:DevF fd D B P F (n+1) m c) (i:Int):
  ∃er c',(F.trim i).2=er/\DevF fd D B P (F.trim i).1 n m c'/\((er=0/\(0<=i/\i<(lgN D B P:Int))/\c'=λj=>if j=i.toNat then zeros16 else c j)\/((er=3/\¬(0<=i/\i<(lgN D B P:Int)))\/er=11)/\c'=c):=by
 have h200:=(Fv.lg_bd (F:=F) h.ok.dv.gd.ok).2;rw[h.lg]at h200;have hU:UN*(n+1)=UN*n+UN:=Nat.mul_succ _ _;exact h.put (e:=⟨i,0,2,zeros16⟩) (λa b=>⟨⟨⟨a,by show i<=65535;have b:i<(lgN D B P:Int):=b;omega⟩, .inr ⟨.inl rfl,rfl⟩,rfl⟩,by show(2:Int)≠4;decide⟩) (Fv.trim_keep (k:=UN*n) (h.ok.less (by unfold UN at hU ⊢;omega)) i).1
theorem flush (h:DevF fd D B P F (n+200) m c):∃er,F.flush.2=er/\DevF fd D B P F.flush.1 n m c/\(er=0/\F.flush.1.L=[]\/er=11):=by
 obtain⟨W,hW,hc⟩:=h.fi;have hU:UN*(n+200)=UN*n+UN*200:=Nat.mul_add _ _ _;have hf:=a7G;have hf2:=b1h;have hnx:=h.nx;have hk:=(Fv.flush_keep (k:=UN*n) (m:=m) (h.ok.less (by omega))).1;obtain⟨F',er,W',r1,r2,_,r4,r5,r6,r7,r8⟩:=hW.flush (k:=UN*n) (h.ok.dv.less (by omega)) (by omega);rw[r1]at hk ⊢;exact⟨er,rfl,⟨⟨W',r2,λi hi=>(r8 i).trans (hc i hi)⟩,hk,by dsimp only;omega,r5.trans h.br,h.like r6,by have:=h.le;omega⟩,r7⟩
theorem tick (h:DevF fd D B P F (n+2) m c):∃er,F.tick.2=er/\DevF fd D B P F.tick.1 n m c/\(er=0\/er=11):=by
 obtain⟨W,hW,hc⟩:=h.fi;have hU:UN*(n+2)=UN*n+UN*2:=Nat.mul_add _ _ _;have hUe:=a7H;have hS:Dv.costS<=UN*2:=by
  have:Dv.costC<=Dv.costM:=by unfold Dv.costM Dv.costR;omega
  unfold Dv.costS;omega
 have hnx:=h.nx;have hk:=(Fv.tick_keep (k:=UN*n) (m:=m) (h.ok.less (by omega))).1;obtain⟨F',er,r1,r2,r3,r4,r5,r6,r7,r8⟩:=hW.tick (k:=UN*n) (h.ok.dv.less (by omega)) (by omega);rw[r1]at hk ⊢;exact⟨er,rfl,⟨⟨W,r3,λi hi=>by dsimp only;rw[r8];exact hc i hi⟩,hk,by dsimp only;omega,r6.trans h.br,h.like r7,by have:=h.le;omega⟩,r2⟩
theorem faulted {d:Nat} (h:DevF d D B P F n m c) (kind y z a b:Int):DevF d D B P {F with S:={F.S with N:=(F.S.N.fault kind (d:Int) y z a b).2}} n (m+1) c:=by
 obtain⟨W,hW,hc⟩:=h.fi;have hl:=Nand.like_fault F.S.N kind (d:Int) y z a b;have hG:(F.S.N.fault kind (d:Int) y z a b).2.Gd (UN*n) (m+1):=V4 h.ok.dv.gd [⟨0,kind,d,y,z,a,b⟩];have hb:=(FdCh.fault (fd:=d) F.S.N kind y z a b).broken;exact⟨⟨W,hW.faulted kind y z a b,hc⟩,⟨⟨hG,h.ok.dv.t.like hl,h.ok.dv.T,h.ok.dv.sl,h.ok.dv.row,h.ok.dv.next⟩,h.ok.dat,λe he=>by
  have:=h.ok.rng e he;unfold Fv.lg at this ⊢;show 0<=e.lpn/\e.lpn<((lgN (F.S.N.fault kind (d:Int) y z a b).2.dies (F.S.N.fault kind (d:Int) y z a b).2.blocks (F.S.N.fault kind (d:Int) y z a b).2.pages:Nat):Int);rw[a3s hl];exact this,h.ok.nd,h.ok.nx⟩,h.nx,hb.trans h.br,h.like (G:={F with S:={F.S with N:=(F.S.N.fault kind (d:Int) y z a b).2}}) hl,h.le⟩
theorem new (fd:Int) (hD:3<=D/\D<=6) (hB:8<=B/\B<=16) (hP:2<=P/\P<=8) (hlg:lgN D B P<=200) (hgm:l9 D B P=true):DevF fd D B P (Fv.of (Dv.new D B P (lgN D B P))) 54500 0 (λ_=>zeros16):=
 ⟨⟨[],FI.new fd hD hB hP hlg,λ_ _=>rfl⟩,Fv.of_ok (Dv.Ok.new D B P _ hgm _ (b5S (by decide))) (b5S (by decide)),by show(1:Int)+20000000*((54500:Nat):Int)<=_;omega,rfl,⟨rfl,rfl,rfl⟩,Nat.le_refl _⟩
end DevF
namespace Mono
end Mono
def Fv.ticksG:Nat->Int->Fv->Fv×Int
 | 0,i,Z=>(Z.whole.1,if Z.whole.2 then i else-1)
 | f+1,i,Z=>if Z.whole.2 then(Z.whole.1,i)else if Z.whole.1.tick.2≠0 then(Z.whole.1.tick.1,-1)else Fv.ticksG f (i+1) Z.whole.1.tick.1
theorem Fv.ticksG_succ (f:Nat) (i:Int) (Z:Fv):Fv.ticksG (f+1) i Z=if Z.whole.2 then(Z.whole.1,i)else if Z.whole.1.tick.2≠0 then(Z.whole.1.tick.1,-1)else Fv.ticksG f (i+1) Z.whole.1.tick.1:=rfl
def a4J (most:Int):Nat:=(min (max most 0) 10000).toNat
def Fv.ticks (Z:Fv) (most:Int):Fv×Int:=Fv.ticksG (a4J most) 0 Z
theorem b3G (f p n t l d:Nat) (Z:Fv) (k m:Nat) (most:Int) (hO:Z.Ok (Dv.costS*a4J most+k) m) (hm:m<=1000):FP 99 [pp f,iI most] (FvP f p n t l d Z)
  (Ps (iI (Z.ticks most).2) (FvP f p n t l d (Z.ticks most).1)):=by
 obtain⟨M,hM⟩:∃M,a4J most=M:=⟨_,rfl⟩;have hMM:min (max most 0) 10000=(M:Int):=by rw[<- hM];unfold a4J;omega
 have hM1:M<=10000:=by omega
 rw[show Z.ticks most=Fv.ticksG M 0 Z from by unfold Fv.ticks;rw[hM]];rw[hM]at hO;refine FE [2,0] Tryz.func99 λX F hX=>?_;refine J.qn 9 λ_=>?_;have e:(if(10000:Int)<if(0:Int)>most then 0 else most then 10000 else if(0:Int)>most then 0 else most)=(M:Int):=by
  rw[<- hMM];split<;>split<;>omega
 rw[e];refine J.q λ_=>?_;refine J.l (α:=(Nat×Fv)) (λz=>(z.1<=M/\z.2.Ok (Dv.costS*(M-z.1)+k) m/\Fv.ticksG M 0 Z=Fv.ticksG (M-z.1) z.1 z.2)\/(z.1=M+1/\Fv.ticksG M 0 Z=(z.2,-1))) (λz=>[si 11 z.1,⟨10,iI ((M:Int)+1),0, .tt⟩,⟨0,pp f,2, .tt⟩,si 1 M]) [1,2,3,4,5,6] (λz=>FvP f p n t l d z.2) (λz=>M+1-z.1) ((0,Z)) (.inl ⟨Nat.zero_le _,hO,rfl⟩) λz hI=>?_;obtain⟨j,Y⟩:=z;dsimp only at hI ⊢;refine J.qd (λ_ h1=>?_) λ_ h1=>?_
 ·simp only[decide_eq_true_eq]at h1;obtain⟨hj,hY,hgo⟩:j<=M/\Y.Ok (Dv.costS*(M-j)+k) m/\Fv.ticksG M 0 Z=Fv.ticksG (M-j) j Y:=by
   rcases hI with h | h
   ·exact h
   ·omega
  have hw:=Fv.whole_keep hY;refine J.qp (b3o f p n t l d Y _ m hY) [1,2,3,4,5,6] λ_=>?_;obtain⟨W,hW⟩:∃W,Y.whole=W:=⟨_,rfl⟩;rw[hW]at hw ⊢;obtain⟨Y1,wb⟩:=W;dsimp only at hw ⊢;refine J.qd (λ_ h2=>?_) λ_ h2=>?_
  ·have hr:Fv.ticksG (M-j) j Y=(Y1,(j:Int)):=by
    cases hc:M-j with
    | zero=>show(Y.whole.1,if Y.whole.2 then(j:Int)else-1)=_;rw[hW,if_pos h2]
    | succ c=>rw[Fv.ticksG_succ,hW,if_pos h2]
   refine J.qr [1,2,3,4,5,6] λ_=>?_;rw[hgo,hr];exact⟨rfl,rfl⟩
  refine J.qn 6 λ_=>?_;rcases Nat.lt_or_ge j M with hjM | hjM
  ·rw[show decide ((j:Int)<(M:Int))=true from decide_eq_true (by omega)];obtain⟨c,hc⟩:∃c,M-j=c+1:=⟨M-j-1,by omega⟩;have hO1:Y1.Ok (Dv.costS+(Dv.costS*c+k)) m:=hw.1.less (by rw[hc,Nat.mul_succ];omega);have htk:=Fv.tick_keep hO1;refine J.qp (a9w f p n t l d Y1 _ m hO1 hm) [1,2,3,4,5,6] λ_=>?_;have hr:Fv.ticksG (M-j) j Y=if Y1.tick.2≠0 then(Y1.tick.1,-1)else Fv.ticksG c (j+1) Y1.tick.1:=by
    rw[hc,Fv.ticksG_succ,hW,if_neg (by rw[h2];exact Bool.false_ne_true)]
   obtain⟨W,hW2⟩:∃W,Y1.tick=W:=⟨_,rfl⟩;rw[hW2]at htk hr ⊢;obtain⟨Y2,er⟩:=W;dsimp only at htk hr ⊢;refine J.qd (λ_ h3=>?_) λ_ h3=>?_
   ·have he:er≠0:=by simpa using h3
    rw[if_pos he]at hr;refine J.qr [1,2,3,4,5,6] λ_=>?_;rw[hgo,hr];exact⟨rfl,rfl⟩
   ·have he:er=0:=by simpa using h3
    rw[if_neg (λh=>h he)]at hr;refine J.q λ_=>?_;refine J.n ((j+1,Y2)) (.inl ⟨by dsimp only;omega,by dsimp only;rw[show M-(j+1)=c from by omega];exact htk.1,by dsimp only;rw[show M-(j+1)=c from by omega,hgo,hr];rfl⟩) (by dsimp only;omega) [0,1,2,3,4,5,6]
  ·obtain rfl:j=M:=by omega
   rw[show decide ((j:Int)<(j:Int))=false from decide_eq_false (by omega)];refine J.q λ_=>?_;refine J.v (iI 0) rfl rfl (λhg a w he hw=>by simp[G.on]at hg) ?_;refine J.qF λ_=>?_;refine J.q λ_=>?_;refine J.n ((j+1,Y1)) (.inr ⟨rfl,by rw[hgo,Nat.sub_self];show(Y.whole.1,if Y.whole.2 then(j:Int)else-1)=_;rw[hW,if_neg (by rw[h2];exact Bool.false_ne_true)]⟩) (by dsimp only;omega) [0,1,2,3,4,5,6]
 simp only[decide_eq_false_iff_not]at h1;obtain⟨rfl,hgo⟩:j=M+1/\Fv.ticksG M 0 Z=(Y,-1):=by
  rcases hI with h | h
  ·omega
  ·exact h
 refine J.qr [1,2,3,4,5,6] λ_=>?_;rw[hgo];exact⟨rfl,rfl⟩
def flS:Stp:=⟨4,0,zd,0,0,dF⟩
theorem Pv.step_flush (P:Pv) (Z:Fv) (hZ:P.Z=some Z) (s:Stp) (hs:s.fn=4):P.step s=(⟨C6 Z.S.N.ops P.L,P.log++[⟨(Z.setN (D7 Z.S.N (s6 Z.S.N.ops P.L))).flush.2,zd⟩],some (Z.setN (D7 Z.S.N (s6 Z.S.N.ops P.L))).flush.1,P.M⟩,⟨(Z.setN (D7 Z.S.N (s6 Z.S.N.ops P.L))).flush.2,zd⟩):=by
 have hnd:P.nd=Z.S.N:=by unfold Pv.nd;rw[hZ]
 have hrun:P.run=⟨C6 Z.S.N.ops P.L,P.log,some (Z.setN (D7 Z.S.N (s6 Z.S.N.ops P.L))),P.M⟩:=by unfold Pv.run;rw[hnd];unfold Pv.setN;rw[hZ]
 have hd:P.run.does s=({P.run with Z:=some (Z.setN (D7 Z.S.N (s6 Z.S.N.ops P.L))).flush.1},⟨(Z.setN (D7 Z.S.N (s6 Z.S.N.ops P.L))).flush.2,zd⟩):=by
  rw[hrun];unfold Pv.does;rw[if_neg (by rw[hs];decide),if_neg (by rw[hs];decide),if_neg (by rw[hs];decide),if_pos hs]
 unfold Pv.step;rw[hd,hrun]
theorem b5y (q n:Nat) (A:Pad) (P:Pv) (hA:A.Ok P) (Z:Fv) (hZ:P.Z=some Z) (most:Int) (k m:Nat) (hO:Z.Ok (Fv.cW*200+(Dv.costS+(Dv.costK+(1+(Dv.costS*a4J most+k))))) m) (hoff:Z.S.N.off=false) (hm:m+(s6 Z.S.N.ops P.L).length<=1000) (hL:P.L.length<=1000) (hlg:P.log.length<=1000) (Z1:Fv) (hZ1:(P.step flS).1.Z=some Z1):FP 54 [pp q,iI most] (I5 q n A P)
  (λv As=>∃A':Pad,v= .bool (decide ((Z1.ticks most).2>=0))/\A'.Ok {(P.step flS).1 with Z:=some (Z1.ticks most).1}/\As=I5 q n A' {(P.step flS).1 with Z:=some (Z1.ticks most).1}):=by
 have hsf:=Pv.step_flush P Z hZ flS rfl;obtain⟨D,hD⟩:∃D,s6 Z.S.N.ops P.L=D:=⟨_,rfl⟩;rw[hD]at hm hsf;have hO2:(Z.setN (D7 Z.S.N D)).Ok (Fv.cW*200+(Dv.costS+(Dv.costK+(1+(Dv.costS*a4J most+k))))) (m+D.length):=hO.setN (a0N _ _) (V4 hO.dv.gd D);have hkp:=Fv.flush_keep hO2;have hz1:Z1=(Z.setN (D7 Z.S.N D)).flush.1:=by rw[hsf]at hZ1;injection hZ1 with e;exact e.symm
 rw[<- hz1]at hkp;have hst:=a0K q n A P hA Z hZ _ m hO (by rw[hD];exact hm) hL hlg flS rfl;have hone:(P.step flS).1=⟨C6 Z.S.N.ops P.L,(P.step flS).1.log,some Z1,P.M⟩:=by rw[hsf,hz1]
 have hpl:I5 q n A P=[PlQ q n (some Z) A.f (pp A.fp) (slv A.a2 P.log.length A.c2), .pt A.fp 176 [.slice (p9 A.a) P.L.length A.c],rdA (p9 A.a) 7 P.L.length (d5 P.L),c8 50 17 A.a2 P.log.length A.c2 (s5 P.log)]++FvP A.f A.p n A.t A.l A.d Z:=by unfold I5 B8;rw[hZ];rfl
 rw[hpl]at hst ⊢;refine FE [2,0] Tryz.func54 λX F hX=>?_;refine J.qp (P7 q n (flP (some Z) A.f) (pp A.fp) (slv A.a2 P.log.length A.c2)) [1] λ_=>?_;refine J.qp (L5 n Z.S.N) [7] λ_=>?_;rw[hoff];refine J.qp (a2U q n (some Z) A.f (pp A.fp) (slv A.a2 P.log.length A.c2)) [1] λ_=>?_;refine J.qF λ_=>?_;refine J.qc (hst) [1,2,3,4,5,6,7,8,9,10] λ_=>?_;rintro v As ⟨A',rfl,hA',rfl⟩;rw[hone]at hA' ⊢;refine⟨_,rfl,trivial,?_⟩;refine J.qp (a2U q n (some Z1) A'.f (pp A'.fp) (slv A'.a2 (P.step flS).1.log.length A'.c2)) [1] λ_=>?_;refine J.qp (b3G A'.f A'.p n A'.t A'.l A'.d Z1 k (m+D.length) most (hkp.1.less (by omega)) hm) [5,6,7,8,9,10] λ_=>?_;refine J.qr [1,2,3,4,5,6,7,8,9,10] λ_=>?_;refine⟨A',rfl,?_,?_⟩
 ·rw[hone];exact⟨hA'.z,hA'.c⟩
 ·rw[hone];rfl
theorem a6i:Fv.cW*200+(Dv.costS+(Dv.costK+(1+0)))<=UN*605:=by
 have h1:=a7G;have h2:=b3S;have h3:Dv.costS<=UN*2:=by
  have:Dv.costC<=Dv.costM:=by unfold Dv.costM Dv.costR;omega
  have:=a7H;unfold Dv.costS;omega
 have h4:=b3R;omega
namespace Pq
variable {D B Pg u i : Nat} {v : Int} {P : Pv} {Z : Fv}
end Pq
end Go.Proofs.YtnffkcabeecopaaGreat
