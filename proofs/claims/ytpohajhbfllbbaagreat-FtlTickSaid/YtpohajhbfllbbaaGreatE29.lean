/- Helpers. No condition. -/
import Derived.Test.YtpohajhbfllbbaaGreatE12
import Derived.Test.YtpohajhbfllbbaaGreatE19
import Derived.Test.YtpohajhbfllbbaaGreatE25
import Derived.Test.YtpohajhbfllbbaaGreatE27
import Derived.Test.YtpohajhbfllbbaaGreatE28
set_option maxRecDepth 20000
set_option linter.all false
namespace Go.Proofs.YtpohajhbfllbbaaGreat
open Go
namespace Inv
variable {fd : Int} {S : Dv} {k m : Nat}
theorem msk2 (h:Inv fd S) (hF:S.t.Fit S.N) (h6:3<=S.N.dies/\S.N.dies<=6) {b:Int} (hb:S.t.has b=true):Msk S.N.dies fd (S.t.mask b):=by
 have hd:=hF.d;obtain⟨m1,m2⟩:=A6 (by omega) hb h.tdead.1 (h.tbad b hb).1;refine⟨m1,λd hh=>?_,λd hlt hne=>?_⟩
 ·rw[m2]at hh;simp only[Bool.and_eq_true,decide_eq_true_eq]at hh;omega
 ·rw[m2,decide_eq_true (p:=(0:Int)<=(d:Int)) (by omega),decide_eq_true (p:=(d:Int)<S.t.d) (by omega)];have e1:L.has S.t.dead (d:Nat)=false:=by
   cases hh:L.has S.t.dead (d:Nat)with
   | false=>rfl
   | true=>exact absurd (h.tdead.2 _ hh) hne
  have e2:L.has (S.t.at_ b).bad (d:Nat)=false:=by
   cases hh:L.has (S.t.at_ b).bad (d:Nat)with
   | false=>rfl
   | true=>exact absurd ((h.tbad b hb).2 _ hh) hne
  rw[e1,e2];rfl
theorem usable2 (h:Inv fd S) (hF:S.t.Fit S.N) (h6:3<=S.N.dies/\S.N.dies<=6) {b:Int} (hb:S.t.has b=true):S.t.usable b=true:=by
 have:=((h.msk2 hF h6 hb).pos h6).1;unfold Tl.usable;exact decide_eq_true (by omega)
theorem wores_more (h:Inv fd S) (hF:S.t.Fit S.N) (h6:S.N.dies<=6) (N':Nand) (b:Int):∀(q:List Nat) (t:Tl),TlMore fd S.t t->t.Fit S.N->TlMore fd S.t (q.foldl (λt (d:Nat)=>t.wore b (N'.wornAt d b)) t)/\(q.foldl (λt (d:Nat)=>t.wore b (N'.wornAt d b)) t).Fit S.N/\(∀x,x≠b->t.has x=true->(q.foldl (λt (d:Nat)=>t.wore b (N'.wornAt d b)) t).at_ x=t.at_ x)/\(q.foldl (λt (d:Nat)=>t.wore b (N'.wornAt d b)) t).blanks=t.blanks
 | [],t,hT,hF2=>⟨hT,hF2,λ_ _ _=>rfl,rfl⟩
 | d::q,t,hT,hF2=>by
  have h1:TlMore fd t (t.wore b (N'.wornAt d b)):=b0c hF2.len (by have:=hF2.d;omega) hT.tdead (λx hx=>hT.tbad x (by rw[<- hT.has];exact hx)) _ _ (λ_=>⟨rfl,rfl,rfl⟩);have ih:=wores_more h hF h6 N' b q (t.wore b (N'.wornAt d b)) (hT.trans h1) (hF2.wore _ _);rw[List.foldl_cons];refine⟨ih.1,ih.2.1,λx hx hhx=>?_,ih.2.2.2.trans (Tl.blanks_same hF2.len _ _ rfl)⟩;rw[ih.2.2.1 x hx (by unfold Tl.wore;rw[Tl.has_set];exact hhx)];unfold Tl.wore;cases hb:t.has b with
  | false=>rw[Tl.set_no _ hb]
  | true=>rw[Tl.at_set hF2.len _ hb hhx,if_neg hx]
theorem blanks_more {fd:Int} {t t':Tl} (h:TlMore fd t t') (hl:t.l.length=t.b) (hl':t'.l.length=t'.b) (hb:t'.b=t.b):t'.blanks=t.blanks:=by
 unfold Tl.blanks;have e:t'.l.map (·.used)=t.l.map (·.used):=by
  apply List.ext_getElem?;intro i;rw[List.getElem?_map,List.getElem?_map]
  by_cases hi:i<t.l.length
  ·have hhas:t.has (i:Nat)=true:=Tl.has_iff.2 (by omega);have:=h.used (i:Nat) hhas;unfold Tl.at_ at this;rw[Int.toNat_natCast,List.getD_eq_getElem?_getD,List.getD_eq_getElem?_getD,List.getElem?_eq_getElem hi,List.getElem?_eq_getElem (by omega)]at this;rw[List.getElem?_eq_getElem hi,List.getElem?_eq_getElem (by omega)];exact congrArg some this
  ·rw[List.getElem?_eq_none (by omega),List.getElem?_eq_none (by omega)]
 have h1:∀l:List Sb,(l.countP λs=>!s.used)=(l.map (·.used)).countP λu=>!u:=λl=>by rw[List.countP_map];rfl
 rw[h1,h1,e]
structure Erased (fd:Int) (S:Dv) (b:Int) (N':Nand) (t':Tl):Prop where
 inv:Inv fd {S with N:=N',t:=t'}
 fit:t'.Fit N'
 er:ErN fd S.N N' b
 reads:∀i a,Std fd S i a->a.block≠b->Std fd {S with N:=N',t:=t'} i a/\R.read N' a.block a.row a.slot a.mask=R.read S.N a.block a.row a.slot a.mask
 blank:(t'.at_ b).used=false
 rest:∀x,S.t.has x=true->x≠b->(t'.at_ x).used=(S.t.at_ x).used
 held:∀x,S.t.has x=true->(t'.at_ x).held=(S.t.at_ x).held
 blanks:t'.blanks=S.t.blanks+1
 td:∀e:Int,L.has S.t.dead e=true->L.has t'.dead e=true
 exact_:a9a S.N->a9a N'/\N'.ops=S.N.ops+(a4B (S.t.mask b) (List.range S.N.dies):Int)/\(∀d:Nat,d<S.N.dies->L.has (S.t.mask b) (d:Nat)=true->(N'.blk d b.toNat).worn=(S.N.blk d b.toNat).worn+1)/\t'=(Dv.wores N' S.t b).clean b true
theorem erase_spec {b:Int} (h:Er fd S b):∃N' t',Dv.erase S.N S.t b=(N',t',0)/\Erased fd S b N' t':=by
 obtain⟨N1,t1,f1,g1⟩:=eraseQ_spec (mk:=S.t.mask b) (List.range S.N.dies) S h (λd hd=>List.mem_range.1 hd) List.nodup_range;obtain⟨p1,p2⟩:=h.put g1.er g1.more g1.fit;have hF1:t1.Fit N1:=g1.fit.like g1.er.like;have h6:3<=N1.dies/\N1.dies<=6:=p1.six;obtain⟨w1,w2,w3,w4⟩:=wores_more p1.inv hF1 h6.2 N1 b (List.range N1.dies) t1 (TlMore.refl p1.inv.tdead p1.inv.tbad) hF1;have hw:(List.range N1.dies).foldl (λt (d:Nat)=>t.wore b (N1.wornAt d b)) t1=Dv.wores N1 t1 b:=rfl;rw[hw]at w1 w2 w3 w4;obtain⟨T2,hT2⟩:∃T2,Dv.wores N1 t1 b=T2:=⟨_,rfl⟩;rw[hT2]at w1 w2 w3 w4;have w1:TlMore fd t1 T2:=w1;have w2:T2.Fit N1:=w2;have hTm:TlMore fd S.t T2:=g1.more.trans w1;have hF2:T2.Fit S.N:=⟨w2.d.trans g1.er.like.dies,w2.b.trans g1.er.like.blocks,w2.p.trans g1.er.like.pages,w2.len⟩;obtain⟨r1,r2⟩:=h.put g1.er hTm hF2;have hus:T2.usable b=true:=r1.inv.usable2 w2 h6 r1.has;have hhas:T2.has b=true:=r1.has;have hmk:∀j,(T2.clean b true).mask j=T2.mask j:=λj=>Dv.mask_clean w2.len _ _ _;have hat:∀x,T2.has x=true->(T2.clean b true).at_ x=if x=b then {T2.at_ b with used:=false}else T2.at_ x:=λx hx=>Tl.at_set w2.len _ hhas hx
 have hfin:Dv.erase S.N S.t b=(N1,T2.clean b true,0):=by
  unfold Dv.erase Dv.eraseB;rw[f1];dsimp only;rw[if_neg (by simp)];unfold Dv.eraseT;rw[hT2,if_pos hus]
 have hdd:(T2.clean b true).dead=T2.dead:=Tl.set_dead _ _ _;have hhs:∀x,(T2.clean b true).has x=T2.has x:=λx=>Tl.has_set _ _ _ _;have hstd:∀i a,Std fd {S with N:=N1,t:=T2} i a->a.block≠b->Std fd {S with N:=N1,t:=T2.clean b true} i a:=λi a ha hab=>by
  obtain⟨lr,q1,q2⟩:=ha.row;have hx:T2.has a.block=true:=Tl.has_iff.2 (by
   have h1:=q1.is.blk;have h2:=w2.b;have h1:0<=a.block/\a.block<N1.blocks:=h1;omega)
  exact⟨⟨lr,q1,q2⟩,by show((T2.clean b true).at_ a.block).used=true;rw[hat _ hx,if_neg hab];exact ha.used,ha.below,ha.seq⟩
 refine⟨N1,T2.clean b true,hfin,⟨⟨r1.inv.lit,r1.inv.dead,r1.inv.plan,r1.inv.flags,by show L.set (T2.clean b true).dead=true/\_;rw[hdd];exact r1.inv.tdead,λx hx=>?_,?_,λx hx hxu d hd=>?_,λi a ha=>hstd i a (r1.inv.st i a ha) (h.emp i a ha)⟩,w2.clean _ _,g1.er,λi a ha hab=>⟨hstd i a (r2 i a ha hab).1 hab,(r2 i a ha hab).2⟩,?_,λx hx hne=>?_,λx hx=>?_,?_,λe he=>by rw[hdd];exact hTm.td e he,λhn=>?_⟩⟩
 ·have hx':T2.has x=true:=by rw[<- hhs];exact hx
  show L.set ((T2.clean b true).at_ x).bad=true/\∀d:Int,L.has ((T2.clean b true).at_ x).bad d=true->d=fd;rw[hat x hx'];split
  ·exact r1.inv.tbad b hhas
  ·exact r1.inv.tbad x hx'
 ·rcases r1.inv.op with e | e
  ·exact .inl e
  ·right;have hx:T2.has S.op=true:=Tl.has_iff.2 (by
    have h1:=e.blk;have h2:=w2.b;have h1:0<=S.op/\S.op<N1.blocks:=h1;omega)
   exact⟨e.blk,by show((T2.clean b true).at_ S.op).used=true;rw[hat _ hx,if_neg (λe2=>h.ne e2.symm)];exact e.used,e.row,e.mask,e.cells⟩
 ·have hx':T2.has x=true:=by rw[<- hhs];exact hx
  have hd2:L.has (T2.mask x) (d:Nat)=true:=by rw[<- hmk];exact hd
  have hxu2:((T2.clean b true).at_ x).used=false:=hxu;rw[hat x hx']at hxu2;split at hxu2
  ·rename_i e;subst e;have hm:=hTm.mask x h.has _ hd2;have hdl:=(h.inv.msk2 h.fit h.six h.has).lt _ hm;rcases g1.done d (List.mem_range.2 (by omega)) hm with hc | hc
   ·exact hc
   ·have:=w1.mask x (by rw[g1.more.has];exact h.has) _ hd2;rw[hc]at this;cases this
  ·exact r1.inv.blank x hx' hxu2 d hd2
 ·rw[hat b hhas,if_pos rfl]
 ·have hx':T2.has x=true:=by rw[hTm.has];exact hx
  rw[hat x hx',if_neg hne];exact hTm.used x hx
 ·have hx':T2.has x=true:=by rw[hTm.has];exact hx
  rw[hat x hx'];split
  ·rename_i e;rw[e];exact hTm.held b h.has
  ·exact hTm.held x hx
 ·have h1:T2.blanks=S.t.blanks:=blanks_more hTm h.fit.len w2.len (by have:=hF2.b;have:=h.fit.b;omega);have hub:(T2.at_ b).used=true:=by rw[hTm.used b h.has];exact h.used
  have:=Tl.countP_set (λs:Sb=>!s.used) (T2.at_ b) {T2.at_ b with used:=!true} T2.l b.toNat (Tl.get_at w2.len hhas);have e1:(T2.clean b true).blanks=(T2.l.set b.toNat {T2.at_ b with used:=!true}).countP (λs:Sb=>!s.used):=by unfold Tl.clean Tl.set Tl.blanks;rw[if_pos hhas]
  have e2:T2.blanks=T2.l.countP (λs:Sb=>!s.used):=rfl;rw[<- e1,<- e2,hub]at this;simp only[Bool.not_true,Bool.not_false,Bool.false_eq_true,if_false,if_true]at this;omega
 ·obtain⟨x1,x2,x3,x4⟩:=g1.exact_ hn;exact⟨x2,x3,λd hd hm=>x4 d (List.mem_range.2 hd) hm,by rw[<- hT2,x1]⟩
end Inv
namespace Inv
variable {fd : Int} {S : Dv} {k m : Nat}
structure Cleared (fd:Int) (S:Dv) (l:List Int) (N':Nand) (t':Tl):Prop where
 inv:Inv fd {S with N:=N',t:=t'}
 fit:t'.Fit N'
 lit:N'.Lit
 like:S.N.Like N'
 dead:N'.dead=S.N.dead
 broken:N'.broken=S.N.broken
 plan:∀a∈N'.plan,a∈S.N.plan
 reads:∀i a,Std fd S i a->a.block∉l->Std fd {S with N:=N',t:=t'} i a/\R.read N' a.block a.row a.slot a.mask=R.read S.N a.block a.row a.slot a.mask
 has:∀x,t'.has x=S.t.has x
 blank:∀b∈l,(t'.at_ b).used=false
 rest:∀x,S.t.has x=true->x∉l->(t'.at_ x).used=(S.t.at_ x).used
 held:∀x,S.t.has x=true->(t'.at_ x).held=(S.t.at_ x).held
 blanks:t'.blanks=S.t.blanks+l.length
 td:∀e:Int,L.has S.t.dead e=true->L.has t'.dead e=true
 nofl:a9a S.N->a9a N'/\∀i j:Nat,(N'.blk i j).met=(S.N.blk i j).met
theorem clearGo_spec:∀(l:List Int) (S:Dv),(∀b∈l,Er fd S b)->l.Nodup->Inv fd S->S.t.Fit S.N->∃N' t',Dv.clearGo l S.N S.t=(N',t',0)/\Cleared fd S l N' t'
 | [],S,_,_,h,hF=>⟨S.N,S.t,rfl,h,hF,h.lit,Nand.Like.refl _,rfl,rfl,λ_ h=>h,λi a ha _=>⟨ha,rfl⟩,λ_=>rfl,λb hb=>(by cases hb),λ_ _ _=>rfl,λ_ _=>rfl,rfl,λ_ h=>h,λhn=>⟨hn,λ_ _=>rfl⟩⟩
 | b::l,S,hl,hnd,h,hF=>by
  have hb:=hl b (by simp);have hnd2:=List.nodup_cons.1 hnd;obtain⟨N1,t1,f1,g1⟩:=erase_spec hb;have hhas1:∀x,t1.has x=S.t.has x:=λx=>by
   unfold Tl.has;rw[show t1.b=S.t.b from by rw[g1.fit.b,hF.b,g1.er.like.blocks]]
  obtain⟨N2,t2,f2,g2⟩:=clearGo_spec l {S with N:=N1,t:=t1} (λx hx=>by
   have hx':=hl x (by simp[hx]);have hne:x≠b:=λe=>hnd2.1 (by rw[<- e];exact hx);exact⟨g1.inv,g1.fit,by show t1.has x=true;rw[hhas1];exact hx'.has,hx'.ne,hx'.emp,by show(t1.at_ x).used=true;rw[g1.rest x hx'.has hne];exact hx'.used,by show 3<=N1.dies/\N1.dies<=6;rw[g1.er.like.dies];exact hx'.six,by show 0<N1.pages;rw[g1.er.like.pages];exact hx'.pages⟩) hnd2.2 g1.inv g1.fit
  have l2:N1.Like N2:=g2.like;have d2:N2.dead=N1.dead:=g2.dead;have b2:N2.broken=N1.broken:=g2.broken;have bl2:t2.blanks=t1.blanks+l.length:=g2.blanks;refine⟨N2,t2,?_,g2.inv,g2.fit,g2.lit,g1.er.like.trans l2,d2.trans g1.er.dead,b2.trans g1.er.broken,λa ha=>g1.er.plan a (g2.plan a ha),λi a ha hab=>?_,λx=>(g2.has x).trans (hhas1 x),λx hx=>?_,λx hx hxl=>?_,λx hx=>?_,by rw[bl2,g1.blanks,List.length_cons];omega,λe he=>g2.td e (g1.td e he),λhn=>?_⟩
  ·rw[Dv.clearGo,f1];dsimp only;rw[if_neg (by simp)];exact f2
  ·have r1:=g1.reads i a ha (λe=>hab (by rw[e];simp));have r2:=g2.reads i a r1.1 (λe=>hab (by simp[e]));exact⟨r2.1,r2.2.trans r1.2⟩
  ·rcases List.mem_cons.1 hx with rfl | hx
   ·have:=g2.rest x (by show t1.has x=true;rw[hhas1];exact hb.has) hnd2.1;rw[this];exact g1.blank
   ·exact g2.blank x hx
  ·have h1:=g2.rest x (by show t1.has x=true;rw[hhas1];exact hx) (λe=>hxl (by simp[e]));rw[h1];exact g1.rest x hx (λe=>hxl (by simp[e]))
  ·rw[g2.held x (by show t1.has x=true;rw[hhas1];exact hx)];exact g1.held x hx
  ·obtain⟨n1,_⟩:=g1.exact_ hn;obtain⟨n2,n3⟩:=g2.nofl n1;exact⟨n2,λi j=>(n3 i j).trans (g1.er.nof hn.2 i j).1⟩
theorem pkSome_nodup (kind:Int->Bool) (o:Int) (n:Nat):(f8 kind o n).Nodup:=by
 unfold f8;rw[List.nodup_iff_pairwise_ne,List.pairwise_map];exact(List.Pairwise.filter _ (List.nodup_iff_pairwise_ne.1 List.nodup_range)).imp λh e=>h (by omega)
theorem spent_er (h:Inv fd S) (hO:S.Ok k m) {b:Int} (hb:b∈f8 (i9 S.t S.T) S.op S.t.b):Er fd S b:=by
 obtain⟨h1,h2,h3,h4⟩:=mem_pkSome.1 hb;have hg:=hO.gd.ok.bd16;have hhas:S.t.has b=true:=Tl.has_iff.2 ⟨h1,h2⟩;simp only[i9,Bool.and_eq_true,Bool.not_eq_true',beq_iff_eq]at h4;obtain⟨⟨⟨_,hbl⟩,_⟩,hc⟩:=h4;refine⟨h,hO.t,hhas,h3,λi a ha e=>?_,?_,hg.1,by omega⟩
 ·rw[hO.T.cnt]at hc;have hc:Tb.cntB S.T.at_ b=0:=by omega
  unfold Tb.cntB at hc;rw[List.countP_eq_zero]at hc;exact hc _ (Tb.look_mem ha) (by simp[e])
 ·unfold Tl.blank at hbl;rw[hhas,Bool.true_and]at hbl;simpa using hbl
theorem clear_spec (h:Inv fd S) (hO:S.Ok k m):∃N' t',S.clear=({S with N:=N',t:=t'},0)/\Cleared fd S (f8 (i9 S.t S.T) S.op S.t.b) N' t':=by
 obtain⟨N',t',f,g⟩:=clearGo_spec (f8 (i9 S.t S.T) S.op S.t.b) S (λb hb=>h.spent_er hO hb) (pkSome_nodup _ _ _) h hO.t;refine⟨N',t',?_,g⟩;unfold Dv.clear Dv.clearX;rw[f]
theorem countP_range_get {α:Type} (p:α->Bool) (z:α) (l:List α):l.countP p=(List.range l.length).countP λi=>p (l.getD i z):=by
 induction l with
 | nil=>rfl
 | cons x l ih=>
  rw[List.countP_cons,List.length_cons,List.range_succ_eq_map,List.countP_cons,List.countP_map,ih];rfl
theorem free_len (h:Inv fd S) (hO:S.Ok k m):S.free=S.t.blanks:=by
 unfold Dv.free f8;rw[List.length_map,<- List.countP_eq_length_filter];have hlen:=hO.t.len;unfold Tl.blanks;rw[countP_range_get _ Sb.zero,hlen];refine List.countP_congr λi hi=>?_;have hi:=List.mem_range.1 hi;have hhas:S.t.has (i:Nat)=true:=Tl.has_iff.2 (by omega);obtain⟨a1,a2⟩:=h.free_iff hO hhas;rw[a1];have e:S.t.blank (i:Nat)= !(S.t.l.getD i Sb.zero).used:=by unfold Tl.blank Tl.at_;rw[hhas,Int.toNat_natCast];rfl
 cases hb:S.t.blank (i:Nat)with
 | false=>rw[e]at hb;rw[hb];simp
 | true=>rw[a2 hb];rw[e]at hb;rw[hb];simp
end Inv
theorem V4 {kind:Int->Bool} {o:Int}:∀n:Nat,(∀x:Nat,x<n->(((x:Int) !=o)&&kind x)=false)->f8 kind o n=[]
 | 0,_=>rfl
 | n+1,h=>by rw[L9,if_neg (by rw[h n (by omega)];decide),V4 n λx hx=>h x (by omega)]
theorem b2O:∀D,D<7->3<=D->(IntKind.i64.wrap ((BitVec.ofInt IntKind.i64.bits (L.all (D:Nat))&&& BitVec.ofInt IntKind.i64.bits (Tl.andN (L.all (D:Nat)) (L.all (D:Nat)))).toNat:Int) !=0)=false/\∀d,d<D->(IntKind.i64.wrap ((BitVec.ofInt IntKind.i64.bits (L.all (D:Nat))&&& BitVec.ofInt IntKind.i64.bits (Tl.andN (L.all (D:Nat)) (Tl.andN (Tl.andN (L.all (D:Nat)) (L.with_ 0 (d:Nat))) 0))).toNat:Int) !=0)=true:=by decide+kernel
theorem a3f {N:Nand} {t:Tl} (h:∀i:Nat,N.dead.getD i false=false):Dv.seeDead N t=t:=by
 unfold Dv.seeDead;have:∀(q:List Nat),q.foldl (λt (d:Nat)=>if N.deadAt d then t.die d else t) t=t:=by
  intro q
  induction q with
  | nil=>rfl
  | cons d q ih=>
   rw[List.foldl_cons];have:N.deadAt d=false:=by unfold Nand.deadAt;rw[Int.toNat_natCast,h];simp
   rw[this,if_neg Bool.false_ne_true];exact ih
 exact this _
theorem a2a {f:Int->Int->Int} {key:Int->Int} (h1:∀x y,f x y<0->key x<=key y) (h2:∀x y,¬f x y<0->key y<=key x):∀(l:List Int) (m:Int),key (O1 f l m)<=key m/\∀x∈l,key (O1 f l m)<=key x
 | [],m=>⟨Int.le_refl _,λx hx=>(by cases hx)⟩
 | y::l,m=>by
  rw[O1];obtain⟨a1,a2⟩:=a2a h1 h2 l (if f y m<0 then y else m);have hm:key (if f y m<0 then y else m)<=key m/\key (if f y m<0 then y else m)<=key y:=by
   split
   ·rename_i hh;exact⟨h1 _ _ hh,Int.le_refl _⟩
   ·rename_i hh;exact⟨Int.le_refl _,h2 _ _ hh⟩
  refine⟨by omega,λx hx=>?_⟩;rcases List.mem_cons.1 hx with rfl | hx
  ·omega
  ·exact a2 x hx
theorem b7G {p q w:Int} (h:orI [C1 p q,w]<0):p<=q:=by
 refine Classical.byContradiction λhp=>?_;have e:C1 p q=1:=by unfold C1;rw[if_neg (by omega),if_pos (by omega)]
 rw[e]at h;exact absurd h (by show¬(if(1:Int)≠0 then(1:Int)else _)<0;rw[if_pos (by decide)];decide)
theorem b6C {p q w:Int} (h:¬orI [C1 p q,w]<0):q<=p:=by
 refine Classical.byContradiction λhp=>h ?_;have e:C1 p q= -1:=by unfold C1;rw[if_pos (by omega)]
 rw[e];show(if(-1:Int)≠0 then(-1:Int)else _)<0;rw[if_pos (by decide)];decide
theorem a0O (S:Dv) {x:Int} (hx:x∈f8 (B2 S.t S.T) S.op S.t.b):S.victim∈f8 (B2 S.t S.T) S.op S.t.b/\S.T.count S.victim<=S.T.count x:=by
 unfold Dv.victim;cases hl:f8 (B2 S.t S.T) S.op S.t.b with
 | nil=>rw[hl]at hx;cases hx
 | cons y l=>
  rw[hl]at hx;refine⟨a2b _ (by simp),?_⟩;have key:=a2a (f:=λx y=>orI [C1 (S.T.count x) (S.T.count y),C1 (S.t.wear x) (S.t.wear y)]) (key:=S.T.count) (λx y hh=>b7G hh) (λx y hh=>b6C hh) l y;rcases List.mem_cons.1 hx with rfl | hx
  ·exact key.1
  ·exact key.2 x hx
theorem b4C (l:List (Int×AtV)):∀Q:List Int,Q.Nodup->(Q.map λb=>Tb.cntB l b).sum<=l.length:=by
 induction l with
 | nil=>
  intro Q _;have:(Q.map λb=>Tb.cntB [] b).sum=0:=by
   induction Q with
   | nil=>rfl
   | cons b Q ih=>rw[List.map_cons,List.sum_cons,ih (by rename_i h;exact(List.nodup_cons.1 h).2)];rfl
  rw[this];exact Nat.zero_le _
 | cons x l ih=>
  intro Q hQ;have h1:(Q.map λb=>Tb.cntB (x::l) b).sum<=(Q.map λb=>Tb.cntB l b).sum+1:=by
   have h2:∀Q:List Int,Q.Nodup->(Q.map λb=>Tb.cntB (x::l) b).sum<=(Q.map λb=>Tb.cntB l b).sum+(if x.2.block∈Q then 1 else 0):=by
    intro Q
    induction Q with
    | nil=>intro _;exact Nat.le_refl _
    | cons b Q ihQ=>
     intro hn;obtain⟨n1,n2⟩:=List.nodup_cons.1 hn;have:=ihQ n2;rw[List.map_cons,List.sum_cons,List.map_cons,List.sum_cons];have hc:Tb.cntB (x::l) b=Tb.cntB l b+if x.2.block==b then 1 else 0:=by
      unfold Tb.cntB;rw[List.countP_cons]
     rw[hc]
     by_cases e:x.2.block=b
     ·subst e;rw[if_neg n1]at this;rw[if_pos (by simp),if_pos (by simp)];omega
     ·rw[if_neg (by simpa using e)]
      by_cases e2:x.2.block∈Q
      ·rw[if_pos e2]at this;rw[if_pos (by simp[e2])];omega
      ·rw[if_neg e2]at this;rw[if_neg (by simp[e,e2])];omega
   have:=h2 Q hQ;split at this<;>omega
  have:=ih Q hQ;rw[List.length_cons];omega
theorem a9A (c:Nat):∀(Q:List Int) (f:Int->Nat),(∀b∈Q,c<=f b)->Q.length*c<=(Q.map f).sum
 | [],_,_=>by simp
 | b::Q,f,h=>by
  rw[List.length_cons,List.map_cons,List.sum_cons,Nat.succ_mul];have:=a9A c Q f λx hx=>h x (by simp[hx]);have:=h b (by simp);omega
namespace Inv
variable {fd : Int} {S : Dv} {k m : Nat} {W : List (Int × En)}
theorem clear_hd (h:Inv fd S) (hO:S.Ok k m) (hH:Hd S W):∃N' t',S.clear=({S with N:=N',t:=t'},0)/\Cleared fd S (f8 (i9 S.t S.T) S.op S.t.b) N' t'/\Hd {S with N:=N',t:=t'} W:=by
 obtain⟨N',t',c1,c2⟩:=h.clear_spec hO;refine⟨N',t',c1,c2,⟨hH.keys,λi e he=>?_⟩⟩;obtain⟨h1,a,h2,h3⟩:=hH.each i e he;refine⟨h1,a,h2,?_⟩;rw[(c2.reads i a (h.st i a h2) λhb=>(h.spent_er hO hb).emp i a h2 rfl).2];exact h3
end Inv
theorem T8 {α:Type} [BEq α] [LawfulBEq α]:∀{K M:List α},K.Nodup->(∀x∈K,x∈M)->K.length<=M.length
 | [],M,_,_=>Nat.zero_le _
 | x::K,M,h,hs=>by
  obtain⟨h1,h2⟩:=List.nodup_cons.1 h;have hx:=hs x (by simp);have h3:=T8 (M:=M.erase x) h2 λy hy=>by
   have hne:y≠x:=λe=>h1 (by rw[<- e];exact hy);exact(List.mem_erase_of_ne hne).2 (hs y (by simp[hy]))
  rw[List.length_erase_of_mem hx]at h3;have:=List.length_pos_of_mem hx;rw[List.length_cons];omega
theorem ins_len {T:Tb} (h:T.Ok) (b:Int):(T.ins b).length<=Tb.cntB T.at_ b:=by
 unfold Tb.ins;split
 ·exact Nat.zero_le _
 ·have h1:(Tb.inK T b T.logical.toNat).Nodup:=by
   unfold Tb.inK;exact List.pairwise_map.2 ((List.nodup_range.filter _).imp λhne e=>hne (by omega))
  have h2:=T8 (M:=(T.at_.filter λx=>x.2.block==b).map (·.1)) h1 λx hx=>by
   simp only[Tb.inK,List.mem_map,List.mem_filter,List.mem_range]at hx;obtain⟨i,⟨_,hi⟩,rfl⟩:=hx;unfold Tb.inB at hi;cases ha:Tb.look T.at_ (i:Int)with
   | none=>rw[ha]at hi;cases hi
   | some a=>
    rw[ha]at hi;exact List.mem_map.2 ⟨((i:Int),a),List.mem_filter.2 ⟨Tb.look_mem ha,hi⟩,rfl⟩
  rw[List.length_map]at h2;unfold Tb.cntB;rw[List.countP_eq_length_filter];exact h2
theorem b5h {T:Tb} (h:T.Ok) {b i:Int} {a:AtV} (ha:Tb.look T.at_ i=some a) (hb:a.block=b):i∈T.ins b:=by
 have hr:=h.rng _ (Tb.look_mem ha);have hc:T.count b≠0:=by
  rw[h.cnt];have:0<Tb.cntB T.at_ b:=List.countP_pos_iff.2 ⟨_,Tb.look_mem ha,by simp[hb]⟩;omega
 unfold Tb.ins;rw[if_neg hc];unfold Tb.inK;obtain⟨j,rfl⟩:=Int.eq_ofNat_of_zero_le hr.1;refine List.mem_map.2 ⟨j,List.mem_filter.2 ⟨List.mem_range.2 (by have:=hr.2;simp only at this;omega),?_⟩,rfl⟩;unfold Tb.inB;rw[ha];simp[hb]
theorem b3i {T:Tb} {b i:Int} (h:i∈T.ins b):∃a,Tb.look T.at_ i=some a/\a.block=b:=by
 unfold Tb.ins at h;split at h
 ·cases h
 ·simp only[Tb.inK,List.mem_map,List.mem_filter,List.mem_range]at h;obtain⟨j,⟨_,hj⟩,rfl⟩:=h;unfold Tb.inB at hj;cases ha:Tb.look T.at_ (j:Int)with
  | none=>rw[ha]at hj;cases hj
  | some a=>rw[ha]at hj;exact⟨a,rfl,by simpa using hj⟩
theorem a0X (kind:Int->Bool) (o:Int):∀n,(f8 kind o n).length=(List.range n).countP λi:Nat=>((i:Int) !=o)&&kind i
 | 0=>rfl
 | n+1=>by
  rw[L9,List.range_succ,List.countP_append,<- a0X kind o n]
  by_cases h:(((n:Int) !=o)&&kind n)=true
  ·rw[if_pos h,List.length_append];simp[List.countP_cons,h]
  ·rw[if_neg h];simp[List.countP_cons,h]
theorem a1X {p q:Nat->Bool} {o:Int}:∀n:Nat,(∀i,i<n->p i=true\/q i=true\/(i:Int)=o)->n<=(List.range n).countP p+(List.range n).countP q+(if 0<=o/\o<n then 1 else 0)
 | 0,_=>by simp
 | n+1,h=>by
  have ih:=a1X (p:=p) (q:=q) (o:=o) n λi hi=>h i (by omega);rw[List.range_succ,List.countP_append,List.countP_append];have hn:=h n (by omega);have e1:[n].countP p=if p n then 1 else 0:=by simp[List.countP_cons]
  have e2:[n].countP q=if q n then 1 else 0:=by simp[List.countP_cons]
  rw[e1,e2];have a1:p n=true->(if p n=true then 1 else 0)=1:=λe=>if_pos e;have a2:q n=true->(if q n=true then 1 else 0)=1:=λe=>if_pos e;generalize(if p n=true then 1 else 0)=x1 at a1 ⊢;generalize(if q n=true then 1 else 0)=x2 at a2 ⊢
  by_cases ho:0<=o/\o<n
  ·rw[if_pos ho]at ih;rw[if_pos (show 0<=o/\o<((n+1:Nat):Int)by omega)];rcases hn with e | e | e
   ·have:=a1 e;omega
   ·have:=a2 e;omega
   ·omega
  ·rw[if_neg ho]at ih;rcases hn with e | e | e
   ·have:=a1 e;split<;>omega
   ·have:=a2 e;split<;>omega
   ·rw[if_pos (show 0<=o/\o<((n+1:Nat):Int)by omega)];omega
structure Rmy (fd:Int) (W:List (Int×En)) (S:Dv):Prop where
 inv:Inv fd S
 hd:Hd S W
 wok:WOk W
 held:∀b,S.t.has b=true->(S.t.at_ b).held=false
 ff:(∀i:Nat,S.N.dead.getD i false=false)->∀i j:Nat,(S.N.blk i j).fails=false
 cap:2*W.length<=(S.N.blocks-5)*(S.N.pages*(S.N.dies-2))+1
namespace Rmy
variable {fd : Int} {S : Dv} {k m β : Nat} {W : List (Int × En)}
theorem clear(h:Rmy fd W S) (hO:S.Ok (96+k) m):∃V,S.clear=(V,0)/\Rmy fd W V/\V.Ok k m/\f8 (i9 V.t V.T) V.op V.t.b=[]/\V.t.blanks=S.t.blanks+(f8 (i9 S.t S.T) S.op S.t.b).length/\V.T=S.T/\V.op=S.op/\V.row=S.row/\V.next=S.next/\V.rows=S.rows+S.N.pages*(f8 (i9 S.t S.T) S.op S.t.b).length/\V.N.dead=S.N.dead/\V.N.broken=S.N.broken/\S.N.Like V.N/\(∀d:Int,L.has S.t.dead d=true->L.has V.t.dead d=true)/\(Hot2 fd S β->Hot2 fd V β):=by
 have hk:=Dv.clear_keep hO;obtain⟨N',t',c1,c2,c3⟩:=h.inv.clear_hd hO h.hd;rw[c1]at hk;refine⟨_,c1,⟨c2.inv,c3,h.wok,λb hb=>?_,λhd=>?_,?_⟩,hk.1,?_,c2.blanks,rfl,rfl,rfl,rfl,?_,c2.dead,c2.broken,c2.like,c2.td,λhh=>?_⟩
 ·have hb:t'.has b=true:=hb;rw[c2.has]at hb;show(t'.at_ b).held=false;rw[c2.held b hb];exact h.held b hb
 ·have hd:∀i:Nat,N'.dead.getD i false=false:=hd;rw[c2.dead]at hd;exact(c2.nofl ⟨hd,h.ff hd⟩).1.2
 ·show 2*W.length<=(N'.blocks-5)*(N'.pages*(N'.dies-2))+1;rw[c2.like.blocks,c2.like.pages,c2.like.dies];exact h.cap
 ·refine V4 _ λx hx=>?_;have hx:x<t'.b:=hx;have htb:t'.b=S.t.b:=by rw[c2.fit.b,hO.t.b,c2.like.blocks]
  have hhas:S.t.has (x:Int)=true:=Tl.has_iff.2 (by omega);have hhas':t'.has (x:Int)=true:=by rw[c2.has];exact hhas
  cases hh:(((x:Int) !=S.op)&&i9 t' S.T x)with
  | false=>rfl
  | true=>
   exfalso
   rw[Bool.and_eq_true]at hh;have h2:=hh.2;unfold i9 at h2;simp only[Bool.and_eq_true,Bool.not_eq_true']at h2;have hu':(t'.at_ x).used=true:=by
    have:=h2.1.1.2;unfold Tl.blank at this;rw[hhas']at this;simpa using this
   by_cases hm:(x:Int)∈f8 (i9 S.t S.T) S.op S.t.b
   ·rw[c2.blank _ hm]at hu';cases hu'
   ·refine hm (mem_pkSome.2 ⟨by omega,by omega,by simpa using hh.1,?_⟩);unfold i9;rw[h.inv.usable hO hhas,h2.2];unfold Tl.blank Tl.held;rw[hhas,<- c2.rest _ hhas hm,hu',h.held _ hhas];rfl
 ·unfold Dv.rows;show N'.pages*t'.blanks+(if S.op>=0 then((N'.pages:Int)-S.row).toNat else 0)=_;rw[c2.blanks,c2.like.pages,Nat.mul_add];omega
 ·cases hh with
  | calm hno=>
   have hnf:=c2.nofl ⟨hno.dead,h.ff hno.dead⟩;exact .calm ⟨λi=>by show N'.dead.getD i false=false;rw[c2.dead];exact hno.dead i,List.eq_nil_iff_forall_not_mem.2 λa ha=>(by have:=c2.plan a ha;rw[hno.plan]at this;cases this),λi j=>by show(N'.blk i j).met=false;rw[hnf.2];exact hno.met i j⟩
  | cold h1 h2=>exact .cold (c2.td fd h1) h2
  | once h1=>exact .once (c2.td fd h1)
end Rmy
inductive Mvd (fd:Int) (S:Dv):Dv->Prop
 | nil:Mvd fd S S
 | same {U V:Dv}:Mvd fd S U->V.T=U.T->V.op=U.op->V.row=U.row->(∀b,V.t.has b=U.t.has b)->V.N.dead=U.N.dead->Inv fd V->Mvd fd S V
 | crd {U V:Dv} {I:List Int}:Mvd fd S U->Crd fd U I V->Mvd fd S V
namespace Rmy
variable {fd : Int} {S : Dv} {k m β : Nat} {W : List (Int × En)}
theorem victim (h:Rmy fd W S) (hO:S.Ok k m) (hsp:f8 (i9 S.t S.T) S.op S.t.b=[]) (hfr:¬(S.free:Int)>4):
  0<=S.victim/\S.t.has S.victim=true/\S.victim≠S.op/\(S.t.at_ S.victim).used=true/\0<Tb.cntB S.T.at_ S.victim/\2*Tb.cntB S.T.at_ S.victim<=S.N.pages*(S.N.dies-2)/\S.T.count S.victim<S.t.p*G.slots (S.t.mask S.victim):=by
 have hg:=hO.gd.ok.bd16;have hb:=hO.t.b;have hfl:=h.inv.free_len hO;have hlen:=hO.t.len;have hbl:S.t.blanks=(List.range S.t.b).countP λi:Nat=>!(S.t.at_ (i:Nat)).used:=by
  unfold Tl.blanks Tl.at_;rw[Inv.countP_range_get _ Sb.zero,hlen];simp
 have h3:=a1X (p:=λi:Nat=>((i:Int) !=S.op)&&B2 S.t S.T i) (q:=λi:Nat=>!(S.t.at_ (i:Nat)).used) (o:=S.op) S.t.b λi hi=>by
  have hhas:S.t.has (i:Int)=true:=Tl.has_iff.2 (by omega)
  by_cases e1:(i:Int)=S.op
  ·exact .inr (.inr e1)
  ·cases hu:(S.t.at_ (i:Int)).used with
   | false=>exact .inr (.inl rfl)
   | true=>
    left;have hc:¬S.T.count (i:Int)=0:=λhc=>by
     have:(i:Int)∈f8 (i9 S.t S.T) S.op S.t.b:=mem_pkSome.2 ⟨by omega,by omega,e1,by
      unfold i9;rw[h.inv.usable hO hhas,hc];unfold Tl.blank Tl.held;rw[hhas,hu,h.held _ hhas];rfl⟩
     rw[hsp]at this;cases this
    have hc2:S.T.count (i:Int)>0:=by
     have:=hO.T.cnt (i:Int);omega
    unfold B2 Tl.held;rw[hhas,h.held _ hhas,decide_eq_true hc2];simp[e1]
 rw[<- hbl,<- a0X]at h3;have hQ:S.N.blocks-5<=(f8 (B2 S.t S.T) S.op S.t.b).length:=by
  split at h3<;>omega
 obtain⟨x,hx⟩:∃x,x∈f8 (B2 S.t S.T) S.op S.t.b:=by
  cases hl:f8 (B2 S.t S.T) S.op S.t.b with
  | nil=>rw[hl]at hQ;simp at hQ;omega
  | cons y l=>exact⟨y,by simp⟩
 have hv:=(a0O S hx).1;obtain⟨v1,v2,v3,v4⟩:=mem_pkSome.1 hv;have hhas:S.t.has S.victim=true:=Tl.has_iff.2 ⟨v1,v2⟩;have hcn:=hO.T.cnt S.victim;have hpos:0<Tb.cntB S.T.at_ S.victim:=by
  unfold B2 at v4;simp only[Bool.and_eq_true,decide_eq_true_eq]at v4;omega
 have hsum:=b4C S.T.at_ (f8 (B2 S.t S.T) S.op S.t.b) (Inv.pkSome_nodup _ _ _);have hmin:=a9A (Tb.cntB S.T.at_ S.victim) (f8 (B2 S.t S.T) S.op S.t.b) (λb=>Tb.cntB S.T.at_ b) λb hb=>by
  have:=(a0O S hb).2;rw[hcn,hO.T.cnt b]at this;omega
 have hWl:S.T.at_.length=W.length:=by
  have:=congrArg List.length h.hd.keys;simpa using this
 have hcap:=h.cap;obtain⟨c,hc⟩:∃c,Tb.cntB S.T.at_ S.victim=c:=⟨_,rfl⟩;rw[hc]at hcn hpos hmin ⊢;have hle:(S.N.blocks-5)*c<=W.length:=by
  have:(S.N.blocks-5)*c<=(f8 (B2 S.t S.T) S.op S.t.b).length*c:=Nat.mul_le_mul_right _ hQ;omega
 have h2c:2*c<=S.N.pages*(S.N.dies-2):=by
  refine Classical.byContradiction λhlt=>?_;have h1:(S.N.blocks-5)*(S.N.pages*(S.N.dies-2)+1)<=(S.N.blocks-5)*(2*c):=Nat.mul_le_mul_left _ (by omega);have h2:(S.N.blocks-5)*(2*c)=2*((S.N.blocks-5)*c):=by rw[Nat.mul_comm 2 c,<- Nat.mul_assoc,Nat.mul_comm _ 2]
  rw[Nat.mul_add,Nat.mul_one]at h1;omega
 have hused:(S.t.at_ S.victim).used=true:=by
  obtain⟨y,hy,hyb⟩:=List.countP_pos_iff.1 (show 0<S.T.at_.countP λx=>x.2.block==S.victim by unfold Tb.cntB at hc;omega);have:=(h.inv.st _ _ (a1a hO.T hy)).used
  rwa [show y.2.block=S.victim from by simpa using hyb]at this
 refine⟨v1,hhas,v3,hused,hpos,h2c,?_⟩;rw[hcn];have hms:=(h.inv.msk hO hhas).pos hg.1;have hp:=hO.t.p;have h4:((S.N.pages*(S.N.dies-2):Nat):Int)=(S.N.pages:Int)*((S.N.dies:Int)-2):=by
  have:((S.N.dies-2:Nat):Int)=(S.N.dies:Int)-2:=by omega
  rw[<- this];exact Int.natCast_mul _ _
 have h5:(S.N.pages:Int)*((S.N.dies:Int)-2)<=(S.t.p:Int)*G.slots (S.t.mask S.victim):=by
  rw[hp];exact Int.mul_le_mul_of_nonneg_left hms.2.1 (by omega)
 omega
theorem emptied (h:Rmy fd W S) (hO:S.Ok (Dv.costR+k) m) (hsp:f8 (i9 S.t S.T) S.op S.t.b=[]) (hfr:¬(S.free:Int)>4) (hot:Hot2 fd S β) (hrw:(S.N.pages+1)/2+β<=S.rows) (hnx:S.next<=1099511627775-3000000) (f:Nat):
  ∃(V:Dv) (β':Nat),Dv.roomGo (f+1) S=Dv.roomGo f V/\Rmy fd W V/\V.Ok k m/\f8 (i9 V.t V.T) V.op V.t.b=[]/\Hot2 fd V β'/\β'<=β/\S.rows+S.N.pages+β'<=V.rows+(S.N.pages+1)/2+β/\V.next<=S.next+400/\V.N.dead=S.N.dead/\V.N.broken=S.N.broken/\S.N.Like V.N/\V.T.logical=S.T.logical/\(∀d:Int,L.has S.t.dead d=true->L.has V.t.dead d=true)/\Mvd fd S V:=by
 have hg:=hO.gd.ok.bd16;obtain⟨v1,v2,v3,v4,v5,v6,v7⟩:=h.victim (hO.less (Nat.le_refl _)) hsp hfr;obtain⟨v,hv⟩:∃v,S.victim=v:=⟨_,rfl⟩;rw[hv]at v1 v2 v3 v4 v5 v6 v7;have hcn:=hO.T.cnt v;obtain⟨c,hc⟩:∃c,Tb.cntB S.T.at_ v=c:=⟨_,rfl⟩;rw[hc]at hcn v5 v6;have hil:=ins_len hO.T v;rw[hc]at hil;have htake:(S.T.ins v).take (max (S.T.count v) 0).toNat=S.T.ins v:=by
  rw[hcn];exact List.take_of_length_le (by omega)
 have hPD:S.N.pages*(S.N.dies-2)<=8*4:=Nat.mul_le_mul hg.2.2.2 (by omega);have hlenρ:(S.T.ins v).length<=(S.N.dies-2)*((S.N.pages+1)/2):=by
  have h1:(S.N.dies-2)*S.N.pages<=(S.N.dies-2)*(2*((S.N.pages+1)/2)):=Nat.mul_le_mul_left _ (by omega);have h2:(S.N.dies-2)*(2*((S.N.pages+1)/2))=2*((S.N.dies-2)*((S.N.pages+1)/2)):=by rw[Nat.mul_left_comm]
  rw[Nat.mul_comm S.N.pages]at v6;omega
 have hlen16:(S.T.ins v).length<=16:=by omega
 have hnd:(S.T.ins v).Nodup:=by
  unfold Tb.ins;split
  ·exact List.nodup_nil
  ·unfold Tb.inK;exact List.pairwise_map.2 ((List.nodup_range.filter _).imp λhne e=>hne (by omega))
 have hnone:∀i,Tb.look W i=none->Tb.look S.T.at_ i=none:=λi hi=>h.hd.none hi;obtain⟨V,β',r1,r2,r3,r4,r5,r6,r7⟩:=h.inv.carry_go (S.T.ins v).length S (S.T.ins v) 0 W β ((S.N.pages+1)/2) (96+k) (hO.less (by
  have:Dv.cost*(S.T.ins v).length<=Dv.cost*65536:=Nat.mul_le_mul_left _ (by omega);unfold Dv.costR Dv.costC;omega)) (Nat.le_refl _) h.hd h.wok (λi hi=>by
   obtain⟨a,ha,_⟩:=b3i hi;cases hw:Tb.look W i with
   | none=>rw[hnone i hw]at ha;cases ha
   | some e=>rfl) hnd hot hlenρ hrw (by omega)
 have hcar:S.carry v (S.T.count v)=(V,((S.T.ins v).length:Int),(0:Int)):=by
  unfold Dv.carry;rw[htake];show Dv.carryGo (S.T.ins v).length S (S.T.ins v) 0=_;rw[r1];simp
 have hRV:Rmy fd W V:=⟨r2.inv,r3,h.wok,λb hb=>by rw[r2.has]at hb;rw[(r2.sb b hb).1];exact h.held b hb,λhd i j=>by rw[(r2.flags i j).2];exact h.ff (λi=>by rw[<- r2.dead];exact hd i) i j,by rw[r2.like.blocks,r2.like.pages,r2.like.dies];exact h.cap⟩;obtain⟨U,u1,u2,u3,u4,u5,u6,u7,u8,u9,u10,u11,u12,u13,u14,u15⟩:=hRV.clear (β:=β') (k:=k) r7
 --the emptied one is spent
 have hvs:v∈f8 (i9 V.t V.T) V.op V.t.b:=by
  have hVb:V.t.b=S.t.b:=by
   have h1:=r7.t.b;have h2:=hO.t.b;have h3:=r2.like.blocks;omega
  have hvh:V.t.has v=true:=by rw[r2.has];exact v2
  have hfresh:∀b r,FreshP S b r->b≠v:=λb r hf e=>by
   subst e;rcases hf with⟨e1,_⟩ | ⟨_,e2⟩
   ·exact v3 e1
   ·rw[v4]at e2;cases e2
  refine mem_pkSome.2 ⟨v1,by have:=(Tl.has_iff.1 v2).2;omega,?_,?_⟩
  ·exactλe=>hfresh V.op V.row (r2.back V.op V.row (.inl ⟨rfl,Int.le_refl _⟩)) e.symm
  ·unfold i9 Tl.blank Tl.held;have hcv:V.T.count v=0:=by
    rw[r7.T.cnt];have:Tb.cntB V.T.at_ v=0:=by
     unfold Tb.cntB;rw[List.countP_eq_zero];intro x hx hxb;have hlk:=a1a r7.T hx;have hxb:x.2.block=v:=by simpa using hxb
     by_cases hm:x.1∈S.T.ins v
     ·obtain⟨a,a1,a2,_⟩:=r2.pos _ hm;rw[hlk]at a1;injection a1 with a1;rw[<- a1]at a2;exact hfresh _ _ a2 hxb
     ·rw[r2.rest _ hm]at hlk;exact hm (b5h hO.T hlk hxb)
    rw[this];rfl
   rw[r2.inv.usable r7 hvh,hvh,(r2.sb v v2).2 v4,hRV.held v hvh,hcv];rfl
 have hlen1:1<=(f8 (i9 V.t V.T) V.op V.t.b).length:=List.length_pos_of_mem hvs;have hpg:V.N.pages=S.N.pages:=r2.like.pages;have hrowsU:V.rows+S.N.pages<=U.rows:=by
  rw[u10,hpg];have:S.N.pages*1<=S.N.pages*(f8 (i9 V.t V.T) V.op V.t.b).length:=Nat.mul_le_mul_left _ hlen1;omega
 have hnV:=r2.next;refine⟨U,β',?_,u2,u3,u4,u15 r4,r5,by omega,by rw[u9];omega,u11.trans r2.dead,u12.trans r2.broken,r2.like.trans u13,by rw[u6];exact r2.logical,λd hd=>u14 d (r2.td d hd), .same (.crd .nil r2) u6 u7 u8 (λb=>Inv.has_same r7.t u3.t u13 b) u11 u2.inv⟩;rw[Dv.roomGo,if_neg hfr,hv,if_neg (by omega)];dsimp only;rw[hcar];dsimp only;rw[if_neg (by decide),u1,if_neg (by simp)]
theorem rows_five (hO:S.Ok k m) (hI:Inv fd S) (hfr:¬(S.free:Int)>4):S.rows<=5*S.N.pages:=by
 have hfl:=hI.free_len hO;have hr:=hO.row;have h1:S.N.pages*S.t.blanks<=S.N.pages*4:=Nat.mul_le_mul_left _ (by omega);unfold Dv.rows;split<;>omega
theorem go:∀(f:Nat) (S:Dv) (β k:Nat),Rmy fd W S->S.Ok (Dv.costR*f+k) m->f8 (i9 S.t S.T) S.op S.t.b=[]->Hot2 fd S β->3*S.N.pages+β<=S.rows->5*S.N.pages+β+1<=S.rows+f*(S.N.pages/2)->S.next+400*(f:Int)<=1099511627775-3000000->
  ∃(V:Dv) (β':Nat),Dv.roomGo f S=(V,0)/\Rmy fd W V/\V.Ok k m/\(V.free:Int)>4/\f8 (i9 V.t V.T) V.op V.t.b=[]/\Hot2 fd V β'/\β'<=β/\V.next<=S.next+400*(f:Int)/\V.N.dead=S.N.dead/\V.N.broken=S.N.broken/\S.N.Like V.N/\V.T.logical=S.T.logical/\(∀d:Int,L.has S.t.dead d=true->L.has V.t.dead d=true)
 | f,S,β,k,h,hO,hsp,hot,hr3,hr5,hnx=>by
  by_cases hfr:(S.free:Int)>4
  ·refine⟨S,β,?_,h,hO.less (by omega),hfr,hsp,hot,Nat.le_refl _,by omega,rfl,rfl,Nand.Like.refl _,rfl,λ_ h=>h⟩;cases f with
   | zero=>rfl
   | succ f=>rw[Dv.roomGo,if_pos hfr]
  ·have h5:=rows_five hO h.inv hfr;have hg:=hO.gd.ok.bd16;cases f with
   | zero=>omega
   | succ f=>
    have hmul:(f+1)*(S.N.pages/2)=f*(S.N.pages/2)+S.N.pages/2:=Nat.succ_mul _ _;obtain⟨V,β1,w1,w2,w3,w4,w5,w6,w7,w8,w9,w10,w11,w12,w13,_⟩:=h.emptied (k:=Dv.costR*f+k) (by rw[Nat.mul_succ]at hO;exact hO.less (by omega)) hsp hfr hot (by omega) (by omega) f;have hpg:=w11.pages;obtain⟨U,β2,u1,u2,u3,u4,u5,u6,u7,u8,u9,u10,u11,u12,u13⟩:=go f V β1 k w2 w3 w4 w5 (by rw[hpg];omega) (by rw[hpg];omega) (by omega);exact⟨U,β2,by rw[w1,u1],u2,u3,u4,u5,u6,by omega,by omega,u9.trans w9,u10.trans w10,w11.trans u11,u12.trans w12,λd hd=>u13 d (w13 d hd)⟩
theorem room (h:Rmy fd W S) (hO:S.Ok (96+(Dv.costR*S.t.b+k)) m) (hot:Hot2 fd S β) (hr3:3*S.N.pages+β<=S.rows) (hβ:β<=1) (hnx:S.next<=1099511627775-4000000):
  ∃(V:Dv) (β':Nat),S.room=(V,0)/\Rmy fd W V/\V.Ok k m/\(V.free:Int)>4/\f8 (i9 V.t V.T) V.op V.t.b=[]/\Hot2 fd V β'/\β'<=β/\V.next<=S.next+6400/\V.N.dead=S.N.dead/\V.N.broken=S.N.broken/\S.N.Like V.N/\V.T.logical=S.T.logical/\(∀d:Int,L.has S.t.dead d=true->L.has V.t.dead d=true):=by
 have hg:=hO.gd.ok.bd16;have hb:=hO.t.b;obtain⟨U,u1,u2,u3,u4,u5,u6,u7,u8,u9,u10,u11,u12,u13,u14,u15⟩:=h.clear (β:=β) hO;have hpg:=u13.pages;have h8:8*(S.N.pages/2)<=S.t.b*(S.N.pages/2):=Nat.mul_le_mul_right _ (by omega);obtain⟨V,β',v1,v2,v3,v4,v5,v6,v7,v8,v9,v10,v11,v12,v13⟩:=go S.t.b U β k u2 u3 u4 (u15 hot) (by rw[hpg,u10];omega) (by rw[hpg,u10];omega) (by rw[u9];omega);refine⟨V,β',?_,v2,v3,v4,v5,v6,v7,by rw[u9]at v8;omega,v9.trans u11,v10.trans u12,u13.trans v11,by rw[v12,u6],λd hd=>v13 d (u14 d hd)⟩;unfold Dv.room;rw[u1];dsimp only;rw[if_neg (by decide),v1]
end Rmy
theorem b3X {T:Tb} (h:T.Ok):T.at_.length<=T.logical.toNat:=by
 have h1:=T8 (K:=T.at_.map (·.1)) (M:=(List.range T.logical.toNat).map λi:Nat=>(i:Int)) h.keys λx hx=>by
  obtain⟨y,hy,rfl⟩:=List.mem_map.1 hx;have:=h.rng y hy;exact List.mem_map.2 ⟨y.1.toNat,List.mem_range.2 (by omega),by omega⟩
 simpa using h1
theorem WOk.put {W:List (Int×En)} (h:WOk W) {e:En} (he:FitR e):WOk (Tb.put1 W e.lpn e):=λi x hx=>by
 rw[Tb.look_put1]at hx;split at hx
 ·rename_i e1;injection hx with hx;subst hx;exact⟨e1.symm,he⟩
 ·exact h i x hx
namespace Rmy
variable {fd : Int} {S : Dv} {k m β : Nat} {W : List (Int × En)}
theorem many (h:Rmy fd W S) (hO:S.Ok k m) (hfr:(S.free:Int)>4):5*S.N.pages<=S.rows:=by
 have:=h.inv.free_len hO;have h1:S.N.pages*5<=S.N.pages*S.t.blanks:=Nat.mul_le_mul_left _ (by omega);unfold Dv.rows;omega
end Rmy
namespace SqC
variable {D B P count i r k m : Nat} {S : Dv}
end SqC
namespace CutI
variable {C : En → Prop} {W : List (Int × En)} {S : Dv} {k m : Nat} {l : List En}
end CutI
namespace Hd
end Hd
theorem b1i (N:Nand) (x y:Int):N.Like (N.eraseN x y)/\(N.eraseN x y).dead=N.dead/\(N.eraseN x y).broken=N.broken/\(∀i j,j≠y.toNat->(N.eraseN x y).blk i j=N.blk i j)/\∀(d b r:Int) (c:NCell),(N.eraseN x y).pageAt d b r=some c->c.lost=true\/N.pageAt d b r=some c:=by
 have key:∀(M:Nand) (B':NBlock),M.blk=N.blk->(∀(r:Int) (c:NCell),B'.cells[r.toNat]? =some c->c.lost=true\/(N.blk x.toNat y.toNat).cells[r.toNat]? =some c)->(∀i j,j≠y.toNat->(M.setBlk x.toNat y.toNat B').blk i j=N.blk i j)/\∀(d b r:Int) (c:NCell),(M.setBlk x.toNat y.toNat B').pageAt d b r=some c->c.lost=true\/N.pageAt d b r=some c:=λM B' hM hB=>by
  have hb:∀i j,(M.setBlk x.toNat y.toNat B').blk i j=if i=x.toNat/\j=y.toNat then B' else N.blk i j:=λi j=>by rw[<- hM];rfl
  refine⟨λi j hj=>by rw[hb,if_neg (λe=>hj e.2)],λd b r c hc=>?_⟩;unfold Nand.pageAt at hc ⊢;rw[hb]at hc;split at hc
  ·rename_i e;rw[e.1,e.2];exact hB r c hc
  ·exact .inr hc
 unfold Nand.eraseN;dsimp only;split
 ·exact⟨Nand.Like.refl _,rfl,rfl,λ_ _ _=>rfl,λ_ _ _ _ h=> .inr h⟩
 split
 ·have:=key N.cutN {N.blk x.toNat y.toNat with cells:=((N.blk x.toNat y.toNat).cells++List.replicate (N.pages-(N.blk x.toNat y.toNat).cells.length) Nand.zcell).map λc=>{c with lost:=true}} rfl (λr c hc=>by
   left;dsimp only at hc;rw[List.getElem?_map]at hc;obtain⟨c0,_,rfl⟩:=Option.map_eq_some_iff.1 hc;rfl)
  exact⟨⟨rfl,rfl,rfl⟩,rfl,rfl,this⟩
 split
 ·have:=key N.cutN {N.blk x.toNat y.toNat with met:=true} rfl (λr c hc=> .inr hc);exact⟨⟨rfl,rfl,rfl⟩,rfl,rfl,this⟩
 ·have:=key N.cutN {N.blk x.toNat y.toNat with cells:=[],worn:=(N.blk x.toNat y.toNat).worn+1} rfl (λr c hc=>by simp at hc);exact⟨⟨rfl,rfl,rfl⟩,rfl,rfl,this⟩
structure ErsP (N N':Nand) (l:List Int):Prop where
 like:N.Like N'
 dead:N'.dead=N.dead
 broken:N'.broken=N.broken
 rest:∀i j,(∀y∈l,j≠y.toNat)->N'.blk i j=N.blk i j
 less:∀(d b r:Int) (c:NCell),N'.pageAt d b r=some c->c.lost=true\/N.pageAt d b r=some c
theorem ErsP.refl (N:Nand) (l:List Int):ErsP N N l:=⟨Nand.Like.refl _,rfl,rfl,λ_ _ _=>rfl,λ_ _ _ _ h=> .inr h⟩
theorem ErsP.trans {N N' N'':Nand} {l:List Int} (h:ErsP N N' l) (h2:ErsP N' N'' l):ErsP N N'' l:=
 ⟨h.like.trans h2.like,h2.dead.trans h.dead,h2.broken.trans h.broken,λi j hj=>(h2.rest i j hj).trans (h.rest i j hj),λd b r c hc=>by
  rcases h2.less d b r c hc with e | e
  ·exact .inl e
  ·exact h.less d b r c e⟩
theorem a3X (N:Nand) (t:Tl) (b mk:Int):∀(q:List Nat) (x:Nand×Tl×Int),ErsP x.1 (q.foldl (Dv.eraseD b mk) x).1 [b]
 | [],x=>ErsP.refl _ _
 | d::q,x=>by
  rw[List.foldl_cons];refine ErsP.trans (N':=(Dv.eraseD b mk x d).1) ?_ (a3X N t b mk q _);unfold Dv.eraseD;split
  ·exact ErsP.refl _ _
  split
  ·exact ErsP.refl _ _
  ·obtain⟨e1,e2,e3,e4,e5⟩:=b1i x.1 d b;exact⟨e1,e2,e3,λi j hj=>e4 i j (hj b (by simp)),e5⟩
theorem a2p:∀(l:List Int) (N:Nand) (t:Tl),ErsP N (Dv.clearGo l N t).1 l
 | [],N,t=>ErsP.refl _ _
 | b::l,N,t=>by
  have h1:ErsP N (Dv.erase N t b).1 (b::l):=by
   have h2:ErsP N (Dv.eraseB N t b).1 [b]:=a3X N t b (t.mask b) _ (N,t,0);have h3:ErsP N (Dv.eraseB N t b).1 (b::l):=⟨h2.like,h2.dead,h2.broken,λi j hj=>h2.rest i j λy hy=>hj y (by simp at hy;simp[hy]),h2.less⟩;unfold Dv.erase;dsimp only;split
   ·exact h3
   ·exact h3
  rw[Dv.clearGo];split
  ·exact h1
  ·have ih:=a2p l (Dv.erase N t b).1 (Dv.erase N t b).2.1;exact h1.trans ⟨ih.like,ih.dead,ih.broken,λi j hj=>ih.rest i j λy hy=>hj y (by simp[hy]),ih.less⟩
end Go.Proofs.YtpohajhbfllbbaaGreat
