/- Helpers, proved here. No condition. -/
import Derived.Test.YtdocmcapegcoeaaGreatC06
import Derived.Test.YtdocmcapegcoeaaGreatC09
import Derived.Test.YtdocmcapegcoeaaGreatC13
import Derived.Test.YtdocmcapegcoeaaGreatC18
import Derived.Test.YtdocmcapegcoeaaGreatC20
import Derived.Test.YtdocmcapegcoeaaGreatC22
import Derived.Test.YtdocmcapegcoeaaGreatC25
import Derived.Test.YtdocmcapegcoeaaGreatC27
set_option maxRecDepth 20000
set_option linter.all false
namespace Go.Proofs.YtdocmcapegcoeaaGreat
open Go
theorem eucl {P q r q' r':Nat} (h:q*P+r=q'*P+r') (hr:r<P) (hr':r'<P):q=q'/\r=r':=by
 have hP:0<P:=by omega
 have e1:(q*P+r)/P=q:=by rw[Nat.mul_comm,Nat.mul_add_div hP,Nat.div_eq_of_lt hr];omega
 have e2:(q'*P+r')/P=q':=by rw[Nat.mul_comm,Nat.mul_add_div hP,Nat.div_eq_of_lt hr'];omega
 rw[h,e2]at e1;subst e1;omega
theorem pkMin_const {f:Int->Int->Int} (h:∀x y,¬f x y<0):∀(l:List Int) (m:Int),pkMin f l m=m
 | [],m=>rfl
 | x::l,m=>by rw[pkMin,if_neg (h x m),pkMin_const h l m]
theorem pkSome_head {kind:Int->Bool} {o:Int} {x:Nat} (hx:(((x:Int) !=o)&&kind x)=true) (hno:∀y,y<x->(((y:Nat):Int) !=o&&kind (y:Nat))=false):∀n,(n<=x->pkSome kind o n=[])/\(x<n->∃l,pkSome kind o n=(x:Int)::l)
 | 0=>⟨λ_=>rfl,λh=>by omega⟩
 | n+1=>by
  obtain⟨h1,h2⟩:=pkSome_head hx hno n;rw[pkSome_succ];refine⟨λh=>?_,λh=>?_⟩
  ·rw[if_neg (by rw[hno n (by omega)];decide),h1 (by omega)]
  ·rcases Nat.lt_or_ge x n with hlt | hge
   ·obtain⟨l,hl⟩:=h2 hlt;rw[hl];split
    ·exact⟨_,rfl⟩
    ·exact⟨_,rfl⟩
   ·obtain rfl:n=x:=by omega
    rw[if_pos hx,h1 (Nat.le_refl _)];exact⟨[],rfl⟩
theorem cmpI_self (x:Int):¬cmpI x x<0:=by unfold cmpI;simp
namespace Inv
variable {fd : Int} {S : Dv} {k m : Nat}
theorem free_iff (h:Inv fd S) (hO:S.Ok k m) {b:Int} (hb:S.t.has b=true):pkFree S.t S.T b=S.t.blank b/\(S.t.blank b=true->(b !=S.op)=true):=by
 have hu:=h.usable hO hb;unfold pkFree;rw[hu,Bool.true_and];have hop:S.t.blank b=true->(b !=S.op)=true:=λhbl=>by
  simp only[Tl.blank,Bool.and_eq_true,Bool.not_eq_true']at hbl;rw[bne_iff_ne];intro e;rcases h.op with e2 | e2
  ·have:=(Tl.has_iff.1 hb).1;omega
  ·have:=e2.used;rw[<- e,hbl.2]at this;cases this
 refine⟨?_,hop⟩;cases hbl:S.t.blank b with
 | false=>rfl
 | true=>
  rw[Bool.true_and,beq_iff_eq];simp only[Tl.blank,Bool.and_eq_true,Bool.not_eq_true']at hbl;rw[hO.T.cnt];unfold Tb.cntB;have:(S.T.at_.countP λx=>x.2.block==b)=0:=by
   rw[List.countP_eq_zero];intro x hx hxb;simp only[beq_iff_eq]at hxb;have hlk:Tb.look S.T.at_ x.1=some x.2:=look_of hO.T hx;have:=(h.st _ _ hlk).used;rw[hxb,hbl.2]at this;cases this
  rw[this];rfl
theorem pick_first (h:Inv fd S) (hO:S.Ok k m) (hw:∀b,S.t.has b=true->(S.t.at_ b).wear=0) {q:Nat} (hq:q<S.t.b) (hbl:(S.t.at_ (q:Nat)).used=false) (hno:∀y:Nat,y<q->(S.t.at_ (y:Nat)).used=true):S.pick=q:=by
 have hhas:∀y:Nat,y<S.t.b->S.t.has (y:Nat)=true:=λy hy=>Tl.has_iff.2 (by omega);have hwear:∀x,S.t.wear x=0:=λx=>by
  unfold Tl.wear;split
  ·rename_i hx;exact hw x hx
  ·rfl
 obtain⟨a1,a2⟩:=h.free_iff hO (hhas q hq);have hb1:S.t.blank (q:Nat)=true:=by unfold Tl.blank;rw[hhas q hq,hbl];rfl
 obtain⟨l,hl⟩:=(pkSome_head (kind:=pkFree S.t S.T) (o:=S.op) (x:=q) (by rw[a2 hb1,a1,hb1];rfl) (λy hy=>by
  rw[(h.free_iff hO (hhas y (by omega))).1];unfold Tl.blank;rw[hno y hy];simp) S.t.b).2 hq
 unfold Dv.pick;rw[hl];show pkMin _ l (q:Int)=q;exact pkMin_const (λx y=>by rw[hwear,hwear];exact cmpI_self 0) l q
end Inv
structure SeqI (D B P rows:Nat) (S:Dv):Prop where
 inv:Inv (-1) S
 no:NoF S
 dies:S.N.dies=D
 blocks:S.N.blocks=B
 pages:S.N.pages=P
 ops:S.N.ops=((rows*D:Nat):Int)
 broken:S.N.broken=0
 worn:∀i j,(S.N.blk i j).worn=0
 sb:∀b:Nat,b<B->(S.t.at_ b).wear=0/\(S.t.at_ b).held=false/\(S.t.at_ b).used=decide (b*P<rows)
 op:(rows=0/\S.op= -1)\/∃q r,rows=q*P+r+1/\r<P/\S.op=(q:Nat)/\S.row=((r+1:Nat):Int)
theorem msk_all {D:Nat} {m:Int} (h:Msk D (-1) m) (hD:3<=D/\D<=6):m=L.all D/\G.slots m=(D:Int)-1:=by
 rcases h.eq hD with⟨e,_⟩ | ⟨e,_⟩
 ·refine⟨e,?_⟩;rw[e];exact(slots_all D (by omega) hD.1).1
 ·omega
namespace SeqI
variable {D B P rows : Nat} {S : Dv} {k m : Nat} {l : List En}
theorem new (D B P:Nat) (lg:Int):SeqI D B P 0 (Dv.new D B P lg):=by
 refine⟨Inv.new _ _ _ _ _,NoF.new _ _ _ _,rfl,rfl,rfl,by show(0:Int)=_;simp,rfl,λ_ _=>rfl,λb hb=>?_, .inl ⟨rfl,rfl⟩⟩;have:(Tl.new D B P).at_ b=Sb.zero:=by
  unfold Tl.new Tl.at_;dsimp only;rw[List.getD_eq_getElem?_getD,List.getElem?_replicate];split<;>rfl
 show((Tl.new D B P).at_ b).wear=0/\((Tl.new D B P).at_ b).held=false/\((Tl.new D B P).at_ b).used=_;rw[this];exact⟨rfl,rfl,by simp[Sb.zero]⟩
theorem at1 (h:SeqI D B P rows S) (hO:S.Ok k m) {q r:Nat} (hq:rows=q*P+r) (hr:r<P) (hB:q<B):S.at1.op=(q:Nat)/\S.at1.row=(r:Nat)/\S.at1.mask=L.all D/\G.slots S.at1.mask=(D:Int)-1/\S.at1.left=true:=by
 have hg:=hO.gd.ok.bd16;rw[h.dies,h.blocks,h.pages]at hg;have hb:=hO.t.b;rw[h.blocks]at hb;have hpick:r=0->S.pick=q:=λe=>by
  refine h.inv.pick_first hO (λb hb2=>?_) (by omega) ?_ λy hy=>?_
  ·have:=Tl.has_iff.1 hb2;obtain⟨y,rfl⟩:=Int.eq_ofNat_of_zero_le this.1;exact(h.sb y (by omega)).1
  ·rw[(h.sb q hB).2.2];exact decide_eq_false (by omega)
  ·rw[(h.sb y (by omega)).2.2];refine decide_eq_true ?_;have:(y+1)*P<=q*P:=Nat.mul_le_mul_right _ hy;rw[Nat.succ_mul]at this;omega
 have hopens:S.left=false->r=0->S.at1=S.opened/\¬S.pick<0:=λhl e=>by
  have:=hpick e;refine⟨?_,by omega⟩;unfold Dv.at1;rw[hl];rfl
 have hopen:S.left=false->r=0->S.at1.op=(q:Nat)/\S.at1.row=(r:Nat)/\S.at1.mask=L.all D/\G.slots S.at1.mask=(D:Int)-1/\S.at1.left=true:=λhl e=>by
  obtain⟨e1,e2⟩:=hopens hl e;obtain⟨w,w2,w3⟩:=h.inv.opens hO hl e2;rw[e1];have hms:=(w.inv.opn w2).mask;have hd:S.opened.N.dies=D:=h.dies;rw[hd]at hms;obtain⟨m1,m2⟩:=msk_all hms hg.1;exact⟨hpick e,by rw[e];rfl,m1,m2,w2⟩
 rcases h.op with⟨e1,e2⟩ | ⟨q0,r0,e1,e2,e3,e4⟩
 ·have hr0:r=0:=by omega
  refine hopen ?_ hr0;unfold Dv.left;rw[e2];rfl
 ·have hopn:Opn (-1) S:=by
   rcases h.inv.op with e | e
   ·omega
   ·exact e
  have hms:=hopn.mask;rw[h.dies]at hms;obtain⟨m1,m2⟩:=msk_all hms hg.1
  by_cases hlt:r0+1<P
  ·obtain⟨f1,f2⟩:=eucl (show q0*P+(r0+1)=q*P+r by omega) hlt hr;have hl:S.left=true:=by
    unfold Dv.left;rw[decide_eq_true (by omega),h.pages,decide_eq_true (by omega),decide_eq_true (by omega)];rfl
   have:S.at1=S:=by unfold Dv.at1;rw[hl];rfl
   rw[this];exact⟨by rw[e3,f1],by rw[e4,f2],m1,m2,hl⟩
  ·have hl:S.left=false:=by
    unfold Dv.left;rw[h.pages,decide_eq_false (p:=S.row<(P:Int)) (by omega),Bool.and_false,Bool.false_and]
   have:r=0:=by
    have:q*P+r=(q0+1)*P+0:=by rw[Nat.succ_mul];omega
    exact(eucl this hr (by omega)).2
   exact hopen hl this
theorem rows_pos (h:SeqI D B P rows S) (hO:S.Ok k m) {q r:Nat} (hq:rows=q*P+r) (hr:r<P) (hB:q<B):0<S.rows:=by
 obtain⟨a1,a2,a3,a4,a5⟩:=h.at1 hO hq hr hB;have hg:=hO.gd.ok.bd16;rw[h.dies,h.blocks,h.pages]at hg;unfold Dv.at1 at a5;cases hl:S.left with
 | true=>
  have:=Dv.left_spec hl;unfold Dv.rows;rw[if_pos (by omega)];omega
 | false=>
  rw[hl,if_neg Bool.false_ne_true]at a5;unfold Dv.at1 at a1;rw[hl,if_neg Bool.false_ne_true]at a1;have hp:S.pick=q:=a1;have hbl:=Tl.blanks_open hO.t.len (Dv.pick_blank (S:=S) (by omega));unfold Dv.rows;rw[h.pages];have:P*1<=P*S.t.blanks:=Nat.mul_le_mul_left _ (by omega);omega
theorem pen (h:SeqI D B P rows S) (hO:S.Ok (8*Dv.fuel+k) m) {q r:Nat} (hq:rows=q*P+r) (hr:r<P) (hB:q<B) (hf:∀e∈l,FitR e) (hl0:l.length≠0) (hnx:S.next<=1099511627775-7):
  S.pen l=(wroteP S.at1 l,(S.at1.fit l:Int),(0:Int))/\S.at1.fit l=min l.length (D-1)/\SeqI D B P (rows+1) (wroteP S.at1 l)/\(wroteP S.at1 l).Ok k m/\Went (-1) S S.at1 0/\Last (-1) S.at1 l/\S.at1.Ok (8+k) m:=by
 obtain⟨a1,a2,a3,a4,a5⟩:=h.at1 hO hq hr hB;have hg:=hO.gd.ok.bd16;rw[h.dies,h.blocks,h.pages]at hg;obtain⟨p1,p2,p3,p4⟩:=h.inv.pen_calm hO h.no (h.rows_pos hO hq hr hB) hf hl0 hnx;have hd:∀s∈l,s.data.length=16:=λe he=>(hf e he).len;have hok:=(Dv.pen_keep hO hd).1;rw[p1]at hok;have hfit:S.at1.fit l=min l.length (D-1):=by unfold Dv.fit;rw[a4];omega
 have hli:Inv (-1) (wroteP S.at1 l):=p4.inv p2.inv p3;have ht:=p4.turn;have hat1:=Dv.at1_like S;refine⟨p1,hfit,⟨hli,(h.no.went p2).wrote p4,?_,?_,?_,?_,?_,λi j=>?_,λb hb=>?_, .inr ⟨q,r,by omega,hr,a1,?_⟩⟩,hok,p2,p4,p3⟩
 ·exact ht.like.dies.trans (by rw[hat1.1];exact h.dies)
 ·exact ht.like.blocks.trans (by rw[hat1.1];exact h.blocks)
 ·exact ht.like.pages.trans (by rw[hat1.1];exact h.pages)
 ·have h1:=ht.ops;have h2:((R.job S.at1.op S.at1.row S.at1.mask (S.at1.es l)).filter λx=>!S.at1.N.dead.getD x.1.toNat false).length=D:=by
   rw[List.filter_eq_self.2 (λx _=>by rw[(h.no.went p2).dead];rfl)];have:=Dv.es_len S.at1 l;rw[job_len,this,a4];omega
  show(S.at1.wrote l).N.ops=_;rw[h1,h2,hat1.1,h.ops,Nat.succ_mul];omega
 ·show(S.at1.wrote l).N.broken=0;rw[ht.broken,hat1.1];exact h.broken
 ·show((S.at1.wrote l).N.blk i j).worn=0;rw[(ht.flags i j).2.2,hat1.1];exact h.worn i j
 ·have hb':S.t.has (b:Nat)=true:=Tl.has_iff.2 (by have:=hO.t.b;rw[h.blocks]at this;omega);have hs:=p2.sb b hb';have h0:=h.sb b hb;refine⟨by show(S.at1.t.at_ b).wear=0;rw[hs.1];exact h0.1,by show(S.at1.t.at_ b).held=false;rw[hs.2.1];exact h0.2.1,?_⟩;show(S.at1.t.at_ b).used=_
  by_cases e:b=q
  ·subst e;have:=(p2.inv.opn a5).used;rw[a1]at this;rw[this];exact(decide_eq_true (by omega)).symm
  ·have e2:(S.at1.t.at_ b).used=(S.t.at_ b).used:=by
    unfold Dv.at1 at a1 ⊢;split
    ·rfl
    ·rename_i hl;rw[if_neg hl]at a1;have hp:S.pick=q:=a1;have hpb:S.t.has S.pick=true:=Tl.has_iff.2 (by have:=hO.t.b;rw[h.blocks]at this;omega);show((S.t.clean S.pick false).at_ b).used=_;unfold Tl.clean;rw[Tl.at_set hO.t.len _ hpb hb',if_neg (by omega)]
   rw[e2,h0.2.2,decide_eq_decide];rcases Nat.lt_or_ge b q with hlt | hge
   ·have:(b+1)*P<=q*P:=Nat.mul_le_mul_right _ hlt;rw[Nat.succ_mul]at this;omega
   ·have:(q+1)*P<=b*P:=Nat.mul_le_mul_right _ (by omega);rw[Nat.succ_mul]at this;omega
 ·show S.at1.row+1=_;rw[a2];omega
end SeqI
end Go.Proofs.YtdocmcapegcoeaaGreat
namespace Go.Proofs.YtdocmcapegcoeaaGreat
open Go Go.RowKit
theorem Dv.Ok.fault0 {S:Dv} {k m:Nat} (h:S.Ok k m) (kd x y z n xx:Int) (hk:kd≠1):({S with N:=(S.N.fault kd x y z n xx).2}:Dv).Ok k m:=
 ⟨h.gd.fault0 kd x y z n xx hk,h.t.like (Nand.like_fault _ _ _ _ _ _ _),h.T,h.sl,h.row,h.next⟩
namespace B18
def S0:Dv:=Dv.new 3 8 2 20
def S1:Dv:=(S0.pen [e18 1 1,e18 2 2,e18 3 3]).1
def S2:Dv:=(S1.pen [e18 3 3]).1
def S3:Dv:=(S2.carry 0 2).1
def S4:Dv:={S3 with N:=(S3.N.fault 4 2 0 0 0 0).2}
def S5:Dv:=(S4.step 2).1
def S6:Dv:=S5.room.1
def S7:Dv:=(S6.torn [e18 9 9]).1
theorem h1:(S0.pen [e18 1 1,e18 2 2,e18 3 3]).2=(2,0):=by kernel_rfl
theorem h2:(S1.pen [e18 3 3]).2=(1,0):=by kernel_rfl
theorem h3:(S2.carry 0 2).2=(2,0):=by kernel_rfl
theorem h4:Tb.look S3.T.at_ 1=some ⟨1,0,0,7,4,1⟩:=by kernel_rfl
theorem h5:S3.op=1:=by kernel_rfl
theorem h6:(S4.step 2).2=(1,0):=by kernel_rfl
theorem h7:S5.leftN=2:=by kernel_rfl
theorem h8:S5.N.broken=0:=by kernel_rfl
theorem h9:S5.room.2=0:=by kernel_rfl
theorem h10:(S6.torn [e18 9 9]).2=0:=by kernel_rfl
theorem h11:S7.clear.2=0:=by kernel_rfl
def U:Nat:=10000000000
theorem G0:S0.Ok (10*U) 0:=Dv.Ok.new 3 8 2 20 rfl _ (by decide)
theorem d3:∀s∈[e18 1 1,e18 2 2,e18 3 3],s.data.length=16:=by decide
theorem d1:∀s∈[e18 3 3],s.data.length=16:=by decide
theorem d9:∀s∈[e18 9 9],s.data.length=16:=by decide
theorem G1:S1.Ok (9*U) 0:=(Dv.pen_keep (G0.less (by decide:8*Dv.fuel+9*U<=_)) d3).1
theorem G2:S2.Ok (8*U) 0:=(Dv.pen_keep (G1.less (by decide:8*Dv.fuel+8*U<=_)) d1).1
theorem G3:S3.Ok (7*U) 0:=(Dv.carry_keep (G2.less (by decide:Dv.costC+7*U<=_)) 0 2).1
theorem G4:S4.Ok (7*U) 0:=Dv.Ok.fault0 G3 4 2 0 0 0 0 (by decide)
theorem G5:S5.Ok (6*U) 0:=(Dv.step_keep (G4.less (by decide:Dv.costS+6*U<=_)) 2).1
theorem G6:S6.Ok (5*U) 0:=(Dv.room_keep (G5.less (by decide:Dv.costM+5*U<=_))).1
theorem G7:S7.Ok (4*U) 0:=(Dv.tornGo_keep 1 S6 [e18 9 9] _ (G6.less (by decide:Dv.costT*1+4*U<=_)) d9).1
end B18
end Go.Proofs.YtdocmcapegcoeaaGreat
namespace Go.Proofs.YtdocmcapegcoeaaGreat
open Go Go.RowKit
open B18
theorem l16_Begun:Fn Tryz.prog 49 [] [] (λv As=>v= .bool true/\As=[]):=by
 refine Fn.enter [] Tryz.func49 rfl rfl rfl λX F hX=>?_;refine J.q hX λ_=>?_;refine J.cb hX (l16_begun) [] ?_;refine cpq ⟨_,rfl,trivial,?_⟩;refine J.q hX λ_=>?_;exact J.ru hX [] ⟨rfl,rfl⟩
theorem l18_begun:Fn Tryz.prog 15 [] [] (λv As=>v= .bool true/\As=[]):=by
 refine Fn.enter [] Tryz.func15 rfl rfl rfl λX F hX=>?_;refine J.q hX λ_=>?_;refine J.cb hX (l18_bench 3 8 2 rfl 20) [] ?_;rintro v As ⟨n,t,l,q,rfl,rfl⟩;refine⟨_,rfl,trivial,?_⟩;rw[show Dv.new 3 8 2 20=S0 from rfl];refine J.q hX λ_=>?_;refine J.cF ?_;refine J.q hX λ_=>?_;refine J.cb hX (l18_entry 1 1) [] ?_;refine cpq ⟨_,rfl,trivial,?_⟩;refine J.q hX λ_=>?_;refine J.cb hX (l18_entry 2 2) [] ?_;refine cpq ⟨_,rfl,trivial,?_⟩;refine J.q hX λ_=>?_;refine J.cb hX (l18_entry 3 3) [] ?_;refine cpq ⟨_,rfl,trivial,?_⟩;refine J.q hX λbx=>?_;refine J.ca hX (by kernel_rfl) (pn_Write q n t l S0 (9*U) 0 (G0.less (by decide)) (.pt (bx 0) 38 (cellsE [e18 1 1,e18 2 2,e18 3 3])) (some ⟨bx 0,0,none⟩) 3 3 [e18 1 1,e18 2 2,e18 3 3] (pt_rd _ _ _ _ _ rfl) rfl (by decide) B18.d3) [1,2,3,4,5] 0 rfl rfl rfl rfl rfl rfl (λ_=>rfl) ?_;refine cpq ⟨_,rfl,trivial,?_⟩;rw[show(S0.pen [e18 1 1,e18 2 2,e18 3 3]).1=S1 from rfl,h1];refine J.q hX λ_=>?_;refine J.cb hX (l18_entry 3 3) [] ?_;refine cpq ⟨_,rfl,trivial,?_⟩;refine J.q hX λby_=>?_;refine J.ca hX (by kernel_rfl) (pn_Write q n t l S1 (8*U) 0 (G1.less (by decide)) (.pt (by_ 0) 38 (cellsE [e18 3 3])) (some ⟨by_ 0,0,none⟩) 1 1 [e18 3 3] (pt_rd _ _ _ _ _ rfl) rfl (by decide) B18.d1) [1,2,3,4,6] 0 rfl rfl rfl rfl rfl rfl (λ_=>rfl) ?_;refine cpq ⟨_,rfl,trivial,?_⟩;rw[show(S1.pen [e18 3 3]).1=S2 from rfl,h2];refine J.q hX λ_=>?_;refine J.cb hX (sw_Carry n t l q S2 (7*U) 0 (G2.less (by decide)) 0 2) [1,2,3,4] ?_;refine cpq ⟨_,rfl,trivial,?_⟩;rw[show(S2.carry 0 2).1=S3 from rfl,h3];refine J.q hX λ_=>?_;refine J.cb hX (tb_Get l S3.T 1) [4] ?_;refine cpq ⟨_,rfl,trivial,?_⟩;rw[h4,Option.getD_some,Option.isSome_some];refine J.q hX λ_=>?_;refine J.cb hX (pn_Open q n t l S3) [1] ?_;refine cpq ⟨_,rfl,trivial,?_⟩;rw[h5];refine J.q hX λ_=>?_;refine J.cb hX (n_Fault n S3.N G3.gd.ok 0 4 2 0 0 0 0) [2] ?_;refine cpq ⟨_,rfl,trivial,?_⟩;rw[show(S3.N.fault 4 2 0 0 0 0).2=S4.N from rfl,show PenA q n t l S3=PenA q n t l S4 from rfl,show S3.t=S4.t from rfl,show S3.T=S4.T from rfl];refine J.q hX λ_=>?_;refine J.cb hX (mn_Step n t l q S4 (6*U) 0 (G4.less (by decide)) (by decide) 2) [1,2,3,4] ?_;refine cpq ⟨_,rfl,trivial,?_⟩;rw[show(S4.step 2).1=S5 from rfl,h6];refine J.q hX λ_=>?_;refine J.cb hX (l16_Begun) [] ?_;refine cpq ⟨_,rfl,trivial,?_⟩;refine J.q hX λ_=>?_;refine J.cb hX (mn_Left t l S5 (6*U) 0 G5) [3,4] ?_;refine cpq ⟨_,rfl,trivial,?_⟩;rw[h7];refine J.q hX λ_=>?_;refine J.cb hX (n_Broken n S5.N) [2] ?_;refine cpq ⟨_,rfl,trivial,?_⟩;rw[h8];refine J.q hX λ_=>?_;refine J.cb hX (sw_Room n t l q S5 (5*U) 0 (G5.less (by decide)) (by decide)) [1,2,3,4] ?_;refine cpq ⟨_,rfl,trivial,?_⟩;rw[show S5.room.1=S6 from rfl,h9];refine J.q hX λ_=>?_;refine J.cb hX (l18_entry 9 9) [] ?_;refine cpq ⟨_,rfl,trivial,?_⟩;refine J.q hX λ_=>?_;refine J.effG hX tk rfl rfl rfl (λ_=>rfl) (by(repeat' (first | exact Conj.nil | refine Conj.cons ?_ ?_ | omega | exact hq0 | (simpa using hq0) | (exactλh=>h) | exact rfl | (intro hq;have hq0:=hq;try simp only[Bool.and_eq_true,Bool.or_eq_true,decide_eq_true_eq,Bool.not_eq_true',decide_eq_false_iff_not]at hq) | (simp;done) | (simp;omega) | decide))) (λ_=>rfl) λbt=>⟨trivial,?_⟩;refine J.q hX λ_=>?_;refine J.ca hX (by kernel_rfl) (mn_Torn n t l q S6 (4*U) 0 (.pt bt 38 (cellsE [e18 9 9])) (some (bt,0)) 1 1 [e18 9 9] (pt_rd _ _ _ _ _ rfl) rfl (by decide) (by decide) (λh=>by cases h) B18.d9 (G6.less (by decide)) (by decide)) [1,2,3,4,8] 0 rfl rfl rfl rfl rfl rfl (λ_=>rfl) ?_;refine cpq ⟨_,rfl,trivial,?_⟩;rw[show(S6.torn [e18 9 9]).1=S7 from rfl,h10];refine J.q hX λ_=>?_;refine J.cb hX (pn_Open q n t l S7) [1] ?_;refine cpq ⟨_,rfl,trivial,?_⟩;refine J.q hX λ_=>?_;refine J.ca hX (by kernel_rfl) (sw_Clear n t l S7.N S7.t S7.T (3*U) 0 (G7.gd.less (by decide) (Nat.le_refl _)) (by decide) G7.t S7.op) [2,3,4] 0 rfl rfl rfl rfl rfl rfl (λ_=>rfl) ?_;refine cpq ⟨_,rfl,trivial,?_⟩;rw[show(Dv.clearX S7.N S7.t S7.T S7.op).2.2=0 from h11];refine J.q hX λ_=>?_;exact J.ru hX [] ⟨rfl,rfl⟩
end Go.Proofs.YtdocmcapegcoeaaGreat
namespace Go.Proofs.YtdocmcapegcoeaaGreat
open Go Go.RowKit
def eL (lpn:Int) (j:Nat):List En:=(List.range j).map λi:Nat=>e18 (lpn+i) (lpn+i+1)
theorem eL_succ (lpn:Int) (j:Nat):eL lpn (j+1)=eL lpn j++[e18 (lpn+j) (lpn+j+1)]:=by unfold eL;rw[List.range_succ,List.map_append];rfl
theorem eL_len (lpn:Int) (j:Nat):(eL lpn j).length=j:=by simp[eL]
theorem eL_get (lpn:Int) {j i:Nat} (h:i<j):(eL lpn j).getD i En.zero=e18 (lpn+i) (lpn+i+1):=by
 unfold eL;rw[List.getD_eq_getElem?_getD,List.getElem?_map,List.getElem?_range h];rfl
theorem eL_data (lpn:Int) (j:Nat):∀s∈eL lpn j,s.data.length=16:=by
 intro s hs;simp only[eL,List.mem_map]at hs;obtain⟨i,_,rfl⟩:=hs;rfl
theorem e18_fit {k s:Int} (h:0<=k/\k<=65535):FitR (e18 k s):=⟨h, .inl rfl,rfl⟩
theorem eL_fit {lpn:Int} {j:Nat} (h:0<=lpn/\lpn+j<=65535):∀e∈eL lpn j,FitR e:=by
 intro s hs;simp only[eL,List.mem_map,List.mem_range]at hs;obtain⟨i,hi,rfl⟩:=hs;exact e18_fit (by omega)
theorem eL_nodup (lpn:Int) (j:Nat):((eL lpn j).map (·.lpn)).Nodup:=by
 unfold eL;rw[List.map_map];refine nodup_map_range _ _ λk k' _ hk e=>?_;simp only[Function.comp_apply,e18]at e;omega
theorem beqI (z:Int):(z==z)=true:=by simp
theorem l18_alike (l s1 s2 r:Int) (d:List UInt8) (hd:d.length=16):Fn Tryz.prog 35 [enV ⟨l,s1,r,d⟩,enV ⟨l,s2,r,d⟩] [] (λv As=>v= .bool true/\As=[]):=by
 refine Fn.enter [0,0] Tryz.func35 rfl rfl rfl λX F hX=>?_;refine J.qn hX 13 λ_=>?_;rw[beqI l];refine J.qn hX 6 λ_=>?_;rw[beqI r];refine J.qn hX 6 λ_=>?_;refine J.val hX (.bool true) 0 rfl rfl (λhg a w he hw=>(eqAgg_run (xs:=dataC d) (ys:=dataC d) rfl rfl rfl he rfl rfl leavesD (fitsD _) (fitsD _) mkD gdD).trans (by rw[eqD _ _ hd hd,decide_eq_true rfl])) rfl trivial ?_;refine J.q hX λ_=>?_;exact J.ru hX [] ⟨rfl,rfl⟩
end Go.Proofs.YtdocmcapegcoeaaGreat
namespace Go.Proofs.YtdocmcapegcoeaaGreat
open Go
namespace Inv
variable {fd : Int} {S : Dv} {k m : Nat} {l : List En}
end Inv
namespace Tb
theorem put1_keys2 {α β:Type} (k:Int) (v:α) (v':β):∀(l:List (Int×α)) (l':List (Int×β)),l.map (·.1)=l'.map (·.1)->(put1 l k v).map (·.1)=(put1 l' k v').map (·.1)
 | [],[],_=>rfl
 | [],y::l',h=>by cases h
 | x::l,[],h=>by cases h
 | x::l,y::l',h=>by
  simp only[List.map_cons,List.cons.injEq]at h;simp only[put1];rw[h.1];split
  ·simp only[List.map_cons,h.2]
  ·simp only[List.map_cons,h.1,put1_keys2 k v v' l l' h.2]
end Tb
def wput (W:List (Int×En)) (l:List En) (n:Nat):List (Int×En):=(List.range n).foldl (λW (i:Nat)=>Tb.put1 W (l.getD i En.zero).lpn (l.getD i En.zero)) W
theorem wput_succ (W:List (Int×En)) (l:List En) (n:Nat):wput W l (n+1)=Tb.put1 (wput W l n) (l.getD n En.zero).lpn (l.getD n En.zero):=by unfold wput;rw[List.range_succ,List.foldl_append];rfl
theorem wput_look {W:List (Int×En)} {l:List En}:∀n:Nat,(∀i j,i<j->j<n->(l.getD i En.zero).lpn≠(l.getD j En.zero).lpn)->(∀j,j<n->Tb.look (wput W l n) (l.getD j En.zero).lpn=some (l.getD j En.zero))/\∀i,(∀j,j<n->(l.getD j En.zero).lpn≠i)->Tb.look (wput W l n) i=Tb.look W i
 | 0,_=>⟨λj hj=>by omega,λi _=>rfl⟩
 | n+1,h=>by
  obtain⟨i1,i2⟩:=wput_look (W:=W) n λi j hij hj=>h i j hij (by omega);rw[wput_succ];refine⟨λj hj=>?_,λi hi=>?_⟩
  ·rw[Tb.look_put1]
   by_cases e:j=n
   ·subst e;rw[if_pos rfl]
   ·rw[if_neg (h j n (by omega) (by omega))];exact i1 j (by omega)
  ·rw[Tb.look_put1,if_neg (λe=>hi n (by omega) e.symm)];exact i2 i λj hj=>hi j (by omega)
structure Hd (S:Dv) (W:List (Int×En)):Prop where
 keys:S.T.at_.map (·.1)=W.map (·.1)
 each:∀i e,Tb.look W i=some e->e.data.length=16/\∃a,Tb.look S.T.at_ i=some a/\R.read S.N a.block a.row a.slot a.mask=({e with seq:=a.seq},0)
namespace Hd
variable {fd : Int} {S Q : Dv} {W : List (Int × En)} {k m : Nat} {l : List En}
theorem went (h:Hd S W) (hi:Inv fd S) {β:Nat} (w:Went fd S Q β):Hd Q W:=by
 refine⟨by rw[w.T];exact h.keys,λi e he=>?_⟩;obtain⟨h1,a,h2,h3⟩:=h.each i e he;exact⟨h1,a,by rw[w.T];exact h2,by rw[w.reads i a (hi.st i a h2)];exact h3⟩
theorem none (h:Hd S W) {i:Int} (hi:Tb.look W i= .none):Tb.look S.T.at_ i= .none:=by
 rw[Tb.look_none]at hi ⊢;rw[h.keys];exact hi
theorem wrote (h:Hd Q W) (hQ:Inv fd Q) (hO:Q.Ok k m) (hl:Last fd Q l) (hf:∀e∈l,FitR e) (hlg:∀e∈l,e.lpn<Q.T.logical) (hnd:(l.map (·.lpn)).Nodup):Hd (wroteP Q l) (wput W l (Q.fit l)):=by
 obtain⟨l1,l2⟩:=hl.look hQ hO hf hlg hnd;have hes:=λj (hj:j<Q.fit l)=>hl.seqs hO hj;have hdis:∀i j,i<j->j<Q.fit l->(l.getD i En.zero).lpn≠(l.getD j En.zero).lpn:=λi j hij hj e=>by
  have g1:=(hes j hj).1;have g2:=(hes i (by omega)).1;have:(l.map (·.lpn))[i]? =(l.map (·.lpn))[j]?:=by
   rw[List.getElem?_map,List.getElem?_map,List.getElem?_eq_getElem g1,List.getElem?_eq_getElem g2];rw[List.getD_eq_getElem?_getD,List.getD_eq_getElem?_getD,List.getElem?_eq_getElem g1,List.getElem?_eq_getElem g2]at e;exact congrArg some e
  have:=(List.getElem?_inj (by rw[List.length_map];exact g2) hnd).1 this;omega
 obtain⟨w1,w2⟩:=wput_look (W:=W) (l:=l) (Q.fit l) hdis;refine⟨?_,λi e he=>?_⟩
 ·have key:∀n,n<=Q.fit l->(Dv.puts Q.T Q.op Q.row Q.mask (Q.es l) n).at_.map (·.1)=(wput W l n).map (·.1):=by
   intro n
   induction n with
   | zero=>intro _;exact h.keys
   | succ n ih=>
    intro hn;have hb:=(hes n (by omega));have hin:=getD_mem hb.1;have hfe:=hf _ hin;have hl2:Tb.look (Dv.puts Q.T Q.op Q.row Q.mask (Q.es l) n).at_ (l.getD n En.zero).lpn=Tb.look Q.T.at_ (l.getD n En.zero).lpn:=by
     have hp:=(puts_look (T:=Q.T) (b:=Q.op) (r:=Q.row) (mk:=Q.mask) (es:=Q.es l) n (λj hj=>?_) (λj hj a ha=>?_) (λi j hij hj=>?_)).2
     ·refine hp _ λj hj=>?_;rw[(hes j (by omega)).2.1];exact hdis j n hj (by omega)
     ·rw[(hes j (by omega)).2.1];have hfe:=hf _ (getD_mem (hes j (by omega)).1);have:=hlg _ (getD_mem (hes j (by omega)).1);unfold Tb.ok;have e1:decide (({l.getD j En.zero with seq:=Q.next+(j:Int)}:En).lpn<0)=false:=decide_eq_false (by have:=hfe.lpn;show¬(l.getD j En.zero).lpn<0;omega);have e2:decide (({l.getD j En.zero with seq:=Q.next+(j:Int)}:En).lpn>=Q.T.logical)=false:=decide_eq_false (by show¬(l.getD j En.zero).lpn>=Q.T.logical;omega);rw[e1,e2];show(!(false||false||((l.getD j En.zero).role !=1&&(l.getD j En.zero).role !=2&&(l.getD j En.zero).role !=4)))=true;rcases hfe.role with e | ⟨e | e,_⟩<;>rw[e]<;>rfl
     ·rw[(hes j (by omega)).2.1]at ha ⊢;have:=(hQ.st _ a ha).seq;show a.seq<=Q.next+(j:Int);omega
     ·rw[(hes j (by omega)).2.1,(hes i (by omega)).2.1];exact hdis i j hij (by omega)
    have hp:Tb.putB (Dv.puts Q.T Q.op Q.row Q.mask (Q.es l) n) ((Q.es l).getD n En.zero)=true:=by
     have hlog:∀n,(Dv.puts Q.T Q.op Q.row Q.mask (Q.es l) n).logical=Q.T.logical:=by
      intro n
      induction n with
      | zero=>rfl
      | succ n ih=>rw[Dv.puts_succ,Tb.put_logical];exact ih
     rw[hb.2.1];have:=hlg _ hin;have e1:Tb.ok (Dv.puts Q.T Q.op Q.row Q.mask (Q.es l) n) ({l.getD n En.zero with seq:=Q.next+(n:Int)}:En)=true:=by
      unfold Tb.ok;rw[hlog];have e1:decide (({l.getD n En.zero with seq:=Q.next+(n:Int)}:En).lpn<0)=false:=decide_eq_false (by have:=hfe.lpn;show¬(l.getD n En.zero).lpn<0;omega);have e2:decide (({l.getD n En.zero with seq:=Q.next+(n:Int)}:En).lpn>=Q.T.logical)=false:=decide_eq_false (by show¬(l.getD n En.zero).lpn>=Q.T.logical;omega);rw[e1,e2];show(!(false||false||((l.getD n En.zero).role !=1&&(l.getD n En.zero).role !=2&&(l.getD n En.zero).role !=4)))=true;rcases hfe.role with e | ⟨e | e,_⟩<;>rw[e]<;>rfl
     have e2:Tb.elder (Dv.puts Q.T Q.op Q.row Q.mask (Q.es l) n) ({l.getD n En.zero with seq:=Q.next+(n:Int)}:En)=false:=by
      unfold Tb.elder;rw[show({l.getD n En.zero with seq:=Q.next+(n:Int)}:En).lpn=(l.getD n En.zero).lpn from rfl,hl2];cases hh:Tb.look Q.T.at_ (l.getD n En.zero).lpn with
      | none=>rfl
      | some a=>have:=(hQ.st _ a hh).seq;exact decide_eq_false (by show¬(Q.next+(n:Int))<a.seq;omega)
     unfold Tb.putB;rw[e1,e2];rfl
    rw[Dv.puts_succ,wput_succ];unfold Tb.put;rw[if_pos hp];show(Tb.put1 _ _ _).map (·.1)=_;rw[hb.2.1];exact Tb.put1_keys2 _ _ _ _ _ (ih (by omega))
  exact key _ (Nat.le_refl _)
 ·by_cases hex:∃j,j<Q.fit l/\(l.getD j En.zero).lpn=i
  ·obtain⟨j,hj,rfl⟩:=hex;rw[w1 j hj]at he;injection he with he;subst he;refine⟨(hf _ (getD_mem (hes j hj).1)).len,_,l1 j hj,?_⟩;exact hl.reads hQ hO hj
  ·have hno:∀j,j<Q.fit l->(l.getD j En.zero).lpn≠i:=λj hj e=>hex ⟨j,hj,e⟩;rw[w2 i hno]at he;obtain⟨h1,a,h2,h3⟩:=h.each i e he;refine⟨h1,a,by rw[l2 i hno];exact h2,?_⟩;rw[hl.stay hQ hO hf (hQ.st i a h2)];exact h3
end Hd
theorem rows_new2 (D B P:Nat) (lg:Int):(Dv.new D B P lg).rows=P*B:=by
 unfold Dv.rows;have e1:(Dv.new D B P lg).op= -1:=rfl;have e2:(Dv.new D B P lg).t.blanks=B:=by
  show(List.replicate B Sb.zero).countP _=B;rw[List.countP_replicate];rfl
 have e3:(Dv.new D B P lg).N.pages=P:=rfl;rw[e1,e2,e3,if_neg (by decide)];omega
namespace Dv
end Dv
namespace Inv
variable {fd : Int} {S : Dv} {k m : Nat} {l : List En}
end Inv
def WOk (W:List (Int×En)):Prop:=∀i e,Tb.look W i=some e->e.lpn=i/\FitR e
namespace Hd
variable {S : Dv} {W : List (Int × En)}
theorem rd (h:Hd S W) (hW:WOk W) {i:Int} {e:En} (he:Tb.look W i=some e):∃sq,S.rd i=({e with seq:=sq},0):=by
 obtain⟨_,a,h2,h3⟩:=h.each i e he;refine⟨a.seq,?_⟩;unfold Dv.rd;rw[h2];dsimp only;rw[Option.getD_some,h3];dsimp only;rw[if_neg (by decide),if_neg];rintro(x | x | x)
 ·exact x rfl
 ·exact x (hW i e he).1
 ·exact x rfl
theorem rds (h:Hd S W) (hW:WOk W):∀L:List Int,(∀i∈L,(Tb.look W i).isSome=true)->∃E:List En,S.rds L=(E,0)/\E.length=L.length/\E.map (·.lpn)=L/\(∀e∈E,FitR e)/\∀j,j<L.length->∃e sq,Tb.look W (E.getD j En.zero).lpn=some e/\E.getD j En.zero={e with seq:=sq}
 | [],_=>⟨[],rfl,rfl,rfl,λ_ h=>(by cases h),λj hj=>by simp at hj⟩
 | i::L,hL=>by
  obtain⟨E,e1,e2,e3,e4,e5⟩:=rds h hW L λx hx=>hL x (by simp[hx]);obtain⟨e,he⟩:=Option.isSome_iff_exists.1 (hL i (by simp));obtain⟨sq,hr⟩:=h.rd hW he;have hw:=hW i e he;refine⟨{e with seq:=sq}::E,?_,by simp[e2],by simp[e3,hw.1],λx hx=>?_,λj hj=>?_⟩
  ·rw[Dv.rds,hr,if_neg (by simp),e1]
  ·rcases List.mem_cons.1 hx with rfl | hx
   ·exact⟨hw.2.lpn,hw.2.role,hw.2.len⟩
   ·exact e4 x hx
  ·cases j with
   | zero=>exact⟨e,sq,by show Tb.look W e.lpn=_;rw[hw.1];exact he,rfl⟩
   | succ j=>exact e5 j (by simpa using hj)
theorem swap {E:List En} {n:Nat} (h:Hd S (wput W E n)) (hE:∀j,j<n->∃e sq,Tb.look W (E.getD j En.zero).lpn=some e/\E.getD j En.zero={e with seq:=sq}) (hd:∀i j,i<j->j<n->(E.getD i En.zero).lpn≠(E.getD j En.zero).lpn):Hd S W:=by
 obtain⟨w1,w2⟩:=wput_look (W:=W) (l:=E) n hd;refine⟨?_,λi e he=>?_⟩
 ·rw[h.keys];clear h w1 w2
  induction n with
  | zero=>rfl
  | succ n ih=>
   rw[wput_succ];have hk:=(wput_look (W:=W) (l:=E) n λi j hij hj=>hd i j hij (by omega)).2 (E.getD n En.zero).lpn λj hj=>hd j n hj (by omega);obtain⟨e,sq,h1,_⟩:=hE n (by omega);rw[<- ih (λj hj=>hE j (by omega)) (λi j hij hj=>hd i j hij (by omega))];refine Tb.put1_keys (by rw[hk,h1];simp)
 ·by_cases hex:∃j,j<n/\(E.getD j En.zero).lpn=i
  ·obtain⟨j,hj,rfl⟩:=hex;obtain⟨e',sq,h1,h2⟩:=hE j hj;rw[he]at h1;injection h1 with h1;obtain⟨g1,a,g2,g3⟩:=h.each _ _ (w1 j hj);rw[h2]at g1 g3;subst h1;exact⟨g1,a,g2,g3⟩
  ·exact h.each i e (by rw[w2 i λj hj hh=>hex ⟨j,hj,hh⟩];exact he)
end Hd
namespace Inv
variable {fd : Int} {m : Nat}
theorem slots_pos {S:Dv} {k:Nat} (h:Inv fd S) (hO:S.Ok k m) (hr:0<S.rows):(S.N.dies:Int)-2<=S.slots/\1<=S.slots:=by
 have hg:=hO.gd.ok.bd16;unfold Dv.slots;rcases h.rows_pos hO hr with hl | hp
 ·rw[if_pos hl];have:=(h.opn hl).mask.pos hg.1;omega
 ·split
  ·rename_i hl;have:=(h.opn hl).mask.pos hg.1;omega
  ·rcases S.pick_spec with e | ⟨p1,p2,_,_⟩
   ·omega
   ·have:=(h.msk hO (Tl.has_iff.2 ⟨p1,p2⟩)).pos hg.1;omega
end Inv
def wI (i:Nat):List (Int×En):=(List.range i).map λj:Nat=>((j:Int),e18 j ((j:Int)+1))
theorem wI_succ (i:Nat):wI (i+1)=wI i++[((i:Int),e18 i ((i:Int)+1))]:=by unfold wI;rw[List.range_succ,List.map_append];rfl
theorem put1_new {α:Type} {k:Int} {v:α}:∀{l:List (Int×α)},k∉l.map (·.1)->Tb.put1 l k v=l++[(k,v)]
 | [],_=>rfl
 | x::l,h=>by
  simp only[List.map_cons,List.mem_cons,not_or]at h;simp only[Tb.put1];rw[if_neg h.1,put1_new h.2];rfl
theorem wI_put (i:Nat):Tb.put1 (wI i) (i:Int) (e18 i ((i:Int)+1))=wI (i+1):=by
 rw[wI_succ,put1_new];intro h;simp only[wI,List.map_map,List.mem_map,List.mem_range,Function.comp]at h;obtain⟨j,hj,e⟩:=h;omega
theorem wI_look (i:Nat):∀j:Nat,Tb.look (wI i) (j:Int)=if j<i then some (e18 j ((j:Int)+1))else none:=by
 induction i with
 | zero=>intro j;rfl
 | succ i ih=>
  intro j;rw[<- wI_put,Tb.look_put1,ih]
  by_cases h:j=i
  ·subst h;rw[if_pos rfl,if_pos (by omega)]
  ·rw[if_neg (by omega)]
   by_cases h2:j<i
   ·rw[if_pos h2,if_pos (by omega)]
   ·rw[if_neg h2,if_neg (by omega)]
theorem wI_look_neg (i:Nat) {x:Int} (h:x<0):Tb.look (wI i) x=none:=by
 rw[Tb.look_none];intro hm;simp only[wI,List.map_map,List.mem_map,List.mem_range,Function.comp]at hm;obtain⟨j,_,e⟩:=hm;omega
theorem wI_ok {i:Nat} (h:i<=500):WOk (wI i):=λx e he=>by
 by_cases hx:x<0
 ·rw[wI_look_neg i hx]at he;cases he
 ·obtain⟨j,rfl⟩:=Int.eq_ofNat_of_zero_le (show 0<=x by omega);rw[wI_look]at he;split at he
  ·injection he with he;subst he;exact⟨rfl,e18_fit (by omega)⟩
  ·cases he
theorem wI_wput (i:Nat) {E:List En}:∀n,(∀j:Nat,j<n->E.getD j En.zero=e18 ((i:Int)+j) ((i:Int)+j+1))->wput (wI i) E n=wI (i+n)
 | 0,_=>rfl
 | n+1,h=>by
  rw[wput_succ,wI_wput i n λj hj=>h j (by omega),h n (by omega),<- Nat.add_assoc,<- wI_put];have:((i+n:Nat):Int)=(i:Int)+n:=by omega
  rw[this];rfl
namespace SqC
variable {D B P count i r k m : Nat} {S : Dv}
end SqC
namespace V
end V
def Dsc (C:En->Prop) (N:Nand) (b r:Int):Prop:=(∀(d:Int) (c:NCell),N.pageAt d b r=some c->c.lost=true)\/∃l,RowIs N b r (L.all N.dies) l/\RowIn N b r (L.all N.dies) l/\∀e∈l,e.role=3\/C e
theorem nope_all {N:Nand} (h8:N.dies<=8) (b r:Int):PartR.Nope N b r (L.all N.dies):=λi hi hh=>by
 rw[L.all_has _ h8,decide_eq_true (by omega),decide_eq_true (by omega)]at hh;cases hh
theorem look_err2 {N:Nand} {d b r:Int} (h:N.readE d b r≠0):(M.look N d b r).2≠1:=by
 unfold M.look;simp only;rw[if_neg h];split
 ·decide
 ·split<;>decide
theorem Dsc.fnd {C:En->Prop} {N:Nand} {b r:Int} (h:Dsc C N b r) (hoff:N.off=false) {f:Fnd} (hf:f∈R.all N b r):C f.en/\R.read N f.block f.row f.slot f.mask=(f.en,0):=by
 rcases h with h | ⟨l,h1,h2,h3⟩
 ·have:R.all N b r=[]:=all_blank λd=>look_err2 (by
   unfold Nand.readE;split
   ·assumption
   ·cases hp:N.pageAt (d:Int) b r with
    | none=>exact(by decide:(5:Int)≠0)
    | some c=>dsimp only;rw[h _ c hp];exact(by decide:(6:Int)≠0))
  rw[this]at hf;cases hf
 ·have hp:=h2.part h1;rw[hp.all h1 (nope_all (by have:=h1.six;omega) b r)]at hf;unfold rowG at hf;obtain⟨k,hk,hx⟩:=List.mem_filterMap.1 hf;have hk:=List.mem_range.1 hk;split at hx
  ·rename_i hok;rw[Bool.and_eq_true]at hok;injection hx with hx;subst hx;have hrd:=hp.read h1 hoff hk;rw[hok.1,if_pos rfl]at hrd;refine⟨?_,hrd⟩;rcases h3 _ (getD_mem hk)with e | e
   ·have:=hok.2;rw[e]at this;cases this
   ·exact e
  ·cases hx
theorem Full.found {fd:Int} {N:Nand} {b r:Int} {l:List En} (h:Full fd N b r (L.all N.dies) l) (hoff:N.off=false) (hdead:∀i:Nat,(i:Int)≠fd->N.dead.getD i false=false) {j:Nat} (hj:j<l.length) (hr:(l.getD j En.zero).role≠3):∃f∈R.all N b r,f.en=l.getD j En.zero:=by
 rw[(h.inn.part h.is).all h.is (nope_all (by have:=h.is.six;omega) b r)];unfold rowG;refine⟨⟨l.getD j En.zero,b,r,j,L.all N.dies,gOf N b r (L.all N.dies) l l.length,!(gOf N b r (L.all N.dies) l j)⟩,List.mem_filterMap.2 ⟨j,List.mem_range.2 hj,?_⟩,rfl⟩;rw[if_pos];rw[h.okAll hoff hdead hj,Bool.true_and];exact bne_iff_ne.2 hr
theorem V.standOf_true:∀(l:List Fnd),l≠[]->(V.standOf l).2=true:=by
 intro l hl;obtain⟨l',x,rfl⟩:∃l' x,l=l'++[x]:=⟨l.dropLast,l.getLast hl,(List.dropLast_concat_getLast hl).symm⟩;rw[V.standOf_snoc];split
 ·rfl
 ·rename_i h;rcases Bool.eq_false_or_eq_true (V.standOf l').2 with e | e
  ·exact e
  ·exact absurd (.inl e) h
theorem scan_dsc {C:En->Prop} {N:Nand} {n:Nat} (hn:n<=65536) (hoff:N.off=false) (hd:∀b r:Nat,b<N.blocks->r<N.pages->Dsc C N b r) (hC:∀e,C e->e.role=1\/e.role=2\/e.role=4) (i:Nat):
  (∀x,Tb.look (V.scan N n).tb.at_ (i:Int)=some x->∃e,C e/\e.lpn=i/\x.seq=e.seq/\R.read N x.block x.row x.slot x.mask=(e,0))/\
  (i<n->(∃b r:Nat,b<N.blocks/\r<N.pages/\∃f∈R.all N b r,f.en.lpn=i)->∃x,Tb.look (V.scan N n).tb.at_ (i:Int)=some x):=by
 have hmem:∀f,f∈V.all N↔∃b r:Nat,b<N.blocks/\r<N.pages/\f∈R.all N b r:=λf=>by
  unfold V.all;simp only[List.mem_flatMap,List.mem_range];constructor
  ·rintro⟨b,hb,r,hr,hf⟩;exact⟨b,r,hb,hr,hf⟩
  ·rintro⟨b,r,hb,hr,hf⟩;exact⟨b,hb,r,hr,hf⟩
 have hsz:V.size (n:Int)=n:=by unfold V.size;omega
 have hlk:Tb.look (V.scan N n).tb.at_ (i:Int)=Tb.look (V.goS N (V.all N) n n).tb.at_ (i:Int):=by
  unfold V.scan V.scanOf;rw[hsz]
 have key:=V.goS_look N (V.all N) n n i;rw[<- hlk]at key;have hst:(V.standOf (V.of (V.all N) i)).2=true->C (V.standOf (V.of (V.all N) i)).1.en/\(V.standOf (V.of (V.all N) i)).1.en.lpn=i/\R.read N (V.standOf (V.of (V.all N) i)).1.block (V.standOf (V.of (V.all N) i)).1.row (V.standOf (V.of (V.all N) i)).1.slot (V.standOf (V.of (V.all N) i)).1.mask=((V.standOf (V.of (V.all N) i)).1.en,0):=λhs=>by
  have hm:=List.mem_filter.1 (V.standOf_mem hs);obtain⟨b,r,hb,hr,hf⟩:=(hmem _).1 hm.1;have h1:=(hd b r hb hr).fnd hoff hf;exact⟨h1.1,eq_of_beq hm.2,h1.2⟩
 constructor
 ·intro x hx;rw[hx]at key;split at key
  ·rename_i h;injection key with key;obtain⟨c1,c2,c3⟩:=hst h.2.1;rw[key];exact⟨_,c1,c2,rfl,c3⟩
  ·cases key
 ·rintro hi ⟨b,r,hb,hr,f,hf,hfl⟩;have hne:V.of (V.all N) i≠[]:=by
   have:f∈V.of (V.all N) i:=List.mem_filter.2 ⟨(hmem f).2 ⟨b,r,hb,hr,hf⟩,by simp[hfl]⟩;intro e;rw[e]at this;cases this
  have hs:=V.standOf_true _ hne;obtain⟨c1,c2,_⟩:=hst hs;have hok:Tb.ok (Tb.new n) (V.standOf (V.of (V.all N) i)).1.en=true:=by
   unfold Tb.ok;rw[c2,decide_eq_false (by omega),show(Tb.new (n:Int)).logical=n from by unfold Tb.new;show min (max (n:Int) 0) 65536=n;omega,decide_eq_false (by omega)];rcases hC _ c1 with e | e | e<;>rw[e]<;>rfl
  rw[if_pos ⟨hi,hs,hok⟩]at key;exact⟨_,key⟩
theorem R.all_same {N N':Nand} {b r:Int} (hl:N.Like N') (ho:N'.off=N.off) (hd:∀i,N'.dead.getD i false=N.dead.getD i false) (hp:∀d:Int,N'.pageAt d b r=N.pageAt d b r):R.all N' b r=R.all N b r:=by
 have hlook:∀d:Int,M.look N' d b r=M.look N d b r:=λd=>by
  have hr:N'.refuses d b r=N.refuses d b r:=by
   unfold Nand.refuses;rw[ho,hl.dies,hl.blocks,hl.pages,hd]
  have h1:N'.readE d b r=N.readE d b r:=by unfold Nand.readE;rw[hr,hp]
  have h2:N'.readV d b r=N.readV d b r:=by unfold Nand.readV;rw[hr,hp]
  unfold M.look;simp only[h1,h2]
 have h1:M.masks N' b r=M.masks N b r:=by
  unfold M.masks M.rowN;simp only[hlook,hl.dies]
 have h2:∀m,R.look N' b r m=R.look N b r m:=λm=>by
  unfold R.look R.ones R.one;simp only[hlook]
 have h3:∀m,R.allM N' b r m=R.allM N b r m:=λm=>by
  unfold R.allM;rw[h2]
 unfold R.all;rw[h1,show R.allM N' b r=R.allM N b r from funext h3]
theorem Dsc.less {C:En->Prop} {N N':Nand} {b r:Int} (h:Dsc C N b r) (hl:N.Like N') (hp:∀(d:Int) (c:NCell),N'.pageAt d b r=some c->c.lost=true\/N.pageAt d b r=some c):Dsc C N' b r:=by
 rcases h with h | ⟨l,h1,h2,h3⟩
 ·left;intro d c hc;rcases hp d c hc with e | e
  ·exact e
  ·exact h d c e
 ·right;rw[hl.dies];refine⟨l,h1.like hl,λx hx c hc=>?_,h3⟩;rcases hp _ c hc with e | e
  ·exact .inl e
  ·exact h2 x hx c e
def arm (N:Nand) (c:Nat) (kp:Int):Nand:={N with cuts:=true,left:=c,keep:=kp}
theorem setCut_arm {N:Nand} (h:N.off=false) (c:Nat) (kp:Int):N.setCut c kp=arm N c (min (max kp 0) 32):=by
 unfold Nand.setCut arm;rw[h,if_neg Bool.false_ne_true,decide_eq_true (show(0:Int)<=(c:Int)by omega),decide_eq_false (show¬(c:Int)<0 by omega),<- h]
theorem prog_arm {N:Nand} {d b r:Int} (h:N.Lit) (hr:N.refuses d b r=0) (hc:r=(N.blk d.toNat b.toNat).cells.length) (hf:N.fails d b r=false) (pg:List UInt8) (c:Nat) (kp:Int):
  (arm N (c+1) kp).progE d b r=0/\(arm N (c+1) kp).progN d b r pg=arm (N.progN d b r pg) c kp/\(arm N 0 kp).progE d b r=9/\
  ∃M,(arm N 0 kp).progN d b r pg=M/\M.off=true/\N.Like M/\M.dead=N.dead/\M.plan=N.plan/\M.broken=N.broken/\∀i j,M.blk i j=if i=d.toNat/\j=b.toNat then {N.blk d.toNat b.toNat with cells:=(N.blk d.toNat b.toNat).cells++[⟨Nand.fillP kp.toNat pg,false,true⟩]}else N.blk i j:=by
 have hra:∀c,(arm N c kp).refuses d b r=0:=λc=>hr;have hfa:∀c,(arm N c kp).fails d b r=false:=λc=>hf;have hcb:(arm N (c+1) kp).cutB=false:=by
  unfold Nand.cutB arm;show(true&&decide (((c+1:Nat):Int)<=0))=false;rw[decide_eq_false (by omega)];rfl
 have hcb0:(arm N 0 kp).cutB=true:=rfl;have hcN:N.cutB=false:=h.cutB;have hcts:=h.cuts;refine⟨?_,?_,?_,_,rfl,?_⟩
 ·unfold Nand.progE;rw[hra,if_neg (by decide),if_neg (show¬r≠((arm N (c+1) kp).blk d.toNat b.toNat).cells.length fromλe=>e hc),hcb,if_neg (by decide),hfa,if_neg (by decide)]
 ·unfold Nand.progN;rw[hra,if_neg (by decide),if_neg (show¬r≠((arm N (c+1) kp).blk d.toNat b.toNat).cells.length fromλe=>e hc),hcb,if_neg (by decide),hfa];rw[hr,if_neg (by decide),if_neg (show¬r≠(N.blk d.toNat b.toNat).cells.length fromλe=>e hc),hcN,if_neg (by decide),hf];unfold Nand.cutN;rw[hcb,hcN,hcts];unfold Nand.push Nand.setBlk arm;simp only[if_true,Bool.false_eq_true,if_false];congr 1;omega
 ·unfold Nand.progE;rw[hra,if_neg (by decide),if_neg (show¬r≠((arm N 0 kp).blk d.toNat b.toNat).cells.length fromλe=>e hc),hcb0,if_pos rfl]
 ·unfold Nand.progN;rw[hra,if_neg (by decide),if_neg (show¬r≠((arm N 0 kp).blk d.toNat b.toNat).cells.length fromλe=>e hc),hcb0,if_pos rfl];exact⟨rfl,⟨rfl,rfl,rfl⟩,rfl,rfl,rfl,λi j=>rfl⟩
structure TornR (N N':Nand) (b r:Int) (q:List (Int×Sh)) (c:Nat) (kp:Int):Prop where
 off:N'.off=true
 like:N.Like N'
 dead:N'.dead=N.dead
 plan:∀a∈N'.plan,a∈N.plan
 broken:N'.broken=N.broken
 cells:∀k x,q[k]? =some x->(N'.blk x.1.toNat b.toNat).cells=(N.blk x.1.toNat b.toNat).cells++if k<c then[⟨putP x.2,false,false⟩]else if k=c then[⟨Nand.fillP kp.toNat (putP x.2),false,true⟩]else[]
 rest:∀i j,(j≠b.toNat\/∀x∈q,x.1.toNat≠i)->N'.blk i j=N.blk i j
theorem go_arm (b r:Int) (kp:Int):∀(q:List (Int×Sh)) (N:Nand) (f:Int) (c:Nat),RdyR N b r q->(∀x∈q,N.failB b r x.1=false)->
  (q.length<=c->R.go b r q (arm N c kp) f=(arm (R.go b r q N f).1 (c-q.length) kp,(R.go b r q N f).2))/\(c<q.length->∃N',R.go b r q (arm N c kp) f=(N',f,9)/\TornR N N' b r q c kp)
 | [],N,f,c,h,_=>⟨λ_=>rfl,λhc=>absurd hc (by simp)⟩
 | (d,s)::q,N,f,c,h,hf=>by
  have hx:=h.inn (d,s) (by simp);dsimp only at hx;have hfd:=hf (d,s) (by simp);dsimp only at hfd;unfold Nand.failB at hfd;rw[Bool.or_eq_false_iff]at hfd;have hc:=h.cells (d,s) (by simp) hfd.1;dsimp only at hc;have hr:=h.lit.refuses hx h.blk h.row;rw[hfd.1,if_neg (by decide)]at hr;have hnd:=List.nodup_cons.1 h.nodup;have hne:∀x∈q,x.1≠d:=λx hxq e=>hnd.1 (List.mem_map.2 ⟨x,hxq,e⟩);have hne2:∀x∈q,x.1.toNat≠d.toNat:=λx hxq e=>by
   have:=h.inn x (by simp[hxq]);exact hne x hxq (by omega)
  have e1:=progE_in hr hc.symm h.lit.cutB;rw[hfd.2,if_neg (by decide)]at e1;have e2:=progN_in (pg:=putP s) hr hc.symm h.lit.cutB;cases c with
  | zero=>
   obtain⟨_,_,a3,M,a4,a5,a6,a7,a8,a9,a10⟩:=prog_arm h.lit hr hc.symm hfd.2 (putP s) 0 kp;refine⟨λhle=>absurd hle (by simp),λ_=>⟨M,?_,a5,a6,a7,λa ha=>by rw[<- a8];exact ha,a9,λk x hk=>?_,λi j hij=>?_⟩⟩
   ·rw[R.go,a3,if_neg (by decide),if_pos rfl,a4]
   ·cases k with
    | zero=>
     simp only[List.getElem?_cons_zero,Option.some.injEq]at hk;subst hk;rw[a10,if_pos ⟨rfl,rfl⟩,if_neg (by omega),if_pos rfl]
    | succ k=>
     have hk:q[k]? =some x:=by simpa using hk
     have:=hne2 x (List.mem_of_getElem? hk);rw[a10,if_neg (by omega),if_neg (by omega),if_neg (by omega),List.append_nil]
   ·rw[a10,if_neg];rintro⟨rfl,rfl⟩;rcases hij with h' | h'
    ·exact h' rfl
    ·exact h' (d,s) (by simp) rfl
  | succ c=>
   obtain⟨a1,a2,_,_⟩:=prog_arm h.lit hr hc.symm hfd.2 (putP s) c kp;obtain⟨N1,hN1⟩:∃N1,N.progN d b r (putP s)=N1:=⟨_,rfl⟩;rw[hN1]at e2 a2;have hb:∀i j,N1.blk i j=if i=d.toNat/\j=b.toNat then {N.blk d.toNat b.toNat with cells:=(N.blk d.toNat b.toNat).cells++[⟨putP s,N.fails d b r,false⟩]}else N.blk i j:=λi j=>by rw[e2];rfl
   have hlike:N.Like N1:=by rw[e2];exact⟨rfl,rfl,rfl⟩
   have hlit:N1.Lit:=by rw[<- hN1];exact h.lit.prog _ _ _ _
   have hbr:N1.broken=N.broken:=by rw[e2];rfl
   have hdead:N1.dead=N.dead:=by rw[e2];rfl
   have hplan:N1.plan=N.plan.erase (d,b,r):=by rw[e2];rfl
   have hq:∀x∈q,N1.blk x.1.toNat b.toNat=N.blk x.1.toNat b.toNat:=λx hxq=>by rw[hb,if_neg (by have:=hne2 x hxq;omega)]
   have hfl:∀x∈q,N1.fails x.1 b r=N.fails x.1 b r:=λx hxq=>by
    unfold Nand.fails;rw[hq x hxq,hplan];congr 1;rw[decide_eq_decide];exact List.mem_erase_of_ne (λe=>hne x hxq (by injection e))
   have hfb:∀x∈q,N1.failB b r x.1=false:=λx hxq=>by
    have:=hf x (by simp[hxq]);unfold Nand.failB at this ⊢;rw[hdead,hfl x hxq];exact this
   obtain⟨g1,g2⟩:=go_arm b r kp q N1 f c ⟨hlit,hnd.2,λx hxq=>by rw[hlike.dies];exact h.inn x (by simp[hxq]),by rw[hlike.blocks];exact h.blk,by rw[hlike.pages];exact h.row,λx hxq hd=>by rw[hq x hxq];exact h.cells x (by simp[hxq]) (by rw[<- hdead];exact hd)⟩ hfb;have s1:R.go b r ((d,s)::q) (arm N (c+1) kp) f=R.go b r q (arm N1 c kp) f:=by rw[R.go,a1,if_pos rfl,a2]
   have s2:R.go b r ((d,s)::q) N f=R.go b r q N1 f:=by rw[R.go,e1,if_pos rfl,hN1]
   rw[s1,s2];refine⟨λhle=>?_,λhlt=>?_⟩
   ·rw[List.length_cons]at hle ⊢;rw[g1 (by omega),show c+1-(q.length+1)=c-q.length from by omega]
   ·rw[List.length_cons]at hlt;obtain⟨N',g3,g4⟩:=g2 (by omega);refine⟨N',g3,g4.off,hlike.trans g4.like,g4.dead.trans hdead,λa ha=>?_,g4.broken.trans hbr,λk x hk=>?_,λi j hij=>?_⟩
    ·have:=g4.plan a ha;rw[hplan]at this;exact List.mem_of_mem_erase this
    ·cases k with
     | zero=>
      simp only[List.getElem?_cons_zero,Option.some.injEq]at hk;subst hk;dsimp only;rw[g4.rest _ _ (.inr λy hy=>hne2 y hy),hb,if_pos ⟨rfl,rfl⟩,hfd.2,if_pos (by omega)]
     | succ k=>
      have hk:q[k]? =some x:=by simpa using hk
      rw[g4.cells k x hk,hq x (List.mem_of_getElem? hk)]
      by_cases h1:k<c
      ·rw[if_pos h1,if_pos (show k+1<c+1 by omega)]
      ·rw[if_neg h1,if_neg (show¬k+1<c+1 by omega)]
       by_cases h2:k=c
       ·rw[if_pos h2,if_pos (show k+1=c+1 by omega)]
       ·rw[if_neg h2,if_neg (show¬k+1=c+1 by omega)]
    ·rw[g4.rest i j (hij.imp id λh' x hxq=>h' x (by simp[hxq])),hb,if_neg];rintro⟨rfl,rfl⟩;rcases hij with h' | h'
     ·exact h' rfl
     ·exact h' (d,s) (by simp) rfl
namespace Dv
def armed (S:Dv) (c:Nat) (kp:Int):Dv:={S with N:=arm S.N c kp}
theorem armed_at1 (S:Dv) (c:Nat) (kp:Int):(S.armed c kp).at1=S.at1.armed c kp:=by
 unfold at1;have e1:(S.armed c kp).left=S.left:=rfl;rw[e1];split<;>rfl
end Dv
theorem Inv.pen_arm {S:Dv} {k m c:Nat} {kp:Int} {l:List En} (h:Inv (-1) S) (hO:S.Ok (8*Dv.fuel+k) m) (hno:NoF S) (hr:0<S.rows) (hf:∀e∈l,FitR e) (hl0:l.length≠0) (hnx:S.next<=1099511627775-7):
  (S.N.dies<=c->(S.armed c kp).pen l=((wroteP S.at1 l).armed (c-S.N.dies) kp,(S.at1.fit l:Int),(0:Int)))/\
  (c<S.N.dies->∃N',(S.armed c kp).pen l=({S.at1.wrote l with N:=N'},(0:Int),(9:Int))/\TornR S.N N' S.at1.op S.at1.row (R.job S.at1.op S.at1.row S.at1.mask (S.at1.es l)) c kp):=by
 have hg:=hO.gd.ok.bd16;obtain⟨p1,p2,p3,p4⟩:=h.pen_calm hO hno hr hf hl0 hnx;have hQ:=p2.inv;have ho:=hQ.opn p4.left;have hat:=Dv.at1_like S;have hms:=ho.mask;rw[hat.1]at hms;obtain⟨m1,m2⟩:=msk_all hms hg.1;have hR:=hQ.rowIs p3 p4.left hf p4.bd;have hrdy:RdyW S.at1.N S.at1.op S.at1.row S.at1.mask:=⟨hQ.lit,λd hd ha=>(ho.cells d hd).2 ha⟩;have hq:=hrdy.rdy hR;have hnoQ:=hno.went p2;have hfail:∀x∈R.job S.at1.op S.at1.row S.at1.mask (S.at1.es l),S.at1.N.failB S.at1.op S.at1.row x.1=false:=λx hx=>by
  have hxi:=hR.inn x hx;have:=hnoQ.fails S.at1.op S.at1.row x.1.toNat
  rwa [show((x.1.toNat:Nat):Int)=x.1 from by omega]at this
 have hql:(R.job S.at1.op S.at1.row S.at1.mask (S.at1.es l)).length=S.N.dies:=by
  rw[job_len,Dv.es_len,m2];omega
 obtain⟨g1,g2⟩:=go_arm S.at1.op S.at1.row kp _ S.at1.N 0 c hq hfail;rw[hql]at g1 g2;have hwr:∀N2,R.write N2 S.at1.op S.at1.row S.at1.mask (S.at1.es l)=R.go S.at1.op S.at1.row (R.job S.at1.op S.at1.row S.at1.mask (S.at1.es l)) N2 0:=λN2=>by unfold R.write;rw[if_pos hR.par]
 have hwa:(S.at1.armed c kp).wr l=R.go S.at1.op S.at1.row (R.job S.at1.op S.at1.row S.at1.mask (S.at1.es l)) (arm S.at1.N c kp) 0:=hwr _;have hwc:S.at1.wr l=R.go S.at1.op S.at1.row (R.job S.at1.op S.at1.row S.at1.mask (S.at1.es l)) S.at1.N 0:=hwr _;have herr:=p4.turn.err;rw[if_pos p4.err]at herr;have hlf:¬((S.armed c kp).left=false/\(S.armed c kp).pick<0):=λe=>by
  rcases h.rows_pos hO hr with e2 | e2
  ·rw[show(S.armed c kp).left=S.left from rfl,e2]at e;cases e.1
  ·exact e2 e.2
 have hpen:(S.armed c kp).pen l=Dv.write (159+1) (S.armed c kp) l:=rfl;rw[hpen,Dv.write_succ,if_neg hl0,if_neg hlf,Dv.armed_at1];have hbd:¬(S.at1.armed c kp).next>1099511627775-((S.at1.armed c kp).fit l:Int)+1:=p4.bd;rw[if_neg hbd];refine⟨λhle=>?_,λhlt=>?_⟩
 ·have g1:=g1 hle;rw[<- hwc]at g1;rw[<- hwa]at g1;rw[if_neg (by rw[g1,herr];decide),if_pos (by rw[g1];exact herr)];have e1:(S.at1.armed c kp).wrote l=(S.at1.wrote l).armed (c-S.N.dies) kp:=by
   unfold Dv.wrote;rw[g1];rfl
  rw[e1];rfl
 ·obtain⟨N',g3,g4⟩:=g2 hlt;rw[<- hwa]at g3;rw[if_neg (by rw[g3];show¬(9:Int)=1;decide),if_neg (by rw[g3];show¬(9:Int)=0;decide),if_pos (by rw[g3])];refine⟨N',?_,by rw[hat.1]at g4;exact g4⟩;have e1:(S.at1.armed c kp).wrote l={S.at1.wrote l with N:=N'}:=by
   unfold Dv.wrote;rw[g3];rfl
  rw[e1]
end Go.Proofs.YtdocmcapegcoeaaGreat
