/- Helpers, proved here. No condition. -/
import Derived.Test.YtdocmcapegcoeaaGreatA06
import Derived.Test.YtdocmcapegcoeaaGreatA13
import Derived.Test.YtdocmcapegcoeaaGreatA20
import Derived.Test.YtdocmcapegcoeaaGreatA22
import Derived.Test.YtdocmcapegcoeaaGreatA25
import Derived.Test.YtdocmcapegcoeaaGreatA26
import Derived.Test.YtdocmcapegcoeaaGreatRows
import Derived.JoinedOf
set_option maxRecDepth 20000
set_option linter.all false
namespace Go.Proofs.YtdocmcapegcoeaaGreat
open Go
theorem eucl {P q r q' r':Nat} (h:q*P+r=q'*P+r') (hr:r<P) (hr':r'<P):q=q'/\r=r':=by
 have hP:0<P:=by omega
 have e1:(q*P+r)/P=q:=by rw[Nat.mul_comm,Nat.mul_add_div hP,Nat.div_eq_of_lt hr];omega
 have e2:(q'*P+r')/P=q':=by rw[Nat.mul_comm,Nat.mul_add_div hP,Nat.div_eq_of_lt hr'];omega
 rw[h,e2]at e1;subst e1;omega
theorem pkMin_const {f:Int->Int->Int} (h:∀x y,¬f x y<0):∀(l:List Int) (m:Int),pkMin f l m=m
 | [],m=>rfl
 | x::l,m=>by rw[pkMin,if_neg (h x m),pkMin_const h l m]
theorem pkSome_head {kind:Int->Bool} {o:Int} {x:Nat} (hx:(((x:Int) !=o)&&kind x)=true) (hno:∀y,y<x->(((y:Nat):Int) !=o&&kind (y:Nat))=false):∀n,(n<=x->pkSome kind o n=[])/\(x<n->∃l,pkSome kind o n=(x:Int)::l)
 | 0=>⟨λ_=>rfl,λh=>by omega⟩
 | n+1=>by
  obtain⟨h1,h2⟩:=pkSome_head hx hno n;rw[pkSome_succ];refine⟨λh=>?_,λh=>?_⟩
  ·rw[if_neg (by rw[hno n (by omega)];decide),h1 (by omega)]
  ·rcases Nat.lt_or_ge x n with hlt | hge
   ·obtain⟨l,hl⟩:=h2 hlt;rw[hl];split
    ·exact⟨_,rfl⟩
    ·exact⟨_,rfl⟩
   ·obtain rfl:n=x:=by omega
    rw[if_pos hx,h1 (Nat.le_refl _)];exact⟨[],rfl⟩
theorem cmpI_self (x:Int):¬cmpI x x<0:=by unfold cmpI;simp
namespace Inv
variable {fd : Int} {S : Dv} {k m : Nat}
theorem free_iff (h:Inv fd S) (hO:S.Ok k m) {b:Int} (hb:S.t.has b=true):pkFree S.t S.T b=S.t.blank b/\(S.t.blank b=true->(b !=S.op)=true):=by
 have hu:=h.usable hO hb;unfold pkFree;rw[hu,Bool.true_and];have hop:S.t.blank b=true->(b !=S.op)=true:=λhbl=>by
  simp only[Tl.blank,Bool.and_eq_true,Bool.not_eq_true']at hbl;rw[bne_iff_ne];intro e;rcases h.op with e2 | e2
  ·have:=(Tl.has_iff.1 hb).1;omega
  ·have:=e2.used;rw[<- e,hbl.2]at this;cases this
 refine⟨?_,hop⟩;cases hbl:S.t.blank b with
 | false=>rfl
 | true=>
  rw[Bool.true_and,beq_iff_eq];simp only[Tl.blank,Bool.and_eq_true,Bool.not_eq_true']at hbl;rw[hO.T.cnt];unfold Tb.cntB;have:(S.T.at_.countP λx=>x.2.block==b)=0:=by
   rw[List.countP_eq_zero];intro x hx hxb;simp only[beq_iff_eq]at hxb;have hlk:Tb.look S.T.at_ x.1=some x.2:=look_of hO.T hx;have:=(h.st _ _ hlk).used;rw[hxb,hbl.2]at this;cases this
  rw[this];rfl
theorem pick_first (h:Inv fd S) (hO:S.Ok k m) (hw:∀b,S.t.has b=true->(S.t.at_ b).wear=0) {q:Nat} (hq:q<S.t.b) (hbl:(S.t.at_ (q:Nat)).used=false) (hno:∀y:Nat,y<q->(S.t.at_ (y:Nat)).used=true):S.pick=q:=by
 have hhas:∀y:Nat,y<S.t.b->S.t.has (y:Nat)=true:=λy hy=>Tl.has_iff.2 (by omega);have hwear:∀x,S.t.wear x=0:=λx=>by
  unfold Tl.wear;split
  ·rename_i hx;exact hw x hx
  ·rfl
 obtain⟨a1,a2⟩:=h.free_iff hO (hhas q hq);have hb1:S.t.blank (q:Nat)=true:=by unfold Tl.blank;rw[hhas q hq,hbl];rfl
 obtain⟨l,hl⟩:=(pkSome_head (kind:=pkFree S.t S.T) (o:=S.op) (x:=q) (by rw[a2 hb1,a1,hb1];rfl) (λy hy=>by
  rw[(h.free_iff hO (hhas y (by omega))).1];unfold Tl.blank;rw[hno y hy];simp) S.t.b).2 hq
 unfold Dv.pick;rw[hl];show pkMin _ l (q:Int)=q;exact pkMin_const (λx y=>by rw[hwear,hwear];exact cmpI_self 0) l q
end Inv
structure SeqI (D B P rows:Nat) (S:Dv):Prop where
 inv:Inv (-1) S
 no:NoF S
 dies:S.N.dies=D
 blocks:S.N.blocks=B
 pages:S.N.pages=P
 ops:S.N.ops=((rows*D:Nat):Int)
 broken:S.N.broken=0
 worn:∀i j,(S.N.blk i j).worn=0
 sb:∀b:Nat,b<B->(S.t.at_ b).wear=0/\(S.t.at_ b).held=false/\(S.t.at_ b).used=decide (b*P<rows)
 op:(rows=0/\S.op= -1)\/∃q r,rows=q*P+r+1/\r<P/\S.op=(q:Nat)/\S.row=((r+1:Nat):Int)
theorem msk_all {D:Nat} {m:Int} (h:Msk D (-1) m) (hD:3<=D/\D<=6):m=L.all D/\G.slots m=(D:Int)-1:=by
 rcases h.eq hD with⟨e,_⟩ | ⟨e,_⟩
 ·refine⟨e,?_⟩;rw[e];exact(slots_all D (by omega) hD.1).1
 ·omega
namespace SeqI
variable {D B P rows : Nat} {S : Dv} {k m : Nat} {l : List En}
theorem new (D B P:Nat) (lg:Int):SeqI D B P 0 (Dv.new D B P lg):=by
 refine⟨Inv.new _ _ _ _ _,NoF.new _ _ _ _,rfl,rfl,rfl,by show(0:Int)=_;simp,rfl,λ_ _=>rfl,λb hb=>?_, .inl ⟨rfl,rfl⟩⟩;have:(Tl.new D B P).at_ b=Sb.zero:=by
  unfold Tl.new Tl.at_;dsimp only;rw[List.getD_eq_getElem?_getD,List.getElem?_replicate];split<;>rfl
 show((Tl.new D B P).at_ b).wear=0/\((Tl.new D B P).at_ b).held=false/\((Tl.new D B P).at_ b).used=_;rw[this];exact⟨rfl,rfl,by simp[Sb.zero]⟩
theorem at1 (h:SeqI D B P rows S) (hO:S.Ok k m) {q r:Nat} (hq:rows=q*P+r) (hr:r<P) (hB:q<B):S.at1.op=(q:Nat)/\S.at1.row=(r:Nat)/\S.at1.mask=L.all D/\G.slots S.at1.mask=(D:Int)-1/\S.at1.left=true:=by
 have hg:=hO.gd.ok.bd16;rw[h.dies,h.blocks,h.pages]at hg;have hb:=hO.t.b;rw[h.blocks]at hb;have hpick:r=0->S.pick=q:=λe=>by
  refine h.inv.pick_first hO (λb hb2=>?_) (by omega) ?_ λy hy=>?_
  ·have:=Tl.has_iff.1 hb2;obtain⟨y,rfl⟩:=Int.eq_ofNat_of_zero_le this.1;exact(h.sb y (by omega)).1
  ·rw[(h.sb q hB).2.2];exact decide_eq_false (by omega)
  ·rw[(h.sb y (by omega)).2.2];refine decide_eq_true ?_;have:(y+1)*P<=q*P:=Nat.mul_le_mul_right _ hy;rw[Nat.succ_mul]at this;omega
 have hopens:S.left=false->r=0->S.at1=S.opened/\¬S.pick<0:=λhl e=>by
  have:=hpick e;refine⟨?_,by omega⟩;unfold Dv.at1;rw[hl];rfl
 have hopen:S.left=false->r=0->S.at1.op=(q:Nat)/\S.at1.row=(r:Nat)/\S.at1.mask=L.all D/\G.slots S.at1.mask=(D:Int)-1/\S.at1.left=true:=λhl e=>by
  obtain⟨e1,e2⟩:=hopens hl e;obtain⟨w,w2,w3⟩:=h.inv.opens hO hl e2;rw[e1];have hms:=(w.inv.opn w2).mask;have hd:S.opened.N.dies=D:=h.dies;rw[hd]at hms;obtain⟨m1,m2⟩:=msk_all hms hg.1;exact⟨hpick e,by rw[e];rfl,m1,m2,w2⟩
 rcases h.op with⟨e1,e2⟩ | ⟨q0,r0,e1,e2,e3,e4⟩
 ·have hr0:r=0:=by omega
  refine hopen ?_ hr0;unfold Dv.left;rw[e2];rfl
 ·have hopn:Opn (-1) S:=by
   rcases h.inv.op with e | e
   ·omega
   ·exact e
  have hms:=hopn.mask;rw[h.dies]at hms;obtain⟨m1,m2⟩:=msk_all hms hg.1
  by_cases hlt:r0+1<P
  ·obtain⟨f1,f2⟩:=eucl (show q0*P+(r0+1)=q*P+r by omega) hlt hr;have hl:S.left=true:=by
    unfold Dv.left;rw[decide_eq_true (by omega),h.pages,decide_eq_true (by omega),decide_eq_true (by omega)];rfl
   have:S.at1=S:=by unfold Dv.at1;rw[hl];rfl
   rw[this];exact⟨by rw[e3,f1],by rw[e4,f2],m1,m2,hl⟩
  ·have hl:S.left=false:=by
    unfold Dv.left;rw[h.pages,decide_eq_false (p:=S.row<(P:Int)) (by omega),Bool.and_false,Bool.false_and]
   have:r=0:=by
    have:q*P+r=(q0+1)*P+0:=by rw[Nat.succ_mul];omega
    exact(eucl this hr (by omega)).2
   exact hopen hl this
theorem rows_pos (h:SeqI D B P rows S) (hO:S.Ok k m) {q r:Nat} (hq:rows=q*P+r) (hr:r<P) (hB:q<B):0<S.rows:=by
 obtain⟨a1,a2,a3,a4,a5⟩:=h.at1 hO hq hr hB;have hg:=hO.gd.ok.bd16;rw[h.dies,h.blocks,h.pages]at hg;unfold Dv.at1 at a5;cases hl:S.left with
 | true=>
  have:=Dv.left_spec hl;unfold Dv.rows;rw[if_pos (by omega)];omega
 | false=>
  rw[hl,if_neg Bool.false_ne_true]at a5;unfold Dv.at1 at a1;rw[hl,if_neg Bool.false_ne_true]at a1;have hp:S.pick=q:=a1;have hbl:=Tl.blanks_open hO.t.len (Dv.pick_blank (S:=S) (by omega));unfold Dv.rows;rw[h.pages];have:P*1<=P*S.t.blanks:=Nat.mul_le_mul_left _ (by omega);omega
theorem pen (h:SeqI D B P rows S) (hO:S.Ok (8*Dv.fuel+k) m) {q r:Nat} (hq:rows=q*P+r) (hr:r<P) (hB:q<B) (hf:∀e∈l,FitR e) (hl0:l.length≠0) (hnx:S.next<=1099511627775-7):
  S.pen l=(wroteP S.at1 l,(S.at1.fit l:Int),(0:Int))/\S.at1.fit l=min l.length (D-1)/\SeqI D B P (rows+1) (wroteP S.at1 l)/\(wroteP S.at1 l).Ok k m/\Went (-1) S S.at1 0/\Last (-1) S.at1 l/\S.at1.Ok (8+k) m:=by
 obtain⟨a1,a2,a3,a4,a5⟩:=h.at1 hO hq hr hB;have hg:=hO.gd.ok.bd16;rw[h.dies,h.blocks,h.pages]at hg;obtain⟨p1,p2,p3,p4⟩:=h.inv.pen_calm hO h.no (h.rows_pos hO hq hr hB) hf hl0 hnx;have hd:∀s∈l,s.data.length=16:=λe he=>(hf e he).len;have hok:=(Dv.pen_keep hO hd).1;rw[p1]at hok;have hfit:S.at1.fit l=min l.length (D-1):=by unfold Dv.fit;rw[a4];omega
 have hli:Inv (-1) (wroteP S.at1 l):=p4.inv p2.inv p3;have ht:=p4.turn;have hat1:=Dv.at1_like S;refine⟨p1,hfit,⟨hli,(h.no.went p2).wrote p4,?_,?_,?_,?_,?_,λi j=>?_,λb hb=>?_, .inr ⟨q,r,by omega,hr,a1,?_⟩⟩,hok,p2,p4,p3⟩
 ·exact ht.like.dies.trans (by rw[hat1.1];exact h.dies)
 ·exact ht.like.blocks.trans (by rw[hat1.1];exact h.blocks)
 ·exact ht.like.pages.trans (by rw[hat1.1];exact h.pages)
 ·have h1:=ht.ops;have h2:((R.job S.at1.op S.at1.row S.at1.mask (S.at1.es l)).filter λx=>!S.at1.N.dead.getD x.1.toNat false).length=D:=by
   rw[List.filter_eq_self.2 (λx _=>by rw[(h.no.went p2).dead];rfl)];have:=Dv.es_len S.at1 l;rw[job_len,this,a4];omega
  show(S.at1.wrote l).N.ops=_;rw[h1,h2,hat1.1,h.ops,Nat.succ_mul];omega
 ·show(S.at1.wrote l).N.broken=0;rw[ht.broken,hat1.1];exact h.broken
 ·show((S.at1.wrote l).N.blk i j).worn=0;rw[(ht.flags i j).2.2,hat1.1];exact h.worn i j
 ·have hb':S.t.has (b:Nat)=true:=Tl.has_iff.2 (by have:=hO.t.b;rw[h.blocks]at this;omega);have hs:=p2.sb b hb';have h0:=h.sb b hb;refine⟨by show(S.at1.t.at_ b).wear=0;rw[hs.1];exact h0.1,by show(S.at1.t.at_ b).held=false;rw[hs.2.1];exact h0.2.1,?_⟩;show(S.at1.t.at_ b).used=_
  by_cases e:b=q
  ·subst e;have:=(p2.inv.opn a5).used;rw[a1]at this;rw[this];exact(decide_eq_true (by omega)).symm
  ·have e2:(S.at1.t.at_ b).used=(S.t.at_ b).used:=by
    unfold Dv.at1 at a1 ⊢;split
    ·rfl
    ·rename_i hl;rw[if_neg hl]at a1;have hp:S.pick=q:=a1;have hpb:S.t.has S.pick=true:=Tl.has_iff.2 (by have:=hO.t.b;rw[h.blocks]at this;omega);show((S.t.clean S.pick false).at_ b).used=_;unfold Tl.clean;rw[Tl.at_set hO.t.len _ hpb hb',if_neg (by omega)]
   rw[e2,h0.2.2,decide_eq_decide];rcases Nat.lt_or_ge b q with hlt | hge
   ·have:(b+1)*P<=q*P:=Nat.mul_le_mul_right _ hlt;rw[Nat.succ_mul]at this;omega
   ·have:(q+1)*P<=b*P:=Nat.mul_le_mul_right _ (by omega);rw[Nat.succ_mul]at this;omega
 ·show S.at1.row+1=_;rw[a2];omega
end SeqI
end Go.Proofs.YtdocmcapegcoeaaGreat
namespace Go.Proofs.YtdocmcapegcoeaaGreat
open Go Go.RowKit
theorem Dv.Ok.fault0 {S:Dv} {k m:Nat} (h:S.Ok k m) (kd x y z n xx:Int) (hk:kd≠1):({S with N:=(S.N.fault kd x y z n xx).2}:Dv).Ok k m:=
 ⟨h.gd.fault0 kd x y z n xx hk,h.t.like (Nand.like_fault _ _ _ _ _ _ _),h.T,h.sl,h.row,h.next⟩
namespace B18
def S0:Dv:=Dv.new 3 8 2 20
def S1:Dv:=(S0.pen [e18 1 1,e18 2 2,e18 3 3]).1
def S2:Dv:=(S1.pen [e18 3 3]).1
def S3:Dv:=(S2.carry 0 2).1
def S4:Dv:={S3 with N:=(S3.N.fault 4 2 0 0 0 0).2}
def S5:Dv:=(S4.step 2).1
def S6:Dv:=S5.room.1
def S7:Dv:=(S6.torn [e18 9 9]).1
theorem h1:(S0.pen [e18 1 1,e18 2 2,e18 3 3]).2=(2,0):=by kernel_rfl
theorem h2:(S1.pen [e18 3 3]).2=(1,0):=by kernel_rfl
theorem h3:(S2.carry 0 2).2=(2,0):=by kernel_rfl
theorem h4:Tb.look S3.T.at_ 1=some ⟨1,0,0,7,4,1⟩:=by kernel_rfl
theorem h5:S3.op=1:=by kernel_rfl
theorem h6:(S4.step 2).2=(1,0):=by kernel_rfl
theorem h7:S5.leftN=2:=by kernel_rfl
theorem h8:S5.N.broken=0:=by kernel_rfl
theorem h9:S5.room.2=0:=by kernel_rfl
theorem h10:(S6.torn [e18 9 9]).2=0:=by kernel_rfl
theorem h11:S7.clear.2=0:=by kernel_rfl
def U:Nat:=10000000000
theorem G0:S0.Ok (10*U) 0:=Dv.Ok.new 3 8 2 20 rfl _ (by decide)
theorem d3:∀s∈[e18 1 1,e18 2 2,e18 3 3],s.data.length=16:=by decide
theorem d1:∀s∈[e18 3 3],s.data.length=16:=by decide
theorem d9:∀s∈[e18 9 9],s.data.length=16:=by decide
theorem G1:S1.Ok (9*U) 0:=(Dv.pen_keep (G0.less (by decide:8*Dv.fuel+9*U<=_)) d3).1
theorem G2:S2.Ok (8*U) 0:=(Dv.pen_keep (G1.less (by decide:8*Dv.fuel+8*U<=_)) d1).1
theorem G3:S3.Ok (7*U) 0:=(Dv.carry_keep (G2.less (by decide:Dv.costC+7*U<=_)) 0 2).1
theorem G4:S4.Ok (7*U) 0:=Dv.Ok.fault0 G3 4 2 0 0 0 0 (by decide)
theorem G5:S5.Ok (6*U) 0:=(Dv.step_keep (G4.less (by decide:Dv.costS+6*U<=_)) 2).1
theorem G6:S6.Ok (5*U) 0:=(Dv.room_keep (G5.less (by decide:Dv.costM+5*U<=_))).1
theorem G7:S7.Ok (4*U) 0:=(Dv.tornGo_keep 1 S6 [e18 9 9] _ (G6.less (by decide:Dv.costT*1+4*U<=_)) d9).1
end B18
end Go.Proofs.YtdocmcapegcoeaaGreat
namespace Go.Proofs.YtdocmcapegcoeaaGreat
open Go Go.RowKit
open B18
theorem l16_Begun:Fn Tryz.prog 49 [] [] (λv As=>v= .bool true/\As=[]):=by
 refine Fn.enter [] Tryz.func49 rfl rfl rfl λX F hX=>?_;refine J.q hX λ_=>?_;refine J.cb hX (l16_begun) [] ?_;refine cpq ⟨_,rfl,trivial,?_⟩;refine J.q hX λ_=>?_;exact J.ru hX [] ⟨rfl,rfl⟩
theorem l18_begun:Fn Tryz.prog 15 [] [] (λv As=>v= .bool true/\As=[]):=by
 refine Fn.enter [] Tryz.func15 rfl rfl rfl λX F hX=>?_;refine J.q hX λ_=>?_;refine J.cb hX (l18_bench 3 8 2 rfl 20) [] ?_;rintro v As ⟨n,t,l,q,rfl,rfl⟩;refine⟨_,rfl,trivial,?_⟩;rw[show Dv.new 3 8 2 20=S0 from rfl];refine J.q hX λ_=>?_;refine J.cF ?_;refine J.q hX λ_=>?_;refine J.cb hX (l18_entry 1 1) [] ?_;refine cpq ⟨_,rfl,trivial,?_⟩;refine J.q hX λ_=>?_;refine J.cb hX (l18_entry 2 2) [] ?_;refine cpq ⟨_,rfl,trivial,?_⟩;refine J.q hX λ_=>?_;refine J.cb hX (l18_entry 3 3) [] ?_;refine cpq ⟨_,rfl,trivial,?_⟩;refine J.q hX λbx=>?_;refine J.ca hX (by kernel_rfl) (pn_Write q n t l S0 (9*U) 0 (G0.less (by decide)) (.pt (bx 0) 38 (cellsE [e18 1 1,e18 2 2,e18 3 3])) (some ⟨bx 0,0,none⟩) 3 3 [e18 1 1,e18 2 2,e18 3 3] (pt_rd _ _ _ _ _ rfl) rfl (by decide) B18.d3) [1,2,3,4,5] 0 rfl rfl rfl rfl rfl rfl (λ_=>rfl) ?_;refine cpq ⟨_,rfl,trivial,?_⟩;rw[show(S0.pen [e18 1 1,e18 2 2,e18 3 3]).1=S1 from rfl,h1];refine J.q hX λ_=>?_;refine J.cb hX (l18_entry 3 3) [] ?_;refine cpq ⟨_,rfl,trivial,?_⟩;refine J.q hX λby_=>?_;refine J.ca hX (by kernel_rfl) (pn_Write q n t l S1 (8*U) 0 (G1.less (by decide)) (.pt (by_ 0) 38 (cellsE [e18 3 3])) (some ⟨by_ 0,0,none⟩) 1 1 [e18 3 3] (pt_rd _ _ _ _ _ rfl) rfl (by decide) B18.d1) [1,2,3,4,6] 0 rfl rfl rfl rfl rfl rfl (λ_=>rfl) ?_;refine cpq ⟨_,rfl,trivial,?_⟩;rw[show(S1.pen [e18 3 3]).1=S2 from rfl,h2];refine J.q hX λ_=>?_;refine J.cb hX (sw_Carry n t l q S2 (7*U) 0 (G2.less (by decide)) 0 2) [1,2,3,4] ?_;refine cpq ⟨_,rfl,trivial,?_⟩;rw[show(S2.carry 0 2).1=S3 from rfl,h3];refine J.q hX λ_=>?_;refine J.cb hX (tb_Get l S3.T 1) [4] ?_;refine cpq ⟨_,rfl,trivial,?_⟩;rw[h4,Option.getD_some,Option.isSome_some];refine J.q hX λ_=>?_;refine J.cb hX (pn_Open q n t l S3) [1] ?_;refine cpq ⟨_,rfl,trivial,?_⟩;rw[h5];refine J.q hX λ_=>?_;refine J.cb hX (n_Fault n S3.N G3.gd.ok 0 4 2 0 0 0 0) [2] ?_;refine cpq ⟨_,rfl,trivial,?_⟩;rw[show(S3.N.fault 4 2 0 0 0 0).2=S4.N from rfl,show PenA q n t l S3=PenA q n t l S4 from rfl,show S3.t=S4.t from rfl,show S3.T=S4.T from rfl];refine J.q hX λ_=>?_;refine J.cb hX (mn_Step n t l q S4 (6*U) 0 (G4.less (by decide)) (by decide) 2) [1,2,3,4] ?_;refine cpq ⟨_,rfl,trivial,?_⟩;rw[show(S4.step 2).1=S5 from rfl,h6];refine J.q hX λ_=>?_;refine J.cb hX (l16_Begun) [] ?_;refine cpq ⟨_,rfl,trivial,?_⟩;refine J.q hX λ_=>?_;refine J.cb hX (mn_Left t l S5 (6*U) 0 G5) [3,4] ?_;refine cpq ⟨_,rfl,trivial,?_⟩;rw[h7];refine J.q hX λ_=>?_;refine J.cb hX (n_Broken n S5.N) [2] ?_;refine cpq ⟨_,rfl,trivial,?_⟩;rw[h8];refine J.q hX λ_=>?_;refine J.cb hX (sw_Room n t l q S5 (5*U) 0 (G5.less (by decide)) (by decide)) [1,2,3,4] ?_;refine cpq ⟨_,rfl,trivial,?_⟩;rw[show S5.room.1=S6 from rfl,h9];refine J.q hX λ_=>?_;refine J.cb hX (l18_entry 9 9) [] ?_;refine cpq ⟨_,rfl,trivial,?_⟩;refine J.q hX λ_=>?_;refine J.effG hX tk rfl rfl rfl (λ_=>rfl) (by(repeat' (first | exact Conj.nil | refine Conj.cons ?_ ?_ | omega | exact hq0 | (simpa using hq0) | (exactλh=>h) | exact rfl | (intro hq;have hq0:=hq;try simp only[Bool.and_eq_true,Bool.or_eq_true,decide_eq_true_eq,Bool.not_eq_true',decide_eq_false_iff_not]at hq) | (simp;done) | (simp;omega) | decide))) (λ_=>rfl) λbt=>⟨trivial,?_⟩;refine J.q hX λ_=>?_;refine J.ca hX (by kernel_rfl) (mn_Torn n t l q S6 (4*U) 0 (.pt bt 38 (cellsE [e18 9 9])) (some (bt,0)) 1 1 [e18 9 9] (pt_rd _ _ _ _ _ rfl) rfl (by decide) (by decide) (λh=>by cases h) B18.d9 (G6.less (by decide)) (by decide)) [1,2,3,4,8] 0 rfl rfl rfl rfl rfl rfl (λ_=>rfl) ?_;refine cpq ⟨_,rfl,trivial,?_⟩;rw[show(S6.torn [e18 9 9]).1=S7 from rfl,h10];refine J.q hX λ_=>?_;refine J.cb hX (pn_Open q n t l S7) [1] ?_;refine cpq ⟨_,rfl,trivial,?_⟩;refine J.q hX λ_=>?_;refine J.ca hX (by kernel_rfl) (sw_Clear n t l S7.N S7.t S7.T (3*U) 0 (G7.gd.less (by decide) (Nat.le_refl _)) (by decide) G7.t S7.op) [2,3,4] 0 rfl rfl rfl rfl rfl rfl (λ_=>rfl) ?_;refine cpq ⟨_,rfl,trivial,?_⟩;rw[show(Dv.clearX S7.N S7.t S7.T S7.op).2.2=0 from h11];refine J.q hX λ_=>?_;exact J.ru hX [] ⟨rfl,rfl⟩
end Go.Proofs.YtdocmcapegcoeaaGreat
namespace Go.Proofs.YtdocmcapegcoeaaGreat
open Go Go.RowKit
def lvPc:List Lk:=[.int .i64, .int .i64, .int .i64]
theorem leavesPc:leaves Tryz.prog 100 44=some lvPc:=by kernel_rfl
theorem fitsPc (b r s:Int):Fits lvPc (plL b r s):=⟨rfl,rfl,rfl,trivial⟩
theorem mkPc (zs:List Value):mkV Tryz.prog 44 zs= .agg zs.toArray:=by simp[mkV,Tryz.underlying44]
theorem gdPc:Tryz.prog.eqGuardType Tryz.prog.depth 44=false:=by kernel_rfl
theorem eqPc (b r s x y z:Int):eqCells (plL b r s) (plL x y z)=((b==x)&&((r==y)&&(s==z))):=by simp[plL,eqCells,cellEq]
def eL (lpn:Int) (j:Nat):List En:=(List.range j).map λi:Nat=>e18 (lpn+i) (lpn+i+1)
theorem eL_succ (lpn:Int) (j:Nat):eL lpn (j+1)=eL lpn j++[e18 (lpn+j) (lpn+j+1)]:=by unfold eL;rw[List.range_succ,List.map_append];rfl
theorem eL_len (lpn:Int) (j:Nat):(eL lpn j).length=j:=by simp[eL]
theorem eL_get (lpn:Int) {j i:Nat} (h:i<j):(eL lpn j).getD i En.zero=e18 (lpn+i) (lpn+i+1):=by
 unfold eL;rw[List.getD_eq_getElem?_getD,List.getElem?_map,List.getElem?_range h];rfl
theorem eL_data (lpn:Int) (j:Nat):∀s∈eL lpn j,s.data.length=16:=by
 intro s hs;simp only[eL,List.mem_map]at hs;obtain⟨i,_,rfl⟩:=hs;rfl
theorem e18_fit {k s:Int} (h:0<=k/\k<=65535):FitR (e18 k s):=⟨h, .inl rfl,rfl⟩
theorem eL_fit {lpn:Int} {j:Nat} (h:0<=lpn/\lpn+j<=65535):∀e∈eL lpn j,FitR e:=by
 intro s hs;simp only[eL,List.mem_map,List.mem_range]at hs;obtain⟨i,hi,rfl⟩:=hs;exact e18_fit (by omega)
theorem eL_nodup (lpn:Int) (j:Nat):((eL lpn j).map (·.lpn)).Nodup:=by
 unfold eL;rw[List.map_map];refine nodup_map_range _ _ λk k' _ hk e=>?_;simp only[Function.comp_apply,e18]at e;omega
end Go.Proofs.YtdocmcapegcoeaaGreat
namespace Go.Proofs.YtdocmcapegcoeaaGreat
open Go
theorem Msk.any {D:Nat} {fd m:Int} (h:Msk D (-1) m):Msk D fd m:=⟨h.set,h.lt,λd hd _=>h.all d hd (by omega)⟩
theorem Full.any {fd:Int} {N:Nand} {b r m:Int} {l:List En} (h:Full (-1) N b r m l):Full fd N b r m l:=⟨h.is,λx hx _=>h.good x hx (by have:=h.is.inn x hx;omega),h.inn⟩
theorem Inv.any {fd:Int} {S:Dv} (h:Inv (-1) S) (hn:S.N.plan=[]):Inv fd S:=by
 refine⟨h.lit,λi _=>h.dead i (by omega),λa ha=>(by rw[hn]at ha;cases ha),λi j _=>h.flags i j (by omega),⟨h.tdead.1,λd hd=>?_⟩,λb hb=>⟨(h.tbad b hb).1,λd hd=>?_⟩,?_,h.blank,λi a ha=>?_⟩
 ·have:=h.tdead.2 d hd;obtain⟨x,hx,_⟩:=L.has_rng hd;omega
 ·have:=(h.tbad b hb).2 d hd;obtain⟨x,hx,_⟩:=L.has_rng hd;omega
 ·rcases h.op with e | e
  ·exact .inl e
  ·exact .inr ⟨e.blk,e.used,e.row,e.mask.any,e.cells⟩
 ·have hs:=h.st i a ha;obtain⟨l,g1,g2⟩:=hs.row;exact⟨⟨l,g1.any,g2⟩,hs.used,hs.below,hs.seq⟩
theorem Inv.went1 {fd:Int} {S:Dv} {k m:Nat} (h:Inv fd S) (hO:S.Ok k m) (hl:S.at1.left=true):Went fd S S.at1 0:=by
 unfold Dv.at1 at hl ⊢;split
 ·exact Went.refl h
 ·rename_i hh;rw[if_neg hh]at hl;have hf:S.left=false:=by simpa using hh
  have:=(Dv.left_spec hl).1;exact(h.opens hO hf (by show¬S.pick<0;have:0<=S.pick:=this;omega)).1
end Go.Proofs.YtdocmcapegcoeaaGreat
namespace Go.Proofs.YtdocmcapegcoeaaGreat
open Go Go.RowKit
theorem beqI (z:Int):(z==z)=true:=by simp
end Go.Proofs.YtdocmcapegcoeaaGreat
namespace Go.Proofs.YtdocmcapegcoeaaGreat
open Go
namespace Inv
variable {fd : Int} {S : Dv} {k m : Nat} {l : List En}
end Inv
namespace Tb
theorem put1_keys2 {α β:Type} (k:Int) (v:α) (v':β):∀(l:List (Int×α)) (l':List (Int×β)),l.map (·.1)=l'.map (·.1)->(put1 l k v).map (·.1)=(put1 l' k v').map (·.1)
 | [],[],_=>rfl
 | [],y::l',h=>by cases h
 | x::l,[],h=>by cases h
 | x::l,y::l',h=>by
  simp only[List.map_cons,List.cons.injEq]at h;simp only[put1];rw[h.1];split
  ·simp only[List.map_cons,h.2]
  ·simp only[List.map_cons,h.1,put1_keys2 k v v' l l' h.2]
end Tb
def wput (W:List (Int×En)) (l:List En) (n:Nat):List (Int×En):=(List.range n).foldl (λW (i:Nat)=>Tb.put1 W (l.getD i En.zero).lpn (l.getD i En.zero)) W
theorem wput_succ (W:List (Int×En)) (l:List En) (n:Nat):wput W l (n+1)=Tb.put1 (wput W l n) (l.getD n En.zero).lpn (l.getD n En.zero):=by unfold wput;rw[List.range_succ,List.foldl_append];rfl
theorem wput_look {W:List (Int×En)} {l:List En}:∀n:Nat,(∀i j,i<j->j<n->(l.getD i En.zero).lpn≠(l.getD j En.zero).lpn)->(∀j,j<n->Tb.look (wput W l n) (l.getD j En.zero).lpn=some (l.getD j En.zero))/\∀i,(∀j,j<n->(l.getD j En.zero).lpn≠i)->Tb.look (wput W l n) i=Tb.look W i
 | 0,_=>⟨λj hj=>by omega,λi _=>rfl⟩
 | n+1,h=>by
  obtain⟨i1,i2⟩:=wput_look (W:=W) n λi j hij hj=>h i j hij (by omega);rw[wput_succ];refine⟨λj hj=>?_,λi hi=>?_⟩
  ·rw[Tb.look_put1]
   by_cases e:j=n
   ·subst e;rw[if_pos rfl]
   ·rw[if_neg (h j n (by omega) (by omega))];exact i1 j (by omega)
  ·rw[Tb.look_put1,if_neg (λe=>hi n (by omega) e.symm)];exact i2 i λj hj=>hi j (by omega)
structure Hd (S:Dv) (W:List (Int×En)):Prop where
 keys:S.T.at_.map (·.1)=W.map (·.1)
 each:∀i e,Tb.look W i=some e->e.data.length=16/\∃a,Tb.look S.T.at_ i=some a/\R.read S.N a.block a.row a.slot a.mask=({e with seq:=a.seq},0)
namespace Hd
variable {fd : Int} {S Q : Dv} {W : List (Int × En)} {k m : Nat} {l : List En}
theorem went (h:Hd S W) (hi:Inv fd S) {β:Nat} (w:Went fd S Q β):Hd Q W:=by
 refine⟨by rw[w.T];exact h.keys,λi e he=>?_⟩;obtain⟨h1,a,h2,h3⟩:=h.each i e he;exact⟨h1,a,by rw[w.T];exact h2,by rw[w.reads i a (hi.st i a h2)];exact h3⟩
theorem none (h:Hd S W) {i:Int} (hi:Tb.look W i= .none):Tb.look S.T.at_ i= .none:=by
 rw[Tb.look_none]at hi ⊢;rw[h.keys];exact hi
theorem wrote (h:Hd Q W) (hQ:Inv fd Q) (hO:Q.Ok k m) (hl:Last fd Q l) (hf:∀e∈l,FitR e) (hlg:∀e∈l,e.lpn<Q.T.logical) (hnd:(l.map (·.lpn)).Nodup):Hd (wroteP Q l) (wput W l (Q.fit l)):=by
 obtain⟨l1,l2⟩:=hl.look hQ hO hf hlg hnd;have hes:=λj (hj:j<Q.fit l)=>hl.seqs hO hj;have hdis:∀i j,i<j->j<Q.fit l->(l.getD i En.zero).lpn≠(l.getD j En.zero).lpn:=λi j hij hj e=>by
  have g1:=(hes j hj).1;have g2:=(hes i (by omega)).1;have:(l.map (·.lpn))[i]? =(l.map (·.lpn))[j]?:=by
   rw[List.getElem?_map,List.getElem?_map,List.getElem?_eq_getElem g1,List.getElem?_eq_getElem g2];rw[List.getD_eq_getElem?_getD,List.getD_eq_getElem?_getD,List.getElem?_eq_getElem g1,List.getElem?_eq_getElem g2]at e;exact congrArg some e
  have:=(List.getElem?_inj (by rw[List.length_map];exact g2) hnd).1 this;omega
 obtain⟨w1,w2⟩:=wput_look (W:=W) (l:=l) (Q.fit l) hdis;refine⟨?_,λi e he=>?_⟩
 ·have key:∀n,n<=Q.fit l->(Dv.puts Q.T Q.op Q.row Q.mask (Q.es l) n).at_.map (·.1)=(wput W l n).map (·.1):=by
   intro n
   induction n with
   | zero=>intro _;exact h.keys
   | succ n ih=>
    intro hn;have hb:=(hes n (by omega));have hin:=getD_mem hb.1;have hfe:=hf _ hin;have hl2:Tb.look (Dv.puts Q.T Q.op Q.row Q.mask (Q.es l) n).at_ (l.getD n En.zero).lpn=Tb.look Q.T.at_ (l.getD n En.zero).lpn:=by
     have hp:=(puts_look (T:=Q.T) (b:=Q.op) (r:=Q.row) (mk:=Q.mask) (es:=Q.es l) n (λj hj=>?_) (λj hj a ha=>?_) (λi j hij hj=>?_)).2
     ·refine hp _ λj hj=>?_;rw[(hes j (by omega)).2.1];exact hdis j n hj (by omega)
     ·rw[(hes j (by omega)).2.1];have hfe:=hf _ (getD_mem (hes j (by omega)).1);have:=hlg _ (getD_mem (hes j (by omega)).1);unfold Tb.ok;have e1:decide (({l.getD j En.zero with seq:=Q.next+(j:Int)}:En).lpn<0)=false:=decide_eq_false (by have:=hfe.lpn;show¬(l.getD j En.zero).lpn<0;omega);have e2:decide (({l.getD j En.zero with seq:=Q.next+(j:Int)}:En).lpn>=Q.T.logical)=false:=decide_eq_false (by show¬(l.getD j En.zero).lpn>=Q.T.logical;omega);rw[e1,e2];show(!(false||false||((l.getD j En.zero).role !=1&&(l.getD j En.zero).role !=2&&(l.getD j En.zero).role !=4)))=true;rcases hfe.role with e | ⟨e | e,_⟩<;>rw[e]<;>rfl
     ·rw[(hes j (by omega)).2.1]at ha ⊢;have:=(hQ.st _ a ha).seq;show a.seq<=Q.next+(j:Int);omega
     ·rw[(hes j (by omega)).2.1,(hes i (by omega)).2.1];exact hdis i j hij (by omega)
    have hp:Tb.putB (Dv.puts Q.T Q.op Q.row Q.mask (Q.es l) n) ((Q.es l).getD n En.zero)=true:=by
     have hlog:∀n,(Dv.puts Q.T Q.op Q.row Q.mask (Q.es l) n).logical=Q.T.logical:=by
      intro n
      induction n with
      | zero=>rfl
      | succ n ih=>rw[Dv.puts_succ,Tb.put_logical];exact ih
     rw[hb.2.1];have:=hlg _ hin;have e1:Tb.ok (Dv.puts Q.T Q.op Q.row Q.mask (Q.es l) n) ({l.getD n En.zero with seq:=Q.next+(n:Int)}:En)=true:=by
      unfold Tb.ok;rw[hlog];have e1:decide (({l.getD n En.zero with seq:=Q.next+(n:Int)}:En).lpn<0)=false:=decide_eq_false (by have:=hfe.lpn;show¬(l.getD n En.zero).lpn<0;omega);have e2:decide (({l.getD n En.zero with seq:=Q.next+(n:Int)}:En).lpn>=Q.T.logical)=false:=decide_eq_false (by show¬(l.getD n En.zero).lpn>=Q.T.logical;omega);rw[e1,e2];show(!(false||false||((l.getD n En.zero).role !=1&&(l.getD n En.zero).role !=2&&(l.getD n En.zero).role !=4)))=true;rcases hfe.role with e | ⟨e | e,_⟩<;>rw[e]<;>rfl
     have e2:Tb.elder (Dv.puts Q.T Q.op Q.row Q.mask (Q.es l) n) ({l.getD n En.zero with seq:=Q.next+(n:Int)}:En)=false:=by
      unfold Tb.elder;rw[show({l.getD n En.zero with seq:=Q.next+(n:Int)}:En).lpn=(l.getD n En.zero).lpn from rfl,hl2];cases hh:Tb.look Q.T.at_ (l.getD n En.zero).lpn with
      | none=>rfl
      | some a=>have:=(hQ.st _ a hh).seq;exact decide_eq_false (by show¬(Q.next+(n:Int))<a.seq;omega)
     unfold Tb.putB;rw[e1,e2];rfl
    rw[Dv.puts_succ,wput_succ];unfold Tb.put;rw[if_pos hp];show(Tb.put1 _ _ _).map (·.1)=_;rw[hb.2.1];exact Tb.put1_keys2 _ _ _ _ _ (ih (by omega))
  exact key _ (Nat.le_refl _)
 ·by_cases hex:∃j,j<Q.fit l/\(l.getD j En.zero).lpn=i
  ·obtain⟨j,hj,rfl⟩:=hex;rw[w1 j hj]at he;injection he with he;subst he;refine⟨(hf _ (getD_mem (hes j hj).1)).len,_,l1 j hj,?_⟩;exact hl.reads hQ hO hj
  ·have hno:∀j,j<Q.fit l->(l.getD j En.zero).lpn≠i:=λj hj e=>hex ⟨j,hj,e⟩;rw[w2 i hno]at he;obtain⟨h1,a,h2,h3⟩:=h.each i e he;refine⟨h1,a,by rw[l2 i hno];exact h2,?_⟩;rw[hl.stay hQ hO hf (hQ.st i a h2)];exact h3
end Hd
theorem look_in {α:Type}:∀{l:List (Int×α)},(l.map (·.1)).Nodup->∀x∈l,Tb.look l x.1=some x.2
 | [],_,x,hx=>by cases hx
 | y::l,h,x,hx=>by
  simp only[List.map_cons,List.nodup_cons]at h;simp only[Tb.look];rcases List.mem_cons.1 hx with rfl | hx
  ·rw[if_pos rfl]
  ·rw[if_neg (λe=>h.1 (by rw[<- e];exact List.mem_map_of_mem hx))];exact look_in h.2 x hx
theorem rows_new2 (D B P:Nat) (lg:Int):(Dv.new D B P lg).rows=P*B:=by
 unfold Dv.rows;have e1:(Dv.new D B P lg).op= -1:=rfl;have e2:(Dv.new D B P lg).t.blanks=B:=by
  show(List.replicate B Sb.zero).countP _=B;rw[List.countP_replicate];rfl
 have e3:(Dv.new D B P lg).N.pages=P:=rfl;rw[e1,e2,e3,if_neg (by decide)];omega
theorem andT {a b:Bool} (ha:a=true) (hb:b=true):(a&&b)=true:=by rw[ha,hb];rfl
theorem joined_of {P:Program} {f:FuncId} {fn:Func} {s:ChangeSpec} {c:OpenClaim} (k0:(c.wf (OpenSpec.ofChange s))=true) (k1:(laidOutB P)=true) (k2:(mapsRowed P)=true) (k3:(fn.params.all (P.readableRec ·))=true) (k4:(namedTie P c.named s.vars)=true) (k5:(c.stops==[])=true) (k6:(P.stops==[])=true) (k7:(c.knobs==[])=true) (k8:(P.stopKnobs==[])=true) (k9:(c.inPlace==P.inPlace f)=true) (k10:(c.unfollowed==P.unfollowed f)=true) (k11:(c.recurses==P.recurses f)=true) (k12:(c.named==P.varsNamed f)=true) (k13:(c.maps==(fn.params.toList++s.plain.varTypes P).any (P.mapsRec ·))=true) (k14:(c.ifaces==(fn.params.toList++s.plain.varTypes P).any (P.ifacesRec ·))=true) (k15:(c.mapsOut==P.mapsAmong fn.resultTypes.toList)=true) (k16:(c.loops==(fn.params.toList++s.plain.varTypes P).any (P.loopsFrom ·))=true) (k17:(c.wideKeys==(fn.params.toList++s.plain.varTypes P++fn.resultTypes.toList).any (P.wideKeysFrom ·))=true) (k18:(s.vars.all (P.varReadable ·))=true) (k19:(fn.resultTypes.all (λt=>P.readableRec t&&decide (t<P.types.size)))=true) (k20:(c.ifacesOut==fn.resultTypes.toList.any (P.ifacesRec ·))=true) (k21:(c.loopsOut==fn.resultTypes.toList.any (P.loopsFrom ·))=true) (k22:(c.plainKeys==P.plainKeys)=true) (k23:(c.shortTexts.isNone)=true) (k24:(P.stopsHeard)=true) (k25:(P.mayEnter)=true) (k26:(c.lifted==P.liftsFinal)=true) (k27:(P.make==some c.make)=true) (k28a:c.domain.isEmpty=true) (k28:(c.kinds==[])=true) (k29:(c.pinned==c.pinnedBy)=true) (k30:(c.veiled==(fn.params.toList++s.plain.varTypes P++fn.resultTypes.toList).any (P.veiledRec ·))=true) (k31:(c.veiledFits P fn.params.toList (fn.params.toList++s.plain.varTypes P++fn.resultTypes.toList))=true):joinedFacts P f fn s c=true:=by
 unfold joinedFacts;rw[if_pos k28a];exact(andT (andT (andT (andT (andT (andT (andT (andT (andT (andT (andT (andT (andT (andT (andT (andT (andT (andT (andT (andT (andT (andT (andT (andT (andT (andT (andT (andT (andT (andT (andT k0 k1) k2) k3) k4) k5) k6) k7) k8) k9) k10) k11) k12) k13) k14) k15) k16) k17) k18) k19) k20) k21) k22) k23) k24) k25) k26) k27) k28) k29) k30) k31)
theorem j_laid:laidOutB Tryz.prog=true:=by kernel_rfl
theorem j_rowed:mapsRowed Tryz.prog=true:=by kernel_rfl
theorem j_stops:(Tryz.prog.stops==[])=true:=by kernel_rfl
theorem j_knobs:(Tryz.prog.stopKnobs==[])=true:=by kernel_rfl
theorem j_heard:Tryz.prog.stopsHeard=true:=by kernel_rfl
theorem j_enter:Tryz.prog.mayEnter=true:=by kernel_rfl
end Go.Proofs.YtdocmcapegcoeaaGreat
