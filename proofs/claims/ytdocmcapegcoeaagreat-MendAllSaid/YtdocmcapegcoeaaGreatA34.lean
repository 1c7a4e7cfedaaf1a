/- Helpers, proved here. No condition. -/
import Derived.Test.YtdocmcapegcoeaaGreatA06
import Derived.Test.YtdocmcapegcoeaaGreatA18
import Derived.Test.YtdocmcapegcoeaaGreatA32
set_option maxRecDepth 20000
set_option linter.all false
namespace Go.Proofs.YtdocmcapegcoeaaGreat
open Go
namespace Rmy
variable {fd : Int} {S : Dv} {k m β : Nat} {W : List (Int × En)}
theorem go2:∀(f:Nat) (S:Dv) (β k:Nat),Rmy fd W S->S.Ok (Dv.costR*f+k) m->pkSome (pkSpent S.t S.T) S.op S.t.b=[]->Hot2 fd S β->(S.N.pages+1)/2+β<=S.rows->5*S.N.pages+β+1<=S.rows+f*(S.N.pages/2)->S.next+400*(f:Int)<=1099511627775-3000000->
  ∃(V:Dv) (β':Nat),Dv.roomGo f S=(V,0)/\Rmy fd W V/\V.Ok k m/\(V.free:Int)>4/\pkSome (pkSpent V.t V.T) V.op V.t.b=[]/\Hot2 fd V β'/\β'<=β/\V.next<=S.next+400*(f:Int)/\V.N.dead=S.N.dead/\V.N.broken=S.N.broken/\S.N.Like V.N/\V.T.logical=S.T.logical/\(∀d:Int,L.has S.t.dead d=true->L.has V.t.dead d=true)/\Mvd fd S V
 | f,S,β,k,h,hO,hsp,hot,hr3,hr5,hnx=>by
  by_cases hfr:(S.free:Int)>4
  ·refine⟨S,β,?_,h,hO.less (by omega),hfr,hsp,hot,Nat.le_refl _,by omega,rfl,rfl,Nand.Like.refl _,rfl,λ_ h=>h, .nil⟩;cases f with
   | zero=>rfl
   | succ f=>rw[Dv.roomGo,if_pos hfr]
  ·have h5:=rows_five hO h.inv hfr;have hg:=hO.gd.ok.bd16;cases f with
   | zero=>omega
   | succ f=>
    have hmul:(f+1)*(S.N.pages/2)=f*(S.N.pages/2)+S.N.pages/2:=Nat.succ_mul _ _;obtain⟨V,β1,w1,w2,w3,w4,w5,w6,w7,w8,w9,w10,w11,w12,w13,w14⟩:=h.emptied (k:=Dv.costR*f+k) (by rw[Nat.mul_succ]at hO;exact hO.less (by omega)) hsp hfr hot (by omega) (by omega) f;have hpg:=w11.pages;obtain⟨U,β2,u1,u2,u3,u4,u5,u6,u7,u8,u9,u10,u11,u12,u13,u14⟩:=go2 f V β1 k w2 w3 w4 w5 (by rw[hpg];omega) (by rw[hpg];omega) (by omega);exact⟨U,β2,by rw[w1,u1],u2,u3,u4,u5,u6,by omega,by omega,u9.trans w9,u10.trans w10,w11.trans u11,u12.trans w12,λd hd=>u13 d (w13 d hd),w14.trans u14⟩
theorem room2 (h:Rmy fd W S) (hO:S.Ok (96+(Dv.costR*S.t.b+k)) m) (hot:Hot2 fd S β) (hr:5*S.N.pages+β<=S.rows+7) (hβ:β<=1) (hnx:S.next<=1099511627775-4000000):
  ∃(V:Dv) (β':Nat),S.room=(V,0)/\Rmy fd W V/\V.Ok k m/\(V.free:Int)>4/\pkSome (pkSpent V.t V.T) V.op V.t.b=[]/\Hot2 fd V β'/\β'<=β/\V.next<=S.next+6400/\V.N.dead=S.N.dead/\V.N.broken=S.N.broken/\S.N.Like V.N/\V.T.logical=S.T.logical/\(∀d:Int,L.has S.t.dead d=true->L.has V.t.dead d=true)/\Mvd fd S V:=by
 have hg:=hO.gd.ok.bd16;have hb:=hO.t.b;obtain⟨U,u1,u2,u3,u4,u5,u6,u7,u8,u9,u10,u11,u12,u13,u14,u15⟩:=h.clear (β:=β) hO;have hpg:=u13.pages;have h8:8*(S.N.pages/2)<=S.t.b*(S.N.pages/2):=Nat.mul_le_mul_right _ (by omega);obtain⟨V,β',v1,v2,v3,v4,v5,v6,v7,v8,v9,v10,v11,v12,v13,v16⟩:=go2 S.t.b U β k u2 u3 u4 (u15 hot) (by rw[hpg,u10];omega) (by rw[hpg,u10];omega) (by rw[u9];omega);refine⟨V,β',?_,v2,v3,v4,v5,v6,v7,by rw[u9]at v8;omega,v9.trans u11,v10.trans u12,u13.trans v11,by rw[v12,u6],λd hd=>v13 d (u14 d hd),(Mvd.same .nil u6 u7 u8 (λb=>Inv.has_same hO.t u3.t u13 b) u11 u2.inv).trans v16⟩;unfold Dv.room;rw[u1];dsimp only;rw[if_neg (by decide),v1]
end Rmy
theorem Inv.killed {S:Dv} {d:Nat} (h:Inv d S):Inv d {S with N:={S.N with dead:=S.N.dead.set d true}}/\∀i a,Std d S i a->Std d {S with N:={S.N with dead:=S.N.dead.set d true}} i a/\R.read {S.N with dead:=S.N.dead.set d true} a.block a.row a.slot a.mask=R.read S.N a.block a.row a.slot a.mask:=by
 have hdead:∀i:Nat,(i:Int)≠d->(S.N.dead.set d true).getD i false=false:=λi hi=>by
  rw[List.getD_eq_getElem?_getD,List.getElem?_set,if_neg (by omega),<- List.getD_eq_getElem?_getD];exact h.dead i hi
 have hlike:S.N.Like {S.N with dead:=S.N.dead.set d true}:=⟨rfl,rfl,rfl⟩;have hoff:({S.N with dead:=S.N.dead.set d true}:Nand).off=false:=h.lit.off;have hstd:∀i a,Std d S i a->Std d {S with N:={S.N with dead:=S.N.dead.set d true}} i a/\R.read {S.N with dead:=S.N.dead.set d true} a.block a.row a.slot a.mask=R.read S.N a.block a.row a.slot a.mask:=λi a ha=>by
  obtain⟨l,g1,g2,g3,g4⟩:=ha.row;have hk:Full d {S.N with dead:=S.N.dead.set d true} a.block a.row a.mask l:=g1.keep hlike λ_ _=>rfl;have r1:=hk.read hoff hdead g3;have r2:=g1.read h.lit.off h.dead g3;rw[show((a.slot.toNat:Nat):Int)=a.slot from by omega]at r1 r2;exact⟨⟨⟨l,hk,g2,g3,g4⟩,ha.used,ha.below,ha.seq⟩,by rw[r1,r2]⟩
 refine⟨⟨⟨h.lit.off,h.lit.cuts⟩,hdead,h.plan,h.flags,h.tdead,h.tbad,?_,h.blank,λi a ha=>(hstd i a (h.st i a ha)).1⟩,hstd⟩;rcases h.op with e | e
 ·exact .inl e
 ·refine .inr ⟨e.blk,e.used,e.row,e.mask,λx hx=>⟨(e.cells x hx).1,λhdd=>(e.cells x hx).2 ?_⟩⟩;have hdd:(S.N.dead.set d true).getD x false=false:=hdd
  by_cases hxd:x=d
  ·subst hxd;rw[List.getD_eq_getElem?_getD,List.getElem?_set,if_pos rfl]at hdd;rw[List.getD_eq_getElem?_getD];split at hdd
   ·cases hdd
   ·rename_i hlt;rw[List.getElem?_eq_none (by omega)];rfl
  ·rw[List.getD_eq_getElem?_getD,List.getElem?_set,if_neg (λe=>hxd e.symm)]at hdd;rw[List.getD_eq_getElem?_getD];exact hdd
theorem seeDead_range {N:Nand} {d:Nat} (hd:∀x:Nat,N.deadAt x=decide (x=d)) (t:Tl):∀n,(List.range n).foldl (λt (x:Nat)=>if N.deadAt x then t.die x else t) t=if d<n then t.die d else t
 | 0=>rfl
 | n+1=>by
  rw[List.range_succ,List.foldl_append,seeDead_range hd t n];show(if N.deadAt n=true then Tl.die _ n else _)=_;rw[hd]
  by_cases e:n=d
  ·subst e;rw[decide_eq_true rfl,if_pos rfl,if_neg (Nat.lt_irrefl _),if_pos (Nat.lt_succ_self _)]
  ·rw[decide_eq_false e,if_neg Bool.false_ne_true]
   by_cases h:d<n
   ·rw[if_pos h,if_pos (by omega)]
   ·rw[if_neg h,if_neg (by omega)]
theorem Inv.saw {S:Dv} {d k m:Nat} (h:Inv d S) (hO:S.Ok k m) (hd:d<S.N.dies) (hdd:S.N.dead.getD d false=true):S.seen={S with t:=S.t.die d}/\Inv d S.seen/\L.has S.seen.t.dead (d:Nat)=true/\(∀b,S.seen.t.has b=S.t.has b/\S.seen.t.at_ b=S.t.at_ b)/\S.seen.t.blanks=S.t.blanks/\∀i a,Std d S i a->Std d S.seen i a:=by
 have hg:=hO.gd.ok.bd16;have htd:=hO.t.d;have hda:∀x:Nat,S.N.deadAt x=decide (x=d):=λx=>by
  unfold Nand.deadAt;rw[Int.toNat_natCast]
  by_cases e:x=d
  ·subst e;rw[hdd];simp;omega
  ·rw[h.dead x (by omega),decide_eq_false e];simp
 have hdie:S.t.die d=⟨S.t.d,S.t.b,S.t.p,S.t.l,L.with_ S.t.dead d⟩:=by
  unfold Tl.die;rw[if_pos];unfold Tl.hasDie;rw[decide_eq_true (by omega),decide_eq_true (by omega)];rfl
 have hseen:S.seen={S with t:=S.t.die d}:=by
  unfold Dv.seen Dv.seeDead;rw[seeDead_range hda,if_pos (by omega)]
 rw[hseen];have hw:=L.set_with h.tdead.1 (d:=(d:Int)) (by omega);have hwh:=L.with_has h.tdead.1 (d:=(d:Int)) (by omega);have hstd:∀i a,Std d S i a->Std d {S with t:=S.t.die d} i a:=λi a ha=>⟨ha.row,by show((S.t.die d).at_ a.block).used=true;rw[hdie];exact ha.used,ha.below,ha.seq⟩;refine⟨rfl,⟨h.lit,h.dead,h.plan,h.flags,?_,λb hb=>?_,?_,λb hb hu x hx=>?_,λi a ha=>hstd i a (h.st i a ha)⟩,?_,λb=>?_,?_,hstd⟩
 ·show L.set (S.t.die d).dead=true/\∀x:Int,L.has (S.t.die d).dead x=true->x=d;rw[hdie];refine⟨hw,λx hx=>?_⟩;have hx:L.has (L.with_ S.t.dead (d:Int)) x=true:=hx;rw[hwh]at hx;rcases Bool.or_eq_true _ _▸hx with hx | hx
  ·exact h.tdead.2 x hx
  ·exact of_decide_eq_true hx
 ·have hb:(S.t.die d).has b=true:=hb;show L.set ((S.t.die d).at_ b).bad=true/\∀x:Int,L.has ((S.t.die d).at_ b).bad x=true->x=d;rw[hdie]at hb ⊢;exact h.tbad b hb
 ·rcases h.op with e | e
  ·exact .inl e
  ·exact .inr ⟨e.blk,by show((S.t.die d).at_ S.op).used=true;rw[hdie];exact e.used,e.row,e.mask,e.cells⟩
 ·have hb:(S.t.die d).has b=true:=hb;have hu:((S.t.die d).at_ b).used=false:=hu;have hx:L.has ((S.t.die d).mask b) (x:Nat)=true:=hx;rw[hdie]at hb hu hx;have hb2:S.t.has b=true:=hb;refine h.blank b hb2 hu x ?_;have m1:=(mask_has (t:=⟨S.t.d,S.t.b,S.t.p,S.t.l,L.with_ S.t.dead d⟩) (b:=b) (by show S.t.d<=8;omega) hb hw (h.tbad b hb2).1).2 x;have m2:=(mask_has (t:=S.t) (b:=b) (by omega) hb2 h.tdead.1 (h.tbad b hb2).1).2 x;rw[m1]at hx;rw[m2];simp only[Bool.and_eq_true,Bool.not_eq_true']at hx ⊢;have hx2:=hx.1.2;have hx2:L.has (L.with_ S.t.dead (d:Int)) (x:Nat)=false:=hx2;rw[hwh]at hx2;exact⟨⟨hx.1.1,(Bool.or_eq_false_iff.1 hx2).1⟩,hx.2⟩
 ·show L.has (S.t.die d).dead (d:Nat)=true;rw[hdie];show L.has (L.with_ S.t.dead (d:Int)) (d:Nat)=true;rw[hwh];simp
 ·show(S.t.die d).has b=S.t.has b/\(S.t.die d).at_ b=S.t.at_ b;rw[hdie];exact⟨rfl,rfl⟩
 ·show(S.t.die d).blanks=S.t.blanks;rw[hdie];rfl
theorem countP_lt {α:Type} {p q:α->Bool}:∀{K:List α},(∀x∈K,p x=true->q x=true)->∀{x:α},x∈K->p x=false->q x=true->K.countP p<K.countP q
 | [],_,x,hx,_,_=>by cases hx
 | y::K,h,x,hx,h1,h2=>by
  rw[List.countP_cons,List.countP_cons];have hy:=h y (by simp);rcases List.mem_cons.1 hx with rfl | hx
  ·have:=List.countP_mono_left (l:=K) λz hz=>h z (by simp[hz]);rw[h1,h2];simp only[Bool.false_eq_true,if_false,if_true];omega
  ·have:=countP_lt (λz hz=>h z (by simp[hz])) hx h1 h2;cases hp:p y with
   | false=>simp only[Bool.false_eq_true,if_false];omega
   | true=>rw[hy hp];simp only[if_true];omega
structure Gh (die:Nat) (O:Int->Bool) (S:Dv):Prop where
 used:∀b,O b=true->S.t.has b=true/\(S.t.at_ b).used=true
 ent:∀i a,Tb.look S.T.at_ i=some a->L.has a.mask (die:Nat)=true->O a.block=true
def oldB (O:Int->Bool) (T:Tb) (i:Int):Bool:=match Tb.look T.at_ i with | some a=>O a.block | none=>false
def oldN (O:Int->Bool) (T:Tb) (K:List Int):Nat:=K.countP (oldB O T)
def pot (O:Int->Bool) (S:Dv) (K:List Int) (P:Nat):Nat:=if O S.op=true then K.length+((P:Int)-S.row).toNat else oldN O S.T K
theorem oldN_le (O:Int->Bool) (T:Tb) (K:List Int):oldN O T K<=K.length:=List.countP_le_length
theorem oldB_some {O:Int->Bool} {T:Tb} {i:Int} {a:AtV} (h:Tb.look T.at_ i=some a):oldB O T i=O a.block:=by unfold oldB;rw[h]
def NoD (die:Nat) (S:Dv):Prop:=∀i a,Tb.look S.T.at_ i=some a->L.has a.mask (die:Nat)=false
namespace Gh
variable {die : Nat} {O : Int → Bool} {fd : Int} {U V : Dv} {K I : List Int} {P : Nat}
theorem same (h:Gh die O U) (hT:V.T=U.T) (hop:V.op=U.op) (hrow:V.row=U.row) (hhas:∀b,V.t.has b=U.t.has b) (hi:Inv fd V):∃O',Gh die O' V/\pot O' V K P<=pot O U K P:=by
 refine⟨λb=>O b&&(V.t.at_ b).used,⟨λb hb=>?_,λi a ha hd=>?_⟩,?_⟩
 ·have hb:=Bool.and_eq_true _ _▸hb;exact⟨by rw[hhas];exact(h.used b hb.1).1,hb.2⟩
 ·have h1:=(hi.st i a ha).used;rw[hT]at ha;show(O a.block&&(V.t.at_ a.block).used)=true;rw[h.ent i a ha hd,h1];rfl
 ·unfold pot;rw[hop,hrow,hT];have hmono:oldN (λb=>O b&&(V.t.at_ b).used) U.T K<=oldN O U.T K:=by
   refine List.countP_mono_left λi _ hx=>?_;unfold oldB at hx ⊢;split at hx
   ·exact(Bool.and_eq_true _ _▸hx).1
   ·cases hx
  cases hO:O U.op with
  | false=>
   rw[if_neg (show¬(O U.op&&(V.t.at_ U.op).used)=true by rw[hO];simp),if_neg Bool.false_ne_true];exact hmono
  | true=>
   have hu:(V.t.at_ U.op).used=true:=by
    rcases hi.op with e | e
    ·rw[hop]at e;have:=(h.used _ hO).1;have:=(Tl.has_iff.1 this).1;omega
    ·rw[<- hop];exact e.used
   rw[if_pos (show(O U.op&&(V.t.at_ U.op).used)=true by rw[hO,hu];rfl),if_pos rfl];exact Nat.le_refl _
theorem where_ (h:Gh die O U) {b r:Int} (hf:FreshP U b r) (hO:O b=true):b=U.op/\U.row<=r:=by
 rcases hf with h1 | ⟨_,h2⟩
 ·exact h1
 ·rw[(h.used b hO).2]at h2;cases h2
theorem crd (h:Gh die O U) (hc:Crd fd U I V) (hd:U.N.dead.getD die false=true):Gh die O V/\pot O V K P<=pot O U K P:=by
 refine⟨⟨λb hb=>⟨by rw[hc.has];exact(h.used b hb).1,(hc.sb b (h.used b hb).1).2 (h.used b hb).2⟩,λi a ha hm=>?_⟩,?_⟩
 ·by_cases hi:i∈I
  ·obtain⟨a',a1,_,a3⟩:=hc.pos i hi;rw[ha]at a1;injection a1 with a1;rw[<- a1]at a3;rw[a3 die hd]at hm;cases hm
  ·rw[hc.rest i hi]at ha;exact h.ent i a ha hm
 ·unfold pot;cases hO:O V.op with
  | true=>
   obtain⟨e1,e2⟩:=h.where_ (hc.back V.op V.row (.inl ⟨rfl,Int.le_refl _⟩)) hO;rw[e1]at hO;rw[hO,if_pos rfl,if_pos rfl];omega
  | false=>
   rw[if_neg Bool.false_ne_true];have hle:=oldN_le O V.T K;cases hU:O U.op with
   | true=>rw[if_pos rfl];omega
   | false=>
    rw[if_neg Bool.false_ne_true];refine List.countP_mono_left λi _ hx=>?_
    by_cases hi:i∈I
    ·obtain⟨a',a1,a2,_⟩:=hc.pos i hi;rw[oldB_some a1]at hx;rw[(h.where_ a2 hx).1,hU]at hx;cases hx
    ·unfold oldB at hx ⊢;rw[hc.rest i hi]at hx;exact hx
theorem crd_lt (h:Gh die O U) (hc:Crd fd U I V) (hP:V.N.pages=P) {i:Int} {a:AtV} (hi:i∈I) (hK:i∈K) (ha:Tb.look U.T.at_ i=some a) (hOa:O a.block=true):pot O V K P+1<=pot O U K P:=by
 have hin:I≠[]:=λe=>by rw[e]at hi;cases hi
 obtain⟨a',a1,a2,_⟩:=hc.pos i hi;unfold pot;cases hO:O V.op with
 | true=>
  obtain⟨e1,e2⟩:=h.where_ (hc.fresh hin) hO;have hrow:V.row<=P:=by
   rcases hc.inv.op with e | e
   ·rw[e]at hO;have:=(Tl.has_iff.1 (h.used _ hO).1).1;omega
   ·have:=e.row.2;rw[hP]at this;exact this
  rw[e1]at hO;rw[hO,if_pos rfl,if_pos rfl];omega
 | false=>
  rw[if_neg Bool.false_ne_true];have hrw:a'.row<P:=by
   obtain⟨l,g1,_⟩:=(hc.inv.st i a' a1).row;have:=g1.is.row.2;rw[hP]at this;exact this
  cases hU:O U.op with
  | true=>
   rw[if_pos rfl]
   by_cases hr:U.row<P
   ·have:=oldN_le O V.T K;omega
   ·have h1:oldN O V.T K<K.countP λ_=>true:=countP_lt (λ_ _ _=>rfl) hK (by
     rw[oldB_some a1];cases hx:O a'.block with
     | false=>rfl
     | true=>have:=(h.where_ a2 hx).2;omega) rfl
    rw[List.countP_true]at h1;omega
  | false=>
   rw[if_neg Bool.false_ne_true];refine countP_lt (λj _ hx=>?_) hK ?_ ((oldB_some ha).trans hOa)
   ·by_cases hj:j∈I
    ·obtain⟨b',b1,b2,_⟩:=hc.pos j hj;rw[oldB_some b1]at hx;rw[(h.where_ b2 hx).1,hU]at hx;cases hx
    ·unfold oldB at hx ⊢;rw[hc.rest j hj]at hx;exact hx
   ·rw[oldB_some a1];cases hx:O a'.block with
    | false=>rfl
    | true=>rw[(h.where_ a2 hx).1,hU]at hx;cases hx
end Gh
namespace Mvd
variable {die : Nat} {fd : Int} {S V : Dv} {K : List Int} {P : Nat}
theorem dead (h:Mvd fd S V):V.N.dead=S.N.dead:=by
 induction h with
 | nil=>rfl
 | same _ _ _ _ _ h5 _ ih=>exact h5.trans ih
 | crd _ hc ih=>exact hc.dead.trans ih
theorem gh (h:Mvd fd S V) (hd:S.N.dead.getD die false=true) {O:Int->Bool} (hG:Gh die O S):∃O',Gh die O' V/\pot O' V K P<=pot O S K P:=by
 induction h with
 | nil=>exact⟨O,hG,Nat.le_refl _⟩
 | same _ h1 h2 h3 h4 _ h6 ih=>
  obtain⟨O',g1,g2⟩:=ih;obtain⟨O2,q1,q2⟩:=g1.same (K:=K) (P:=P) h1 h2 h3 h4 h6;exact⟨O2,q1,Nat.le_trans q2 g2⟩
 | crd hm hc ih=>
  obtain⟨O',g1,g2⟩:=ih;obtain⟨q1,q2⟩:=g1.crd (K:=K) (P:=P) hc (by rw[hm.dead];exact hd);exact⟨O',q1,Nat.le_trans q2 g2⟩
theorem crd_noD {U:Dv} {I:List Int} (hn:NoD die U) (hc:Crd fd U I V) (hd:U.N.dead.getD die false=true):NoD die V:=λi a ha=>by
 by_cases hi:i∈I
 ·obtain⟨a',a1,_,a3⟩:=hc.pos i hi;rw[ha]at a1;injection a1 with a1;rw[a1];exact a3 die hd
 ·rw[hc.rest i hi]at ha;exact hn i a ha
theorem noD (h:Mvd fd S V) (hd:S.N.dead.getD die false=true) (hn:NoD die S):NoD die V:=by
 induction h with
 | nil=>exact hn
 | same _ h1 _ _ _ _ _ ih=>exactλi a ha=>ih i a (by rw[<- h1];exact ha)
 | crd hm hc ih=>exact crd_noD ih hc (by rw[hm.dead];exact hd)
end Mvd
theorem lost_bit:∀D,D<7->3<=D->∀d,d<D->∀m,m<64->(IntKind.i64.wrap ((BitVec.ofInt IntKind.i64.bits ((m:Nat):Int)&&& BitVec.ofInt IntKind.i64.bits (Tl.andN (L.all (D:Nat)) (L.without (L.all (D:Nat)) (d:Nat)))).toNat:Int) !=0)=L.has ((m:Nat):Int) (d:Nat):=by decide+kernel
namespace Inv
variable {die : Nat} {S : Dv} {k m : Nat}
theorem mask_wo (h:Inv die S) (hO:S.Ok k m) (hd:die<S.N.dies) (htd:L.has S.t.dead (die:Nat)=true) {b:Int} (hb:S.t.has b=true):S.t.mask b=L.without (L.all (S.N.dies:Nat)) (die:Nat):=by
 have hg:=hO.gd.ok.bd16;have hd':=hO.t.d;rcases(h.msk hO hb).eq hg.1 with⟨_,e⟩ | ⟨_,_,_,e⟩
 ·have h1:=e (by omega);have h2:=(mask_has (t:=S.t) (b:=b) (by omega) hb h.tdead.1 (h.tbad b hb).1).2 (die:Nat);rw[h1,htd]at h2;simp at h2
 ·exact e
theorem lost_iff (h:Inv die S) (hO:S.Ok k m) (hd:die<S.N.dies) (htd:L.has S.t.dead (die:Nat)=true) {i:Int} {a:AtV} (ha:Tb.look S.T.at_ i=some a) {b:Int} (hb:S.t.has b=true):pkLost S.t S.T b i=L.has a.mask (die:Nat):=by
 have hg:=hO.gd.ok.bd16;have hd':=hO.t.d;obtain⟨l,g1,_⟩:=(h.st i a ha).row;have hm:=g1.is.mask;have h64:=g1.is.m64;unfold pkLost;rw[ha,Option.getD_some,h.mask_wo hO hd htd hb,hd'];obtain⟨κ,hκ⟩:=Int.eq_ofNat_of_zero_le hm.1;rw[hκ];exact lost_bit S.N.dies (by omega) hg.1.1 die hd κ (by omega)
theorem hurt_some (h:Inv die S) (hO:S.Ok k m) (hd:die<S.N.dies) (htd:L.has S.t.dead (die:Nat)=true) {b:Int} {l:List Int} (hh:S.hurts=b::l):S.t.has b=true/\∃i a,i∈S.T.ins b/\Tb.look S.T.at_ i=some a/\a.block=b/\L.has a.mask (die:Nat)=true:=by
 have hb:b∈S.hurts:=by rw[hh];simp
 obtain⟨h1,h2,_,h4⟩:=mem_pkSome.1 hb;have hhas:S.t.has b=true:=Tl.has_iff.2 ⟨h1,h2⟩;refine⟨hhas,?_⟩;unfold pkHurt at h4;obtain⟨i,hi,hl⟩:=List.any_eq_true.1 h4;obtain⟨a,ha,hab⟩:=ins_in hi;exact⟨i,a,hi,ha,hab,by rw[<- h.lost_iff hO hd htd ha hhas];exact hl⟩
theorem hurt_none (h:Inv die S) (hO:S.Ok k m) (hd:die<S.N.dies) (htd:L.has S.t.dead (die:Nat)=true) (hh:S.hurts=[]):NoD die S:=λi a ha=>by
 cases hm:L.has a.mask (die:Nat)with
 | false=>rfl
 | true=>
  exfalso
  obtain⟨l,g1,_⟩:=(h.st i a ha).row;have hblk:=g1.is.blk;have hb:=hO.t.b;have hhas:S.t.has a.block=true:=Tl.has_iff.2 (by omega);have hin:a.block∈S.hurts:=mem_pkSome.2 ⟨by omega,by omega,by omega,by
   unfold pkHurt;exact List.any_eq_true.2 ⟨i,mem_ins hO.T ha rfl,by rw[h.lost_iff hO hd htd ha hhas];exact hm⟩⟩
  rw[hh]at hin;cases hin
theorem noD_hurt (h:Inv die S) (hO:S.Ok k m) (hd:die<S.N.dies) (htd:L.has S.t.dead (die:Nat)=true) (hn:NoD die S):S.hurts=[]:=by
 cases hh:S.hurts with
 | nil=>rfl
 | cons b l=>
  obtain⟨_,i,a,_,ha,_,hm⟩:=h.hurt_some hO hd htd hh;rw[hn i a ha]at hm;cases hm
theorem left_noD (h:Inv die S) (hO:S.Ok k m) (hd:die<S.N.dies) (htd:L.has S.t.dead (die:Nat)=true):S.leftN=0↔NoD die S:=by
 constructor
 ·intro hl;cases hh:S.hurts with
  | nil=>exact h.hurt_none hO hd htd hh
  | cons b l=>
   exfalso
   obtain⟨_,i,a,hi,ha,hab,_⟩:=h.hurt_some hO hd htd hh;have hpos:0<S.T.count b:=by
    rw[hO.T.cnt];have:0<Tb.cntB S.T.at_ b:=List.countP_pos_iff.2 ⟨_,Tb.look_mem ha,by simp[hab]⟩;omega
   have hnn:∀l:List Int,0<=(l.map S.T.count).sum:=by
    intro l
    induction l with
    | nil=>simp
    | cons x l ih=>have:=hO.T.bd x;rw[List.map_cons,List.sum_cons];omega
   have:=hnn l;unfold Dv.leftN at hl;rw[hh,List.map_cons,List.sum_cons]at hl;omega
 ·intro hn;unfold Dv.leftN;rw[h.noD_hurt hO hd htd hn];rfl
end Inv
structure Stp (die:Nat) (W:List (Int×En)) (S:Dv) (V:Dv):Prop where
 rmy:Rmy die W V
 td:L.has V.t.dead (die:Nat)=true
 next:V.next<=S.next+7000
 dead:V.N.dead=S.N.dead
 broken:V.N.broken=S.N.broken
 like:S.N.Like V.N
 logical:V.T.logical=S.T.logical
 noD:NoD die S->NoD die V
 pot:∀O,Gh die O S->NoD die V\/∃O',Gh die O' V/\pot O' V (W.map (·.1)) S.N.pages+1<=pot O S (W.map (·.1)) S.N.pages
theorem Hot2.seen {die:Nat} {S:Dv} {k m β:Nat} (h:Hot2 die S β) (hi:Inv die S) (hO:S.Ok k m) (hd:die<S.N.dies) (hdd:S.N.dead.getD die false=true):Hot2 die S.seen β:=by
 obtain⟨_,_,h3,_⟩:=hi.saw hO hd hdd;cases h with
 | calm hn=>rw[hn.dead]at hdd;cases hdd
 | cold _ h2=>exact .cold h3 h2
 | once _=>exact .once h3
theorem Rmy.step {die:Nat} {S:Dv} {k m β:Nat} {W:List (Int×En)} {most:Int} (h:Rmy die W S) (hO:S.Ok (Dv.costS+k) m) (hd:die<S.N.dies) (hdd:S.N.dead.getD die false=true) (hot:Hot2 die S.seen β) (hβ:β<=1) (hr:5*S.N.pages+β<=S.rows+7) (hmost:1<=most/\most<=6) (hnx:S.next<=1099511627775-5000000):
  ∃(V:Dv) (n:Int) (β':Nat),S.step most=(V,n,0)/\n<=most/\Stp die W S V/\V.Ok k m/\Hot2 die V.seen β'/\β'<=1/\5*V.N.pages+β'<=V.rows+7:=by
 have hg:=hO.gd.ok.bd16;have htb:=hO.t.b;obtain⟨s1,s2,s3,s4,s5,s6⟩:=h.inv.saw hO hd hdd;have hOs:=hO.seen;have hRs:Rmy die W S.seen:=⟨s2,⟨h.hd.keys,h.hd.each⟩,h.wok,λb hb=>by rw[(s4 b).2];exact h.held b (by rw[<- (s4 b).1];exact hb),h.ff,h.cap⟩;have hrs:S.seen.rows=S.rows:=by
  unfold Dv.rows;rw[s5];rfl
 have m1:Mvd die S S.seen:= .same .nil rfl rfl rfl (λb=>(s4 b).1) rfl s2;obtain⟨U,β1,u1,u2,u3,u4,u5,u6,u7,u8,u9,u10,u11,u12,u13,u14⟩:=hRs.room2 (k:=Dv.costC+k) (β:=β) (hOs.less (by
  have:Dv.costR*S.seen.t.b<=Dv.costR*16:=Nat.mul_le_mul_left _ (by have:=hOs.t.b;have:S.seen.N.blocks=S.N.blocks:=rfl;omega);unfold Dv.costS Dv.costM;omega)) hot (by rw[hrs];exact hr) hβ (by show S.next<=_;omega)
 have hmany:=u2.many u3 u4;have hdU:die<U.N.dies:=by rw[u11.dies];exact hd
 have hddU:U.N.dead.getD die false=true:=by rw[u9];exact hdd
 have htdU:=u13 _ s3;have mU:=m1.trans u14;have hlU:S.N.Like U.N:=u11;have hst:S.step most=(let r:=S.seen.room;if r.2≠0 then(r.1,0,r.2)else match r.1.hurts with | []=>(r.1,0,0) | b::_=>r.1.carry b most):=rfl;rw[u1]at hst;dsimp only at hst;rw[if_neg (by decide)]at hst;cases hh:U.hurts with
 | nil=>
  rw[hh]at hst;have hno:=u2.inv.hurt_none u3 hdU htdU hh;refine⟨U,0,β1,hst,by omega,⟨u2,htdU,by have:S.seen.next=S.next:=rfl;omega,u9,u10,hlU,u12,λ_=>hno,λ_ _=> .inl hno⟩,u3.less (by omega),u6.seen u2.inv u3 hdU hddU,by omega,by omega⟩
 | cons b l=>
  rw[hh]at hst;dsimp only at hst;obtain⟨hb,i,a,hi,ha,hab,hm⟩:=u2.inv.hurt_some u3 hdU htdU hh;obtain⟨L,hL⟩:∃L,(U.T.ins b).take (max most 0).toNat=L:=⟨_,rfl⟩;have hLlen:L.length<=6/\(L.length:Int)<=most:=by rw[<- hL,List.length_take];omega
  have hsub:∀j∈L,j∈U.T.ins b:=λj hj=>by rw[<- hL]at hj;exact List.mem_of_mem_take hj
  have hne:L≠[]:=λe=>by
   have:L.length=0:=by rw[e];rfl
   have:=List.length_pos_of_mem hi;rw[<- hL,List.length_take]at*;omega
  have hnd:L.Nodup:=by
   rw[<- hL];refine List.Nodup.sublist (List.take_sublist _ _) ?_;unfold Tb.ins;split
   ·exact List.nodup_nil
   ·unfold Tb.inK;exact List.pairwise_map.2 ((List.nodup_range.filter _).imp λhne e=>hne (by omega))
  have hmul:1*6<=(U.N.dies-2)*6:=Nat.mul_le_mul_right _ (by have:=u11.dies;have:S.seen.N.dies=S.N.dies:=rfl;omega);have hpU:U.N.pages=S.N.pages:=u11.pages;obtain⟨V,β2,r1,r2,r3,r4,r5,r6,r7⟩:=u2.inv.carry_go L.length U L 0 W β1 6 k (u3.less (by
   have:Dv.cost*L.length<=Dv.cost*65536:=Nat.mul_le_mul_left _ (by omega);unfold Dv.costC;omega)) (Nat.le_refl _) u2.hd u2.wok (λj hj=>by
    obtain⟨c,hc,_⟩:=ins_in (hsub j hj);cases hw:Tb.look W j with
    | none=>rw[u2.hd.none hw]at hc;cases hc
    | some e=>rfl) hnd u6 (by omega) (by rw[hpU]at hmany;omega) (by have:S.seen.next=S.next:=rfl;omega)
  have hcar:U.carry b most=(V,(L.length:Int),(0:Int)):=by
   unfold Dv.carry;rw[hL];show Dv.carryGo L.length U L 0=_;rw[r1];simp
  have hpV:V.N.pages=S.N.pages:=r2.like.pages.trans hpU;have hdV:die<V.N.dies:=by rw[r2.like.dies];exact hdU
  have hddV:V.N.dead.getD die false=true:=by rw[r2.dead];exact hddU
  have hRV:Rmy die W V:=⟨r2.inv,r3,h.wok,λx hx=>by rw[r2.has]at hx;rw[(r2.sb x hx).1];exact u2.held x hx,λhdd i j=>by rw[(r2.flags i j).2];exact u2.ff (λi=>by rw[<- r2.dead];exact hdd i) i j,by rw[r2.like.blocks,r2.like.pages,r2.like.dies];exact u2.cap⟩;have hnx2:=r2.next;obtain⟨j,hj⟩:=List.exists_mem_of_ne_nil _ hne;obtain⟨c,hc,hcb⟩:=ins_in (hsub j hj);refine⟨V,L.length,β2,by rw[hst,hcar],hLlen.2,⟨hRV,r2.td _ htdU,by have:S.seen.next=S.next:=rfl;omega,r2.dead.trans u9,r2.broken.trans u10,hlU.trans r2.like,r2.logical.trans u12,λhn=>Mvd.crd_noD (mU.noD hdd hn) r2 hddU,λO hG=>?_⟩,r7,r4.seen r2.inv r7 hdV hddV,by omega,by rw[hpV];rw[hpU]at hmany;omega⟩;obtain⟨O',g1,g2⟩:=mU.gh (K:=W.map (·.1)) (P:=S.N.pages) hdd hG;have hOb:O' b=true:=by rw[<- hab];exact g1.ent i a ha hm
  have hKj:j∈W.map (·.1):=by
   rw[<- u2.hd.keys];exact List.mem_map.2 ⟨(j,c),Tb.look_mem hc,rfl⟩
  have q1:=(g1.crd (K:=W.map (·.1)) (P:=S.N.pages) r2 hddU).1;have q2:=g1.crd_lt (K:=W.map (·.1)) r2 hpV hj hKj hc (by rw[hcb];exact hOb);exact .inr ⟨O',q1,by omega⟩
theorem Hd.other {die other:Nat} {S:Dv} {W:List (Int×En)} (h:Hd S W) (hi:Inv die S) (hn:NoD die S):Hd {S with N:={S.N with dead:=S.N.dead.set other true}} W:=by
 refine⟨h.keys,λi e he=>?_⟩;obtain⟨h1,a,h2,h3⟩:=h.each i e he;refine⟨h1,a,h2,?_⟩;obtain⟨l,g1,g2,g3,_⟩:=(hi.st i a h2).row;have hno:=hn i a h2;have hne:∀x∈R.job a.block a.row a.mask l,x.1≠(die:Int):=λx hx e=>by
  have:=(g1.is.inn x hx).2.2;rw[e,hno]at this;cases this
 have hlike:S.N.Like {S.N with dead:=S.N.dead.set other true}:=⟨rfl,rfl,rfl⟩;have hF:Full (other:Int) {S.N with dead:=S.N.dead.set other true} a.block a.row a.mask l:=⟨g1.is.like hlike,λx hx _=>g1.good x hx (hne x hx),g1.inn⟩;have r1:=hF.read2 (i:=a.slot.toNat) hi.lit.off (λx hx hxo=>by
  have h4:=(g1.is.inn x hx).1;show(S.N.dead.set other true).getD x.1.toNat false=false;rw[List.getD_eq_getElem?_getD,List.getElem?_set,if_neg (by omega),<- List.getD_eq_getElem?_getD];exact hi.dead _ (by have:=hne x hx;omega)) g3
 have r2:=g1.read hi.lit.off hi.dead g3;rw[show((a.slot.toNat:Nat):Int)=a.slot from by omega]at r1 r2;show R.read {S.N with dead:=S.N.dead.set other true} _ _ _ _=_;rw[r1,<- r2];exact h3
structure Mnd (die D B P g:Nat) (W:List (Int×En)) (i:Nat) (S:Dv):Prop where
 rmy:Rmy die W S
 dd:S.N.dead.getD die false=true
 hot:∃β,Hot2 die S.seen β/\β<=1/\5*P+β<=S.rows+7
 td:0<i->L.has S.t.dead (die:Nat)=true
 pot:NoD die S\/∃O,Gh die O S/\pot O S (W.map (·.1)) P+i<=g+P
 next:S.next<=1000000+7000*(i:Int)
 dies:S.N.dies=D
 blocks:S.N.blocks=B
 pages:S.N.pages=P
 logical:S.T.logical=(g:Int)
 broken:S.N.broken=0
namespace Mnd
variable {die D B P g : Nat} {W : List (Int × En)} {i k m : Nat} {S : Dv}
theorem first(hR:Rmy (-1) W S) (hO:S.Ok k m) (hr:5*P<=S.rows+1) (hnx:S.next<=1000000) (hgeo:S.N.dies=D/\S.N.blocks=B/\S.N.pages=P) (hlog:S.T.logical=(g:Int)) (hbr:S.N.broken=0) (hd:die<D) (hno:NoF S):Mnd die D B P g W 0 {S with N:={S.N with dead:=S.N.dead.set die true}}:=by
 have hg:=hO.gd.ok.bd16;have hlen:die<S.N.dead.length:=by rw[hO.gd.ok.dead];omega
 have hi1:Inv die S:=hR.inv.any hno.plan;obtain⟨k1,k2⟩:=hi1.killed;have hdd:({S with N:={S.N with dead:=S.N.dead.set die true}}:Dv).N.dead.getD die false=true:=by
  show(S.N.dead.set die true).getD die false=true;rw[List.getD_eq_getElem?_getD,List.getElem?_set,if_pos rfl,if_pos hlen];rfl
 have hH:Hd {S with N:={S.N with dead:=S.N.dead.set die true}} W:=⟨hR.hd.keys,λj e he=>by
  obtain⟨h1,a,h2,h3⟩:=hR.hd.each j e he;refine⟨h1,a,h2,?_⟩;show R.read {S.N with dead:=S.N.dead.set die true} _ _ _ _=_;rw[(k2 j a (hi1.st j a h2)).2];exact h3⟩
 have hW:W.length<=g:=by
  have h1:=at_len hO.T;have h2:=congrArg List.length hR.hd.keys;simp only[List.length_map]at h2;omega
 have hO2:({S with N:={S.N with dead:=S.N.dead.set die true}}:Dv).t.Fit ({S with N:={S.N with dead:=S.N.dead.set die true}}:Dv).N:=hO.t.like ⟨rfl,rfl,rfl⟩;refine⟨⟨k1,hH,hR.wok,hR.held,λh=>?_,hR.cap⟩,hdd,⟨1, .once ?_,Nat.le_refl _,?_⟩,λh=>absurd h (Nat.lt_irrefl _), .inr ⟨λb=>S.t.has b&&(S.t.at_ b).used,⟨λb hb=>Bool.and_eq_true _ _▸hb,λj a ha _=>?_⟩,?_⟩,by show S.next<=_;omega,hgeo.1,hgeo.2.1,hgeo.2.2,hlog,hbr⟩
 ·have h1:=h die;rw[hdd]at h1;cases h1
 ·show L.has (Dv.seeDead {S.N with dead:=S.N.dead.set die true} S.t).dead (die:Nat)=true;have hda:∀x:Nat,({S.N with dead:=S.N.dead.set die true}:Nand).deadAt x=decide (x=die):=λx=>by
   unfold Nand.deadAt;rw[Int.toNat_natCast]
   by_cases e:x=die
   ·subst e;have hdd:(S.N.dead.set x true).getD x false=true:=hdd;show _=_;simp only[hdd];have hx:S.N.dies=D:=hgeo.1;simp;omega
   ·have:(S.N.dead.set die true).getD x false=false:=k1.dead x (by omega);rw[decide_eq_false e];simp only[this];simp
  unfold Dv.seeDead;rw[seeDead_range hda,if_pos (by have:=hO.t.d;omega)];unfold Tl.die;rw[if_pos (by unfold Tl.hasDie;rw[decide_eq_true (by omega),decide_eq_true (by have:=hO.t.d;omega)];rfl)];show L.has (L.with_ S.t.dead (die:Int)) (die:Nat)=true;rw[L.with_has hi1.tdead.1 (d:=(die:Int)) (by omega)];simp
 ·have e:({S with N:={S.N with dead:=S.N.dead.set die true}}:Dv).rows=S.rows:=rfl;rw[e];omega
 ·have h1:=hi1.st j a ha;obtain⟨l,g1,_⟩:=h1.row;have hblk:=g1.is.blk;have hb:=hO.t.b;show(S.t.has a.block&&(S.t.at_ a.block).used)=true;rw[h1.used,Tl.has_iff.2 (by omega)];rfl
 ·unfold Go.Proofs.YtdocmcapegcoeaaGreat.pot;have hrow:0<=S.row:=hO.row.1;have hl:(W.map (·.1)).length=W.length:=by rw[List.length_map]
  have:=oldN_le (λb=>S.t.has b&&(S.t.at_ b).used) S.T (W.map (·.1));split
  ·show(W.map (·.1)).length+((P:Int)-S.row).toNat+0<=_;omega
  ·show oldN _ S.T (W.map (·.1))+0<=_;omega
theorem step (h:Mnd die D B P g W i S) (hO:S.Ok (Dv.costS+k) m) (hd:die<D) {most:Int} (hmost:1<=most/\most<=6) (hi:i<=500):∃(V:Dv) (n:Int),S.step most=(V,n,0)/\n<=most/\Mnd die D B P g W (i+1) V/\V.Ok k m/\(0<i->S.leftN=0->V.leftN=0):=by
 obtain⟨β,q1,q2,q3⟩:=h.hot;have hnx:=h.next;obtain⟨V,n,β',v1,v2,v3,v4,v5,v6,v7⟩:=h.rmy.step hO (by rw[h.dies];exact hd) h.dd q1 q2 (by rw[h.pages];exact q3) hmost (by omega);have hdV:die<V.N.dies:=by rw[v3.like.dies,h.dies];exact hd
 refine⟨V,n,v1,v2,⟨v3.rmy,by rw[v3.dead];exact h.dd,⟨β',v5,v6,by rw[v3.like.pages,h.pages]at v7;exact v7⟩,λ_=>v3.td,?_,by have:=v3.next;omega,v3.like.dies.trans h.dies,v3.like.blocks.trans h.blocks,v3.like.pages.trans h.pages,v3.logical.trans h.logical,v3.broken.trans h.broken⟩,v4,λhi0 hl=>?_⟩
 ·rcases h.pot with h1 | ⟨O,g1,g2⟩
  ·exact .inl (v3.noD h1)
  ·rcases v3.pot O g1 with h1 | ⟨O',q4,q5⟩
   ·exact .inl h1
   ·rw[h.pages]at q5;exact .inr ⟨O',q4,by omega⟩
 ·have h1:=(h.rmy.inv.left_noD hO (by rw[h.dies];exact hd) (h.td hi0)).1 hl;exact(v3.rmy.inv.left_noD v4 hdV v3.td).2 (v3.noD h1)
theorem done (h:Mnd die D B P g W i S) (hO:S.Ok k m) (hd:die<D) (hi:g+P<i):S.leftN=0:=by
 refine(h.rmy.inv.left_noD hO (by rw[h.dies];exact hd) (h.td (by omega))).2 ?_;rcases h.pot with h1 | ⟨O,_,g2⟩
 ·exact h1
 ·omega
theorem noD (h:Mnd die D B P g W i S) (hO:S.Ok k m) (hd:die<D) (hi:0<i) (hl:S.leftN=0):NoD die S:=
 (h.rmy.inv.left_noD hO (by rw[h.dies];exact hd) (h.td hi)).1 hl
end Mnd
end Go.Proofs.YtdocmcapegcoeaaGreat
namespace Go.Proofs.YtdocmcapegcoeaaGreat
open Go Go.RowKit
theorem oth_bd {d D:Nat} {w:Int} (hd:d<D) (hw:0<=w/\w<(D:Int)-1):∃o:Nat,((d:Int)+1+w).tmod D=(o:Int)/\o<D/\o≠d:=by
 obtain⟨v,rfl⟩:=Int.eq_ofNat_of_zero_le hw.1;have e:((d:Int)+1+(v:Int)).tmod D=(((d+1+v) % D:Nat):Int):=by
  rw[Int.tmod_eq_emod_of_nonneg (by omega)];simp
 refine⟨(d+1+v) % D,e,Nat.mod_lt _ (by omega),?_⟩;rcases Nat.lt_or_ge (d+1+v) D with h | h
 ·rw[Nat.mod_eq_of_lt h];omega
 ·rw[Nat.mod_eq_sub_mod h,Nat.mod_eq_of_lt (by omega)];omega
theorem s_MendAll (g0 g1 g2 di ot mo:Int) (A:Atom) (ao:Option Addr) (no co:Nat) (xs:List Int) (hA:Rd A ao 1 no (xs.flatMap λx=>[Value.int .i64 x])) (hlo:xs.length=no) (hdo:∀x∈xs,-9223372036854775808<=x/\x<=9223372036854775807):
  Fn Tryz.prog 8 [.agg #[.int .i64 g0, .int .i64 g1, .int .i64 g2], .slice ao no co, .int .i64 di, .int .i64 ot, .int .i64 mo] [A] (λv As=>v= .bool true/\As=[A]):=by
 rw[cellsI_flat]at hA;refine Fn.enter [0,0,0,0,0] Tryz.func8 rfl rfl rfl λX F hX=>?_;refine J.q hX λbb=>?_;refine J.cb hX (l18_begun) [] ?_;refine cpq ⟨_,rfl,trivial,?_⟩;refine J.q hX λ_=>?_;refine J.cF ?_;refine J.q hX λ_=>?_;refine J.cb hX (l6_Geo g0 g1 g2) [] ?_;rintro v As ⟨D,B,P,rfl,hD,hB,hP,rfl⟩;refine⟨_,rfl,trivial,?_⟩;have hgm:geoMay D B P=true:=by simp[geoMay];omega
 refine J.q hX λ_=>?_;refine J.cb hX (n_New D B P hgm) [] ?_;rintro v As ⟨q0,rfl,rfl⟩;refine⟨_,rfl,trivial,?_⟩;refine J.q hX λ_=>?_;refine J.cb hX (f13_Logical q0 (Nand.new D B P) hgm) [3] ?_;refine cpq ⟨_,rfl,trivial,?_⟩;rw[show lgN (Nand.new D B P).dies (Nand.new D B P).blocks (Nand.new D B P).pages=lgN D B P from rfl];obtain⟨g,hg⟩:∃g,lgN D B P=g:=⟨_,rfl⟩;have hgb:=lgN_le hD hB hP;rw[hg]at hgb ⊢;refine J.q hX λ_=>?_;refine J.cb hX (l18_bench D B P hgm g) [] ?_;rintro v As ⟨n,t,l,q,rfl,rfl⟩;refine⟨_,rfl,trivial,?_⟩;refine J.q hX λbm=>?_;refine J.turn1 [8] rfl (As:=[mapA (bm 0) kI (wM [])]) (λh s=>?_) rfl ?_
 ·refine⟨λ_=>0,λi A hA=>?_⟩;cases i with
  | zero=>simp at hA;subst hA;exact⟨#[],0,res_some.2 ⟨rfl,s.get (i:=0) rfl⟩,rfl,by simp,by simp⟩
  | succ k=>simp at hA
 obtain⟨Y,hY⟩:∃Y,Dv.costS+8*Dv.fuel=Y:=⟨_,rfl⟩;have hO0:(Dv.new D B P g).Ok (Y*400) 0:=Dv.Ok.new D B P g hgm _ (by rw[<- hY];decide);have hT0:(Dv.new D B P g).T.logical=(g:Int):=by
  show min (max (g:Int) 0) 65536=_;omega
 have hR0:Rmy (-1) [] (Dv.new D B P g):=⟨Inv.new _ _ _ _ _,⟨rfl,λi e he=>by cases he⟩,λi e he=>(by cases he),λb _=>(by
  show((Tl.new D B P).at_ b).held=false;have:(Tl.new D B P).at_ b=Sb.zero:=by
   unfold Tl.new Tl.at_;dsimp only;rw[List.getD_eq_getElem?_getD,List.getElem?_replicate];split<;>rfl
  rw[this];rfl),λ_ _ _=>rfl,by simp⟩
 have hr0:5*P<=(Dv.new D B P g).rows+1:=by
  rw[rows_new2];have:P*8<=P*B:=Nat.mul_le_mul_left _ hB.1;omega
 refine J.q hX λ_=>?_;refine J.lo (α:=(Nat×Dv×List (Int×En))) (λz=>(z.1<=no/\z.1<=60)/\Rmy (-1) z.2.2 z.2.1/\NoF z.2.1/\5*P<=z.2.1.rows+1/\z.2.1.T.logical=(g:Int)/\z.2.1.next<=1+7000*(z.1:Int)/\(z.2.1.N.dies=D/\z.2.1.N.blocks=B/\z.2.1.N.pages=P)/\z.2.1.N.broken=0/\z.2.1.Ok (Y*(400-z.1)) 0) (λz=>[⟨18, .int .i64 z.1,0, .tt⟩,⟨17, .map (some (bm 0)),9, .tt⟩,⟨12, .int .i64 g,0, .tt⟩,⟨1, .slice ao no co,0, .tt⟩,⟨2, .int .i64 di,0, .tt⟩,⟨3, .int .i64 ot,0, .tt⟩,⟨4, .int .i64 mo,0, .tt⟩,⟨5, .pointer (some ⟨bb 0,0,none⟩),3, .tt⟩,⟨13, .pointer (some ⟨n,0,none⟩),0, .tt⟩,⟨14, .pointer (some ⟨t,0,none⟩),0, .tt⟩,⟨15, .pointer (some ⟨l,0,none⟩),0, .tt⟩,⟨16, .pointer (some ⟨q,0,none⟩),0, .tt⟩]) [4,5,6,7,8] (λz=>(DvP q n t l z.2.1++[mapA (bm 0) kI (wM z.2.2)])) (λz=>no-z.1) ((0,Dv.new D B P g,[])) (⟨⟨Nat.zero_le _,Nat.zero_le 60⟩,hR0,NoF.new _ _ _ _,hr0,hT0,by show(1:Int)<=1+7000*0;omega,⟨rfl,rfl,rfl⟩,rfl,hO0⟩) rfl ?_ (λ_=>rfl) λz hI=>?_
 ·rfl
 obtain⟨i,S,W⟩:=z;dsimp only at hI ⊢;obtain⟨⟨hi,hi60⟩,hR,hno,hrw,hlog,hnx,hgeo,hbr,hO⟩:=hI;refine J.q hX λ_=>?_;refine J.cond rfl (λh1=>?_) (λh1=>?_)
 ·simp only[Bool.and_eq_true,decide_eq_true_eq]at h1;have hi1:i<no/\i<60:=by omega
  obtain⟨x,hx⟩:∃x,xs[i]? =some x:=⟨_,List.getElem?_eq_getElem (by omega)⟩;have hx1:=tm_bd x g (by omega);have hx2:=tm_2 x g (by omega);obtain⟨u,hu⟩:=Int.eq_ofNat_of_zero_le hx2.1;rw[hu]at hx2;have hmul:Y*(400-i)=Y*(400-(i+1))+Y:=by
   rw[show 400-i=(400-(i+1))+1 from by omega,Nat.mul_succ]
  have hO1:S.Ok (Dv.costM+(8*Dv.fuel+Y*(400-(i+1)))) 0:=hO.less (by unfold Dv.costS at hY;omega);have htb:S.t.b=B:=by have:=hO.t.b;rw[hgeo.2.1]at this;exact this
  obtain⟨V,β',v1,v2,v3,v4,v5,v6,v7,v8,v9,v10,v11,v12,v13⟩:=hR.room (k:=8*Dv.fuel+Y*(400-(i+1))) (hO1.less (by
   have:Dv.costR*S.t.b<=Dv.costR*16:=Nat.mul_le_mul_left _ (by omega);unfold Dv.costM;omega)) (.calm hno) (by rw[hgeo.2.2];omega) (by omega) (by omega)
  obtain rfl:β'=0:=by omega
  have hmany:=v2.many v3 v4;have hVg:V.N.dies=D/\V.N.blocks=B/\V.N.pages=P:=⟨v11.dies.trans hgeo.1,v11.blocks.trans hgeo.2.1,v11.pages.trans hgeo.2.2⟩;have hdt:∀y∈[e18 (u:Int) ((i:Int)+1)],y.data.length=16:=λy hy=>by
   simp at hy;rw[hy];rfl
  obtain⟨U,β2,u1,u2,u3,u4,u5,u6,u7,u8,u9,u10,u11,u12⟩:=v2.pen (e:=e18 (u:Int) ((i:Int)+1)) v3 v6 (by rw[hVg.2.2]at hmany;omega) (e18_fit (by omega)) (by rw[v12,hlog];show(u:Int)<g;omega) (by rw[v12,hlog,hVg.1,hVg.2.1,hVg.2.2];have:=hgb.2.2;omega) (by omega);obtain rfl:β2=0:=by omega
  have hUg:U.N.dies=D/\U.N.blocks=B/\U.N.pages=P:=⟨u10.dies.trans hVg.1,u10.blocks.trans hVg.2.1,u10.pages.trans hVg.2.2⟩;have hUno:NoF U:=u4.nof;refine J.know (p:=∃g o,ao=some ⟨g,o,none⟩) (λh' s=>Rd.addr (hA _ (s.get (i:=1) rfl)) (by omega)) λhk=>?_;obtain⟨gm,om,rfl⟩:=hk;refine J.q hX λ_=>?_;refine J.val hX (.int .i64 x) 0 rfl rfl (λhg aa w he hw=>rd1_run tk rfl rfl he rfl rfl rfl (hA _ (hw.get (i:=1) rfl)) (by omega) (j:=i) (by omega) (cellsI_get hx)) rfl trivial ?_;refine J.q hX λ_=>?_;rw[hu];refine J.q hX λ_=>?_;refine J.cb hX (l18_entry u (i+1)) [] ?_;refine cpq ⟨_,rfl,trivial,?_⟩;refine J.q hX λ_=>?_;refine J.ca hX (by kernel_rfl) (sw_Room n t l q S _ 0 hO1 (by decide)) [4,5,6,7] 0 rfl rfl rfl rfl rfl rfl (λ_=>rfl) ?_;refine cpq ⟨_,rfl,trivial,?_⟩;rw[v1];dsimp only;refine J.q hX λ_=>?_;refine J.cF ?_;refine J.q hX λbz=>?_;refine J.ca hX (by kernel_rfl) (pn_Write q n t l V _ 0 v3 (.pt (bz 0) 38 (cellsE [e18 u ((i:Int)+1)])) (some ⟨bz 0,0,none⟩) 1 1 [e18 u ((i:Int)+1)] (pt_rd _ _ _ _ _ rfl) rfl (by decide) hdt) [4,5,6,7,10] 0 rfl rfl rfl rfl rfl rfl (λ_=>rfl) ?_;refine cpq ⟨_,rfl,trivial,?_⟩;rw[u1];dsimp only;refine J.q hX λ_=>?_;refine J.cF ?_;refine J.q hX λ_=>?_;refine J.mapUpdate hX keyI umapE (u:Int) 8 rfl rfl rfl rfl rfl rfl rfl rfl rfl rfl rfl rfl (λ_=>rfl) (show lset _ 8 (mapA _ kI (aput _ _ (enV (e18 u ((i:Int)+1)))))=_ from(by rw[aput_wM];rfl)) ⟨trivial,?_⟩;refine J.q hX λ_=>?_;refine J.nS ((i+1,U,Tb.put1 W (u:Int) (e18 u ((i:Int)+1)))) (⟨⟨by dsimp only;omega,by dsimp only;omega⟩,u2,hUno,by dsimp only;rw[hVg.2.2]at hmany;omega,u11.trans (v12.trans hlog),by dsimp only;omega,hUg,u9.trans (v10.trans hbr),u3⟩) (by dsimp only;omega) [0,1,2,3,4,5,6,7,8] rfl rfl
 clear h1 hi;have hd1:=tm_bd di D (by omega);have hd2:=tm_2 di D (by omega);have ho1:=tm_bd ot ((D:Int)-1) (by omega);have ho2:=tm_2 ot ((D:Int)-1) (by omega);have hm1:=tm_bd mo 6 (by decide);have hm2:=tm_2 mo 6 (by decide);obtain⟨d,hde⟩:=Int.eq_ofNat_of_zero_le hd2.1;obtain⟨most,hmo⟩:∃most,1+(mo.tmod 6+6).tmod 6=most:=⟨_,rfl⟩;rw[show ot.tmod ((D:Int)-1)+((D:Int)-1)=ot.tmod ((D:Int)-1)+(D:Int)-1 from by omega]at ho2;rw[hde]at hd2;have hdD:d<D:=by omega
 obtain⟨o,hoe,hoD,hod⟩:=oth_bd hdD ho2;have hO60:S.Ok (Y*300) 0:=hO.less (Nat.mul_le_mul_left _ (by omega));have hM0:=Mnd.first (D:=D) (B:=B) (P:=P) (g:=g) (die:=d) hR hO60 hrw (by omega) hgeo hlog hbr hdD hno;have hft:S.N.fault 4 d 0 0 0 0=(true,{S.N with dead:=S.N.dead.set d true}):=by
  rw[fault_4 (by rw[hgeo.1,hgeo.2.1,hgeo.2.2];unfold geoIn;simp;omega)];rfl
 have hO2:({S with N:={S.N with dead:=S.N.dead.set d true}}:Dv).Ok (Y*300) 0:=by
  have hg:=hO60.gd.fault0 4 d 0 0 0 0 (by decide);have hl:=Nand.like_fault S.N 4 d 0 0 0 0;rw[hft]at hg hl;exact⟨hg,hO60.t.like hl,hO60.T,hO60.sl,hO60.row,hO60.next⟩
 refine J.q hX λ_=>?_;refine J.plan (.of [0,4,9,12,16,21,24,28,33,36,40]) [9,10] [2] (by rw[hX.hP];kernel_rfl) (by kernel_rfl) ?_;refine J.qn hX 13 λ_=>?_;rw[hde];refine J.q hX λ_=>?_;refine J.plan (.of [0,4,8,12,17,20,24,28,33,36,40,44,49,52,56,60,64,69,72,76]) [19] [2] (by rw[hX.hP];kernel_rfl) (by kernel_rfl) ?_;refine J.qn hX 22 λ_=>?_;rw[hoe];refine J.q hX λ_=>?_;rw[hmo];refine J.q hX λ_=>?_;refine J.cb hX (n_Fault n S.N hO60.gd.ok 0 4 d 0 0 0 0) [5] ?_;refine cpq ⟨_,rfl,trivial,?_⟩;rw[hft];dsimp only;have hS1:∃S1:Dv,S1={S with N:={S.N with dead:=S.N.dead.set d true}}:=⟨_,rfl⟩;refine J.q hX λ_=>?_;refine J.lo (α:=(Nat×Dv)) (λz=>z.1<=g+2*B+1/\Mnd d D B P g W z.1 z.2/\z.2.Ok (Y*(290-z.1)) 0) (λz=>[⟨22, .int .i64 z.1,0, .tt⟩,⟨17, .map (some (bm 0)),9, .tt⟩,⟨12, .int .i64 g,0, .tt⟩,⟨3, .int .i64 o,0, .tt⟩,⟨4, .int .i64 most,0, .tt⟩,⟨5, .pointer (some ⟨bb 0,0,none⟩),3, .tt⟩,⟨13, .pointer (some ⟨n,0,none⟩),0, .tt⟩,⟨14, .pointer (some ⟨t,0,none⟩),0, .tt⟩,⟨15, .pointer (some ⟨l,0,none⟩),0, .tt⟩,⟨16, .pointer (some ⟨q,0,none⟩),0, .tt⟩]) [4,5,6,7] (λz=>DvP q n t l z.2) (λz=>g+2*B+1-z.1) ((0,({S with N:={S.N with dead:=S.N.dead.set d true}}:Dv))) (⟨Nat.zero_le _,hM0,hO2.less (Nat.mul_le_mul_left _ (by omega))⟩) rfl ?_ (λ_=>rfl) λz hI=>?_
 ·rfl
 clear hM0 hO2 hft hO60 hO hbr hgeo hnx hlog hrw hno hR;obtain⟨j,Q⟩:=z;dsimp only at hI ⊢;obtain⟨hj,hQ,hQO⟩:=hI;refine J.q hX λ_=>?_;refine J.cond rfl (λh2=>?_) (λh2=>?_)
 ·simp only[decide_eq_true_eq]at h2;have hj2:j<g+2*B+1:=by omega
  have hmul:Y*(290-j)=Y*(290-(j+1))+Y:=by
   rw[show 290-j=(290-(j+1))+1 from by omega,Nat.mul_succ]
  have hQ1:Q.Ok (Dv.costS+Y*(290-(j+1))) 0:=hQO.less (by omega);obtain⟨U,m,s1,s2,hU,hOU0,s5⟩:=hQ.step hQ1 hdD (most:=most) (by omega) (by omega);have hOU:U.Ok (Y*1) 0:=hOU0.less (Nat.mul_le_mul_left _ (by omega));refine J.q hX λ_=>?_;refine J.cb hX (mn_Left t l Q _ 0 hQ1) [6,7] ?_;refine cpq ⟨_,rfl,trivial,?_⟩;obtain⟨lf,hlf⟩:∃lf,Q.leftN=lf:=⟨_,rfl⟩;rw[hlf]at s5 ⊢;refine J.q hX λ_=>?_;refine J.ca hX (by kernel_rfl) (mn_Step n t l q Q _ 0 hQ1 (by decide) most) [4,5,6,7] 0 rfl rfl rfl rfl rfl rfl (λ_=>rfl) ?_;refine cpq ⟨_,rfl,trivial,?_⟩;rw[s1];dsimp only;refine J.q hX λ_=>?_;rw[decide_eq_false (show¬m>most by omega)];refine J.q hX λ_=>?_;refine J.cb hX (l18_stands n l (bm 0) U.N hOU.gd.ok hOU.gd.room hU.rmy.inv.lit.off U.T W (hU.rmy.hd.sts hOU.T)) [5,7,8] ?_;refine cpq ⟨_,rfl,trivial,?_⟩;refine J.q hX λ_=>?_;refine J.cF ?_;refine J.q hX λ_=>?_;refine J.cond rfl (λh3=>?_) (λh3=>?_)
  ·simp only[Bool.and_eq_true,decide_eq_true_eq,beq_iff_eq]at h3;have hUi:0<j+1:=by omega
   have hlU:U.leftN=0:=s5 (by omega) (by omega);refine J.q hX λ_=>?_;refine J.cb hX (mn_Left t l U _ 0 hOU) [6,7] ?_;refine cpq ⟨_,rfl,trivial,?_⟩;rw[hlU];refine J.q hX λ_=>?_;refine J.cF ?_;refine J.q hX λ_=>?_;refine J.cb hX (n_Fault n U.N hOU.gd.ok 0 4 o 0 0 0 0) [5] ?_;refine cpq ⟨_,rfl,trivial,?_⟩;have hft2:U.N.fault 4 o 0 0 0 0=(true,{U.N with dead:=U.N.dead.set o true}):=by
    rw[fault_4 (by rw[hU.dies,hU.blocks,hU.pages];unfold geoIn;simp;omega)];rfl
   have hgd2:({U.N with dead:=U.N.dead.set o true}:Nand).Gd (Y*1) 0:=by
    have hg:=hOU.gd.fault0 4 o 0 0 0 0 (by decide);rw[hft2]at hg;exact hg
   have hbr2:({U.N with dead:=U.N.dead.set o true}:Nand).broken=0:=hU.broken;have hsts:=Hd.sts (hU.rmy.hd.other (other:=o) hU.rmy.inv (hU.noD hOU hdD hUi hlU)) hOU.T;have hoff2:({U.N with dead:=U.N.dead.set o true}:Nand).off=false:=hU.rmy.inv.lit.off;rw[hft2];dsimp only;have hsts:Sts {U.N with dead:=U.N.dead.set o true} U.T W:=hsts;generalize({U.N with dead:=U.N.dead.set o true}:Nand)=N2 at hgd2 hbr2 hsts hoff2 ⊢;refine J.q hX λ_=>?_;refine J.cond rfl (λh9=>?_) (λh9=>?_)
   ·refine J.q hX λ_=>?_;refine J.val hX (.int .i64 W.length) 0 rfl rfl (λhg a w he hs=>?_) rfl trivial ?_
    ·refine(len_map_run umapE rfl rfl he rfl (hs.get (i:=8) rfl)).trans ?_;unfold wM;rw[List.length_map]
    refine J.qn hX 1 λ_=>?_;cases hz:(((W.length:Nat):Int)==0)with
    | true=>
     refine J.q hX λ_=>?_;refine J.val hX (.bool false) 0 rfl rfl (λhg a w he hs=>absurd hg (by simp[G.on])) rfl trivial ?_;refine J.q hX λ_=>?_;exact J.ru hX [1] ⟨rfl,rfl⟩
    | false=>
     refine J.q hX λ_=>?_;refine J.cb hX (l18_stands n l (bm 0) N2 hgd2.ok hgd2.room hoff2 U.T W hsts) [5,7,8] ?_;refine cpq ⟨_,rfl,trivial,?_⟩;refine J.q hX λ_=>?_;exact J.ru hX [1] ⟨rfl,rfl⟩
   refine J.q hX λ_=>?_;refine J.cb hX (l18_stands n l (bm 0) N2 hgd2.ok hgd2.room hoff2 U.T W hsts) [5,7,8] ?_;refine cpq ⟨_,rfl,trivial,?_⟩;refine J.q hX λ_=>?_;refine J.cb hX (n_Broken n N2) [5] ?_;refine cpq ⟨_,rfl,trivial,?_⟩;rw[hbr2];refine J.q hX λ_=>?_;exact J.ru hX [1] ⟨rfl,rfl⟩
  ·refine J.q hX λ_=>?_;refine J.nS ((j+1,U)) (⟨by dsimp only;omega,hU,hOU0⟩) (by dsimp only;omega) [0,1,2,3,4,5,6,7,8] rfl rfl
 simp only[decide_eq_false_iff_not]at h2;obtain rfl:j=g+2*B+1:=by omega
 obtain⟨U,hUQ⟩:∃U,U=Q:=⟨_,rfl⟩;rw[<- hUQ]at hQ hQO ⊢;have hOU:U.Ok (Y*1) 0:=hQO.less (Nat.mul_le_mul_left _ (by omega));have hU:=hQ;have hUi:0<g+2*B+1:=by omega
 have hlU:U.leftN=0:=hU.done hOU hdD (by omega);refine J.q hX λ_=>?_;refine J.cb hX (mn_Left t l U _ 0 hOU) [6,7] ?_;refine cpq ⟨_,rfl,trivial,?_⟩;rw[hlU];refine J.q hX λ_=>?_;refine J.cF ?_;refine J.q hX λ_=>?_;refine J.cb hX (n_Fault n U.N hOU.gd.ok 0 4 o 0 0 0 0) [5] ?_;refine cpq ⟨_,rfl,trivial,?_⟩;have hft2:U.N.fault 4 o 0 0 0 0=(true,{U.N with dead:=U.N.dead.set o true}):=by
  rw[fault_4 (by rw[hU.dies,hU.blocks,hU.pages];unfold geoIn;simp;omega)];rfl
 have hgd2:({U.N with dead:=U.N.dead.set o true}:Nand).Gd (Y*1) 0:=by
  have hg:=hOU.gd.fault0 4 o 0 0 0 0 (by decide);rw[hft2]at hg;exact hg
 have hbr2:({U.N with dead:=U.N.dead.set o true}:Nand).broken=0:=hU.broken;have hsts:=Hd.sts (hU.rmy.hd.other (other:=o) hU.rmy.inv (hU.noD hOU hdD hUi hlU)) hOU.T;have hoff2:({U.N with dead:=U.N.dead.set o true}:Nand).off=false:=hU.rmy.inv.lit.off;rw[hft2];dsimp only;have hsts:Sts {U.N with dead:=U.N.dead.set o true} U.T W:=hsts;generalize({U.N with dead:=U.N.dead.set o true}:Nand)=N2 at hgd2 hbr2 hsts hoff2 ⊢;refine J.q hX λ_=>?_;refine J.cond rfl (λh9=>?_) (λh9=>?_)
 ·refine J.q hX λ_=>?_;refine J.val hX (.int .i64 W.length) 0 rfl rfl (λhg a w he hs=>?_) rfl trivial ?_
  ·refine(len_map_run umapE rfl rfl he rfl (hs.get (i:=8) rfl)).trans ?_;unfold wM;rw[List.length_map]
  refine J.qn hX 1 λ_=>?_;cases hz:(((W.length:Nat):Int)==0)with
  | true=>
   refine J.q hX λ_=>?_;refine J.val hX (.bool false) 0 rfl rfl (λhg a w he hs=>absurd hg (by simp[G.on])) rfl trivial ?_;refine J.q hX λ_=>?_;exact J.ru hX [1] ⟨rfl,rfl⟩
  | false=>
   refine J.q hX λ_=>?_;refine J.cb hX (l18_stands n l (bm 0) N2 hgd2.ok hgd2.room hoff2 U.T W hsts) [5,7,8] ?_;refine cpq ⟨_,rfl,trivial,?_⟩;refine J.q hX λ_=>?_;exact J.ru hX [1] ⟨rfl,rfl⟩
 refine J.q hX λ_=>?_;refine J.cb hX (l18_stands n l (bm 0) N2 hgd2.ok hgd2.room hoff2 U.T W hsts) [5,7,8] ?_;refine cpq ⟨_,rfl,trivial,?_⟩;refine J.q hX λ_=>?_;refine J.cb hX (n_Broken n N2) [5] ?_;refine cpq ⟨_,rfl,trivial,?_⟩;rw[hbr2];refine J.q hX λ_=>?_;exact J.ru hX [1] ⟨rfl,rfl⟩
end Go.Proofs.YtdocmcapegcoeaaGreat
