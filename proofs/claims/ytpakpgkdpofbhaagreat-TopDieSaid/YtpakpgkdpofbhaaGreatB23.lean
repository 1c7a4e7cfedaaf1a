/- Helpers. No condition. -/
import Derived.Test.YtpakpgkdpofbhaaGreatB00
import Derived.Test.YtpakpgkdpofbhaaGreatB12
import Derived.Test.YtpakpgkdpofbhaaGreatB15
import Derived.Test.YtpakpgkdpofbhaaGreatB17
import Derived.Test.YtpakpgkdpofbhaaGreatB20
set_option maxRecDepth 20000
set_option linter.all false
namespace Go.Proofs.YtpakpgkdpofbhaaGreat
open Go Go.RowKit
theorem a6m {α:Type} {p q:α->Bool}:∀{K:List α},(∀x∈K,p x=true->q x=true)->∀{x:α},x∈K->p x=false->q x=true->K.countP p<K.countP q
 | [],_,x,hx,_,_=>by cases hx
 | y::K,h,x,hx,h1,h2=>by
  rw[I4,I4];have hy:=h y (by simp);rcases List.mem_cons.1 hx with rfl | hx
  ·have:=a0Y (l:=K) λz hz=>h z (by simp[hz]);rw[h1,h2];simp only[H3,W3,X1];omega
  ·have:=a6m (λz hz=>h z (by simp[hz])) hx h1 h2;cases hp:p y with
   | false=>simp only[H3,W3];omega
   | true=>rw[hy hp];simp only[X1];omega
structure Gh (die:Nat) (O:Int->Bool) (S:Dv):Prop where
 used:∀b,O b=true->S.t.has b=true/\(S.t.at_ b).used=true
 ent:∀i a,Tb.look S.T.at_ i=some a->L.has a.mask (die:Nat)=true->O a.block=true
def b4Y (O:Int->Bool) (T:Tb) (i:Int):Bool:=match Tb.look T.at_ i with | some a=>O a.block | none=>false
def b4X (O:Int->Bool) (T:Tb) (K:List Int):Nat:=K.countP (b4Y O T)
def pot (O:Int->Bool) (S:Dv) (K:List Int) (P:Nat):Nat:=if O S.op=true then K.length+((P:Int)-S.row).toNat else b4X O S.T K
theorem b0D (O:Int->Bool) (T:Tb) (K:List Int):b4X O T K<=K.length:=Y5
theorem a2M {O:Int->Bool} {T:Tb} {i:Int} {a:AtV} (h:Tb.look T.at_ i=some a):b4Y O T i=O a.block:=by unfold b4Y;rw[h]
def NoD (die:Nat) (S:Dv):Prop:=∀i a,Tb.look S.T.at_ i=some a->L.has a.mask (die:Nat)=false
namespace Gh
variable {die : Nat} {O : Int → Bool} {fd : Int} {U V : Dv} {K I : List Int} {P : Nat}
theorem same (h:Gh die O U) (hT:V.T=U.T) (hop:V.op=U.op) (hrow:V.row=U.row) (hhas:∀b,V.t.has b=U.t.has b) (hi:Inv fd V):∃O',Gh die O' V/\pot O' V K P<=pot O U K P:=by
 refine⟨λb=>O b&&(V.t.at_ b).used,⟨λb hb=>?_,λi a ha hd=>?_⟩,?_⟩
 ·have hb:=j5 _ _▸hb;exact⟨by rw[hhas];exact(h.used b hb.1).1,hb.2⟩
 ·have h1:=(hi.st i a ha).used;rw[hT]at ha;show(O a.block&&(V.t.at_ a.block).used)=true;rw[h.ent i a ha hd,h1];rfl
 ·unfold pot;rw[hop,hrow,hT];have hmono:b4X (λb=>O b&&(V.t.at_ b).used) U.T K<=b4X O U.T K:=by
   refine a0Y λi _ hx=>?_;unfold b4Y at hx ⊢;split at hx
   ·exact(j5 _ _▸hx).1
   ·cases hx
  cases hO:O U.op with
  | false=>
   rw[i7 (show¬(O U.op&&(V.t.at_ U.op).used)=true by rw[hO];simp),i7 n8];exact hmono
  | true=>
   have hu:(V.t.at_ U.op).used=true:=by
    rcases hi.op with e | e
    ·rw[hop]at e;have:=(h.used _ hO).1;have:=(Tl.has_iff.1 this).1;omega
    ·rw[<- hop];exact e.used
   rw[i9 (show(O U.op&&(V.t.at_ U.op).used)=true by rw[hO,hu];rfl),i9 rfl];exact m9 _
theorem where_ (h:Gh die O U) {b r:Int} (hf:FreshP U b r) (hO:O b=true):b=U.op/\U.row<=r:=by
 rcases hf with h1 | ⟨_,h2⟩
 ·exact h1
 ·rw[(h.used b hO).2]at h2;cases h2
theorem crd (h:Gh die O U) (hc:Crd fd U I V) (hd:U.N.dead.getD die false=true):Gh die O V/\pot O V K P<=pot O U K P:=by
 refine⟨⟨λb hb=>⟨by rw[hc.has];exact(h.used b hb).1,(hc.sb b (h.used b hb).1).2 (h.used b hb).2⟩,λi a ha hm=>?_⟩,?_⟩
 ·by_cases hi:i∈I
  ·obtain⟨a',a1,_,a3⟩:=hc.pos i hi;rw[ha]at a1;injection a1 with a1;rw[<- a1]at a3;rw[a3 die hd]at hm;cases hm
  ·rw[hc.rest i hi]at ha;exact h.ent i a ha hm
 ·unfold pot;cases hO:O V.op with
  | true=>
   obtain⟨e1,e2⟩:=h.where_ (hc.back V.op V.row (.inl ⟨rfl,D9 _⟩)) hO;rw[e1]at hO;rw[hO,i9 rfl,i9 rfl];omega
  | false=>
   rw[i7 n8];have hle:=b0D O V.T K;cases hU:O U.op with
   | true=>rw[i9 rfl];omega
   | false=>
    rw[i7 n8];refine a0Y λi _ hx=>?_
    by_cases hi:i∈I
    ·obtain⟨a',a1,a2,_⟩:=hc.pos i hi;rw[a2M a1]at hx;rw[(h.where_ a2 hx).1,hU]at hx;cases hx
    ·unfold b4Y at hx ⊢;rw[hc.rest i hi]at hx;exact hx
theorem crd_lt (h:Gh die O U) (hc:Crd fd U I V) (hP:V.N.pages=P) {i:Int} {a:AtV} (hi:i∈I) (hK:i∈K) (ha:Tb.look U.T.at_ i=some a) (hOa:O a.block=true):pot O V K P+1<=pot O U K P:=by
 have hin:I≠[]:=λe=>by rw[e]at hi;cases hi
 obtain⟨a',a1,a2,_⟩:=hc.pos i hi;unfold pot;cases hO:O V.op with
 | true=>
  obtain⟨e1,e2⟩:=h.where_ (hc.fresh hin) hO;have hrow:V.row<=P:=by
   rcases hc.inv.op with e | e
   ·rw[e]at hO;have:=(Tl.has_iff.1 (h.used _ hO).1).1;omega
   ·have:=e.row.2;rw[hP]at this;exact this
  rw[e1]at hO;rw[hO,i9 rfl,i9 rfl];omega
 | false=>
  rw[i7 n8];have hrw:a'.row<P:=by
   obtain⟨l,g1,_⟩:=(hc.inv.st i a' a1).row;have:=g1.is.row.2;rw[hP]at this;exact this
  cases hU:O U.op with
  | true=>
   rw[i9 rfl]
   by_cases hr:U.row<P
   ·have:=b0D O V.T K;omega
   ·have h1:b4X O V.T K<K.countP λ_=>true:=a6m (λ_ _ _=>rfl) hK (by
     rw[a2M a1];cases hx:O a'.block with
     | false=>rfl
     | true=>have:=(h.where_ a2 hx).2;omega) rfl
    rw[List.countP_true]at h1;omega
  | false=>
   rw[i7 n8];refine a6m (λj _ hx=>?_) hK ?_ ((a2M ha).trans hOa)
   ·by_cases hj:j∈I
    ·obtain⟨b',b1,b2,_⟩:=hc.pos j hj;rw[a2M b1]at hx;rw[(h.where_ b2 hx).1,hU]at hx;cases hx
    ·unfold b4Y at hx ⊢;rw[hc.rest j hj]at hx;exact hx
   ·rw[a2M a1];cases hx:O a'.block with
    | false=>rfl
    | true=>rw[(h.where_ a2 hx).1,hU]at hx;cases hx
end Gh
namespace Mvd
variable {die : Nat} {fd : Int} {S V : Dv} {K : List Int} {P : Nat}
theorem dead (h:Mvd fd S V):V.N.dead=S.N.dead:=by
 induction h with
 | nil=>rfl
 | same _ _ _ _ _ h5 _ ih=>exact h5.trans ih
 | crd _ hc ih=>exact hc.dead.trans ih
theorem gh (h:Mvd fd S V) (hd:S.N.dead.getD die false=true) {O:Int->Bool} (hG:Gh die O S):∃O',Gh die O' V/\pot O' V K P<=pot O S K P:=by
 induction h with
 | nil=>exact⟨O,hG,m9 _⟩
 | same _ h1 h2 h3 h4 _ h6 ih=>
  obtain⟨O',g1,g2⟩:=ih;obtain⟨O2,q1,q2⟩:=g1.same (K:=K) (P:=P) h1 h2 h3 h4 h6;exact⟨O2,q1,E6 q2 g2⟩
 | crd hm hc ih=>
  obtain⟨O',g1,g2⟩:=ih;obtain⟨q1,q2⟩:=g1.crd (K:=K) (P:=P) hc (by rw[hm.dead];exact hd);exact⟨O',q1,E6 q2 g2⟩
theorem crd_noD {U:Dv} {I:List Int} (hn:NoD die U) (hc:Crd fd U I V) (hd:U.N.dead.getD die false=true):NoD die V:=λi a ha=>by
 by_cases hi:i∈I
 ·obtain⟨a',a1,_,a3⟩:=hc.pos i hi;rw[ha]at a1;injection a1 with a1;rw[a1];exact a3 die hd
 ·rw[hc.rest i hi]at ha;exact hn i a ha
theorem noD (h:Mvd fd S V) (hd:S.N.dead.getD die false=true) (hn:NoD die S):NoD die V:=by
 induction h with
 | nil=>exact hn
 | same _ h1 _ _ _ _ _ ih=>exactλi a ha=>ih i a (by rw[<- h1];exact ha)
 | crd hm hc ih=>exact crd_noD ih hc (by rw[hm.dead];exact hd)
end Mvd
namespace Cnt
theorem prog (N:Nand) (x y z:Int) (pg:List UInt8):(N.progN x y z pg).ops<=N.ops+1:=by
 unfold Nand.progN;split
 ·omega
 split
 ·show N.ops<=_;omega
 split
 ·exact D9 (N.ops+1)
 ·exact D9 (N.ops+1)
theorem erase (N:Nand) (x y:Int):(N.eraseN x y).ops<=N.ops+1:=by
 unfold Nand.eraseN;dsimp only;split
 ·omega
 split
 ·exact D9 (N.ops+1)
 split
 ·exact D9 (N.ops+1)
 ·exact D9 (N.ops+1)
theorem go (b r:Int):∀(q:List (Int×Sh)) (N:Nand) (f:Int),(R.go b r q N f).1.ops<=N.ops+q.length
 | [],N,f=>by rw[R.go];simp
 | (d,s)::q,N,f=>by
  have h1:=prog N d b r (W5 s);have ih:=λf=>go b r q (N.progN d b r (W5 s)) f;rw[R.go,o0];split
  ·have:=ih f;push_cast;omega
  ·split
   ·push_cast;omega
   ·have:=ih (L.with_ f d);push_cast;omega
theorem row (N:Nand) (b r m:Int) (l:List En):(R.write N b r m l).1.ops<=N.ops+8:=by
 unfold R.write;split
 ·rename_i hB;have h1:=a1r hB;have h2:=go b r (R.job b r m l) N 0;rw[a7n]at h2;omega
 ·show N.ops<=_;omega
theorem wr (S:Dv) (l:List En):(S.wr l).1.ops<=S.N.ops+8:=row _ _ _ _ _
end Cnt
namespace Dv
variable {S : Dv} {k m : Nat}
theorem rows_at1 (h:S.Ok k m) (h0:¬(S.left=false/\S.pick<0)):S.at1.rows<=S.rows:=by
 unfold at1;cases hl:S.left with
 | true=>rw[i9 rfl];exact m9 _
 | false=>
  rw[i7 n8];have hp:¬S.pick<0:=λe=>h0 ⟨hl,e⟩;have h1:=Tl.blanks_open h.t.len (pick_blank hp);have e1:S.opened.rows=S.N.pages*(S.t.clean S.pick false).blanks+(if S.pick>=0 then((S.N.pages:Int)-0).toNat else 0):=rfl;have e2:S.N.pages*((S.t.clean S.pick false).blanks+1)=S.N.pages*(S.t.clean S.pick false).blanks+S.N.pages:=C2 _ _;rw[h1]at e2;rw[e1,i9 (by omega)];unfold rows;omega
theorem rows_wrote (hl:S.left=true) (l:List En):(S.wrote l).rows+1=S.rows:=by
 have hs:=left_spec hl;have e1:(S.wrote l).rows=(S.wr l).1.pages*S.t.blanks+(if S.op>=0 then(((S.wr l).1.pages:Int)-(S.row+1)).toNat else 0):=rfl;rw[e1,(S.wr_like l).pages,i9 (by omega)];unfold rows;rw[i9 (by omega)];omega
theorem rows_loses (h:S.t.Fit S.N) (f:Int):(S.loses f).rows=S.rows:=by
 obtain⟨e1,_,e3,e4,_,_,e7⟩:=loses_same S f h;unfold rows;rw[e1,e3,e4,e7]
theorem write_ops:∀(f:Nat) (S:Dv) (l:List En) (k:Nat),S.Ok (8*f+k) m->(∀s∈l,s.data.length=16)->(write f S l).2.2=0->(write f S l).1.N.ops+8*((write f S l).1.rows:Int)<=S.N.ops+8*(S.rows:Int)
 | 0,S,l,k,h,hd,_=>D9 _
 | f+1,S,l,k,h,hd,he=>by
  have ha:=at1_like S;have h1:S.at1.Ok (8+(8*f+k)) m:=h.at1.less (by omega);rw[write_succ]at he ⊢;split
  ·exact D9 _
  split
  ·exact D9 _
  rename_i hl0 h0;rw[i7 hl0,i7 h0]at he;split
  ·rename_i hn;rw[i9 hn]at he;cases he
  rename_i hn;rw[i7 hn]at he;have hlf:=at1_left' h h0;have hs:=left_spec hlf;have hw:=h1.wrote hd hs.2.1 hn;have hr0:=rows_at1 h h0;have hr1:=rows_wrote hlf l;have ho:=Cnt.wr S.at1 l;rw[ha.1]at ho;split
  ·rename_i h2;rw[i9 h2]at he;cases he
  rename_i h2;rw[i7 h2]at he;split
  ·have e1:({S.at1.wrote l with T:=puts S.at1.T S.at1.op S.at1.row S.at1.mask (S.at1.es l) (S.at1.fit l)}:Dv).rows=(S.at1.wrote l).rows:=rfl;rw[e1];show(S.at1.wr l).1.ops+_<=_;omega
  rename_i h3;rw[i7 h3]at he;split
  ·rename_i h4;rw[i9 h4]at he;cases he
  ·rename_i h4;rw[i7 h4]at he;have hL:=hw.loses (S.at1.wr l).2.1;have ih:=write_ops f ((S.at1.wrote l).loses (S.at1.wr l).2.1) l k hL hd he;rw[rows_loses hw.t]at ih;have e:((S.at1.wrote l).loses (S.at1.wr l).2.1).N=(S.at1.wr l).1:=(loses_same (S.at1.wrote l) _ hw.t).1;rw[e]at ih;omega
theorem carryGo_ops:∀(f:Nat) (S:Dv) (l:List Int) (d:Int) (k:Nat),S.Ok (cost*f+k) m->(carryGo f S l d).2.2=0->(carryGo f S l d).1.N.ops+8*((carryGo f S l d).1.rows:Int)<=S.N.ops+8*(S.rows:Int)
 | 0,S,l,d,k,h,_=>D9 _
 | f+1,S,l,d,k,h,he=>by
  have hs:S.Ok (8*fuel+(cost*f+k)) m:=h.less (by unfold cost;rw[C2];omega);rw[carryGo]at he ⊢;dsimp only at he ⊢;split
  ·exact D9 _
  rename_i h0;rw[i7 h0]at he;split
  ·exact D9 _
  rename_i h1;rw[i7 h1]at he;have hp:=pen_keep hs (rds_len h (l.take (max S.slots 1).toNat)).1;have hq:=write_ops fuel S (S.rds (l.take (max S.slots 1).toNat)).1 _ hs (rds_len h (l.take (max S.slots 1).toNat)).1;split
  ·rename_i h2;rw[i9 h2]at he;exact absurd he h2
  ·rename_i h2;rw[i7 h2]at he;have ih:=carryGo_ops f _ (l.drop (S.pen (S.rds (l.take (max S.slots 1).toNat)).1).2.1.toNat) (d+(S.pen (S.rds (l.take (max S.slots 1).toNat)).1).2.1) k hp.1 he;exact b0i ih (hq (Decidable.not_not.1 h2))
theorem carry_ops (h:S.Ok (costC+k) m) (b most:Int) (he:(S.carry b most).2.2=0):(S.carry b most).1.N.ops+8*((S.carry b most).1.rows:Int)<=S.N.ops+8*(S.rows:Int):=by
 unfold carry at he ⊢;dsimp only at he ⊢;have h1:=ins_le h b;have h2:=take_le (S.T.ins b) (max most 0).toNat
 have h3:cost*((S.T.ins b).take (max most 0).toNat).length<=costC:=s7 _ (by omega);exact carryGo_ops _ S _ 0 k (h.less (by omega)) he
theorem eraseD_ops (b mk:Int) (x:Nand×Tl×Int) (d:Nat):(eraseD b mk x d).1.ops<=x.1.ops+1/\(eraseD b mk x d).1.dies=x.1.dies:=by
 unfold eraseD;split
 ·exact⟨by omega,rfl⟩
 split
 ·exact⟨by omega,rfl⟩
 ·exact⟨Cnt.erase _ _ _,(Nand.like_erase x.1 _ _).dies⟩
theorem eraseF_ops (b mk:Int):∀(q:List Nat) (x:Nand×Tl×Int),(q.foldl (eraseD b mk) x).1.ops<=x.1.ops+q.length/\(q.foldl (eraseD b mk) x).1.dies=x.1.dies
 | [],x=>⟨by simp,rfl⟩
 | d::q,x=>by
  have h1:=eraseD_ops b mk x d;have ih:=eraseF_ops b mk q (eraseD b mk x d);rw[y5,o0];exact⟨by push_cast;omega,ih.2.trans h1.2⟩
theorem erase_ops (N:Nand) (t:Tl) (b:Int):(erase N t b).1.ops<=N.ops+N.dies/\(erase N t b).1.dies=N.dies:=by
 have h:=eraseF_ops b (t.mask b) (List.range N.dies) (N,t,0);rw[K4]at h;unfold erase eraseB;dsimp only;split
 ·exact h
 ·exact h
theorem clearGo_ops:∀(l:List Int) (N:Nand) (t:Tl),(clearGo l N t).1.ops<=N.ops+(N.dies*l.length:Nat)
 | [],N,t=>by rw[clearGo];simp
 | b::l,N,t=>by
  have h1:=erase_ops N t b;have ih:=clearGo_ops l (erase N t b).1 (erase N t b).2.1;rw[h1.2]at ih;have e:N.dies*(l.length+1)=N.dies*l.length+N.dies:=C2 _ _;rw[clearGo,o0,e];split
  ·push_cast at*;omega
  ·push_cast at*;omega
theorem clear_ops (S:Dv):S.clear.1.N.ops<=S.N.ops+(S.N.dies*S.t.b:Nat):=by
 have h1:=clearGo_ops (A5 (D1 S.t S.T) S.op S.t.b) S.N S.t;have h2:S.N.dies*(A5 (D1 S.t S.T) S.op S.t.b).length<=S.N.dies*S.t.b:=s7 _ (Z4 _ _ _);have h3:S.clear.1.N.ops=(clearGo (A5 (D1 S.t S.T) S.op S.t.b) S.N S.t).1.ops:=rfl;rw[h3];omega
end Dv
namespace Rmy
variable {fd : Int} {S : Dv} {k m β : Nat} {W : List (Int × En)}
def cR (D B P:Nat):Nat:=8*((P+1)/2+1)+D*B
theorem go_ops:∀(f:Nat) (S:Dv) (β k:Nat),Rmy fd W S->S.Ok (Dv.costR*f+k) m->A5 (D1 S.t S.T) S.op S.t.b=[]->Hot2 fd S β->β<=1->(S.N.pages+1)/2+β<=S.rows->5*S.N.pages+β+1<=S.rows+f*(S.N.pages/2)->S.next+400*(f:Int)<=1099511627775-3000000->
  (Dv.roomGo f S).1.N.ops<=S.N.ops+(f*cR S.N.dies S.N.blocks S.N.pages:Nat)
 | f,S,β,k,h,hO,hsp,hot,hβ,hr3,hr5,hnx=>by
  by_cases hfr:(S.free:Int)>4
  ·have:Dv.roomGo f S=(S,0):=by
    cases f with
    | zero=>rfl
    | succ f=>rw[Dv.roomGo,i9 hfr]
   rw[this];show S.N.ops<=_;omega
  ·have h5:=rows_five hO h.inv hfr;have hg:=hO.gd.ok.bd16;cases f with
   | zero=>omega
   | succ f=>
    have hmul:(f+1)*(S.N.pages/2)=f*(S.N.pages/2)+S.N.pages/2:=L6 _ _;have hO2:S.Ok (Dv.costR+(Dv.costR*f+k)) m:=by rw[C2]at hO;exact hO.less (by omega)
    obtain⟨V,β1,w1,w2,w3,w4,w5,w6,w7,w8,w9,w10,w11,w12,w13,w14,C,n,x1,x2,x3⟩:=h.emptied hO2 hsp hfr hot (by omega) (by omega) f;have hpg:=w11.pages;have ih:=go_ops f V β1 k w2 w3 w4 w5 (by omega) (by rw[hpg];omega) (by rw[hpg];omega) (by omega);have hca:=Dv.carry_ops (k:=96+(Dv.costR*f+k)) (S:=S) (hO2.less (by unfold Dv.costR;omega)) S.victim (S.T.count S.victim) (by rw[x1]);have hck:=(Dv.carry_keep (k:=96+(Dv.costR*f+k)) (S:=S) (hO2.less (by unfold Dv.costR;omega)) S.victim (S.T.count S.victim));rw[x1]at hca hck;dsimp only at hca hck;have hcl:=Dv.clear_ops C;rw[x2,hck.2.1.dies,show C.t.b=S.N.blocks from by have:=hck.1.t.b;have:=hck.2.1.blocks;omega]at hcl;dsimp only at hcl;rw[w11.dies,w11.blocks,w11.pages]at ih;have e2:(f+1)*cR S.N.dies S.N.blocks S.N.pages=f*cR S.N.dies S.N.blocks S.N.pages+cR S.N.dies S.N.blocks S.N.pages:=L6 _ _;rw[w1,e2];unfold cR at ih ⊢
    push_cast at*
    omega
theorem room_ops (h:Rmy fd W S) (hO:S.Ok (96+(Dv.costR*S.t.b+k)) m) (hot:Hot2 fd S β) (hr:5*S.N.pages+β<=S.rows+7) (hβ:β<=1) (hnx:S.next<=1099511627775-4000000):S.room.1.N.ops<=S.N.ops+(S.N.dies*S.N.blocks+S.N.blocks*cR S.N.dies S.N.blocks S.N.pages:Nat):=by
 have hg:=hO.gd.ok.bd16;have hb:=hO.t.b;obtain⟨U,u1,u2,u3,u4,u5,u6,u7,u8,u9,u10,u11,u12,u13,u14,u15⟩:=h.clear (β:=β) hO;have hpg:=u13.pages;have h8:8*(S.N.pages/2)<=S.t.b*(S.N.pages/2):=H5 _ (by omega);have ih:=go_ops S.t.b U β k u2 u3 u4 (u15 hot) hβ (by rw[hpg,u10];omega) (by rw[hpg,u10];omega) (by rw[u9];omega);have hcl:=Dv.clear_ops S;rw[u1,show S.t.b=S.N.blocks from by omega]at hcl;dsimp only at hcl;rw[u13.dies,u13.blocks,u13.pages]at ih;have e:S.room=Dv.roomGo S.t.b U:=by
  unfold Dv.room;rw[u1];dsimp only;rw[i7 (by decide)]
 rw[e];rw[show S.t.b=S.N.blocks from by omega]at ih ⊢
 push_cast at*
 omega
end Rmy
theorem b7s:∀D,D<7->3<=D->∀d,d<D->∀m,m<64->(IntKind.i64.wrap ((BitVec.ofInt IntKind.i64.bits ((m:Nat):Int)&&& BitVec.ofInt IntKind.i64.bits (Tl.andN (L.all (D:Nat)) (L.without (L.all (D:Nat)) (d:Nat)))).toNat:Int) !=0)=L.has ((m:Nat):Int) (d:Nat):=by decide+kernel
namespace Inv
variable {die : Nat} {S : Dv} {k m : Nat}
theorem mask_wo (h:Inv die S) (hO:S.Ok k m) (hd:die<S.N.dies) (htd:L.has S.t.dead (die:Nat)=true) {b:Int} (hb:S.t.has b=true):S.t.mask b=L.without (L.all (S.N.dies:Nat)) (die:Nat):=by
 have hg:=hO.gd.ok.bd16;have hd':=hO.t.d;rcases(h.msk hO hb).eq hg.1 with⟨_,e⟩ | ⟨_,_,_,e⟩
 ·have h1:=e (by omega);have h2:=(T5 (t:=S.t) (b:=b) (by omega) hb h.tdead.1 (h.tbad b hb).1).2 (die:Nat);rw[h1,htd]at h2;simp at h2
 ·exact e
theorem lost_iff (h:Inv die S) (hO:S.Ok k m) (hd:die<S.N.dies) (htd:L.has S.t.dead (die:Nat)=true) {i:Int} {a:AtV} (ha:Tb.look S.T.at_ i=some a) {b:Int} (hb:S.t.has b=true):a7R S.t S.T b i=L.has a.mask (die:Nat):=by
 have hg:=hO.gd.ok.bd16;have hd':=hO.t.d;obtain⟨l,g1,_⟩:=(h.st i a ha).row;have hm:=g1.is.mask;have h64:=g1.is.m64;unfold a7R;rw[ha,m7,h.mask_wo hO hd htd hb,hd'];obtain⟨κ,hκ⟩:=j8 hm.1;rw[hκ];exact b7s S.N.dies (by omega) hg.1.1 die hd κ (by omega)
theorem hurt_some (h:Inv die S) (hO:S.Ok k m) (hd:die<S.N.dies) (htd:L.has S.t.dead (die:Nat)=true) {b:Int} {l:List Int} (hh:S.hurts=b::l):S.t.has b=true/\∃i a,i∈S.T.ins b/\Tb.look S.T.at_ i=some a/\a.block=b/\L.has a.mask (die:Nat)=true:=by
 have hb:b∈S.hurts:=by rw[hh];simp
 obtain⟨h1,h2,_,h4⟩:=mem_pkSome.1 hb;have hhas:S.t.has b=true:=Tl.has_iff.2 ⟨h1,h2⟩;refine⟨hhas,?_⟩;unfold a1c at h4;obtain⟨i,hi,hl⟩:=List.any_eq_true.1 h4;obtain⟨a,ha,hab⟩:=a6d hi;exact⟨i,a,hi,ha,hab,by rw[<- h.lost_iff hO hd htd ha hhas];exact hl⟩
theorem hurt_none (h:Inv die S) (hO:S.Ok k m) (hd:die<S.N.dies) (htd:L.has S.t.dead (die:Nat)=true) (hh:S.hurts=[]):NoD die S:=λi a ha=>by
 cases hm:L.has a.mask (die:Nat)with
 | false=>rfl
 | true=>
  exfalso
  obtain⟨l,g1,_⟩:=(h.st i a ha).row;have hblk:=g1.is.blk;have hb:=hO.t.b;have hhas:S.t.has a.block=true:=Tl.has_iff.2 (by omega);have hin:a.block∈S.hurts:=mem_pkSome.2 ⟨by omega,by omega,by omega,by
   unfold a1c;exact List.any_eq_true.2 ⟨i,b4f hO.T ha rfl,by rw[h.lost_iff hO hd htd ha hhas];exact hm⟩⟩
  rw[hh]at hin;cases hin
theorem noD_hurt (h:Inv die S) (hO:S.Ok k m) (hd:die<S.N.dies) (htd:L.has S.t.dead (die:Nat)=true) (hn:NoD die S):S.hurts=[]:=by
 cases hh:S.hurts with
 | nil=>rfl
 | cons b l=>
  obtain⟨_,i,a,_,ha,_,hm⟩:=h.hurt_some hO hd htd hh;rw[hn i a ha]at hm;cases hm
theorem left_noD (h:Inv die S) (hO:S.Ok k m) (hd:die<S.N.dies) (htd:L.has S.t.dead (die:Nat)=true):S.leftN=0↔NoD die S:=by
 constructor
 ·intro hl;cases hh:S.hurts with
  | nil=>exact h.hurt_none hO hd htd hh
  | cons b l=>
   exfalso
   obtain⟨_,i,a,hi,ha,hab,_⟩:=h.hurt_some hO hd htd hh;have hpos:0<S.T.count b:=by
    rw[hO.T.cnt];have:0<Tb.cntB S.T.at_ b:=List.countP_pos_iff.2 ⟨_,Tb.look_mem ha,by simp[hab]⟩;omega
   have hnn:∀l:List Int,0<=(l.map S.T.count).sum:=by
    intro l
    induction l with
    | nil=>simp
    | cons x l ih=>have:=hO.T.bd x;rw[s9,a0k];omega
   have:=hnn l;unfold Dv.leftN at hl;rw[hh,s9,a0k]at hl;omega
 ·intro hn;unfold Dv.leftN;rw[h.noD_hurt hO hd htd hn];rfl
end Inv
structure StpM (die:Nat) (W:List (Int×En)) (S:Dv) (V:Dv):Prop where
 rmy:Rmy die W V
 td:L.has V.t.dead (die:Nat)=true
 next:V.next<=S.next+7000
 dead:V.N.dead=S.N.dead
 broken:V.N.broken=S.N.broken
 like:S.N.Like V.N
 logical:V.T.logical=S.T.logical
 noD:NoD die S->NoD die V
 pot:∀O,Gh die O S->NoD die V\/∃O',Gh die O' V/\pot O' V (W.map (·.1)) S.N.pages+1<=pot O S (W.map (·.1)) S.N.pages
theorem Hot2.seen {die:Nat} {S:Dv} {k m β:Nat} (h:Hot2 die S β) (hi:Inv die S) (hO:S.Ok k m) (hd:die<S.N.dies) (hdd:S.N.dead.getD die false=true):Hot2 die S.seen β:=by
 obtain⟨_,_,h3,_⟩:=hi.saw hO hd hdd;cases h with
 | calm hn=>rw[hn.dead]at hdd;cases hdd
 | cold _ h2=>exact .cold h3 h2
 | once _=>exact .once h3
 | brn hb=>rw[hb.dead]at hdd;cases hdd
 | dead _ _=>exact .once h3
theorem Rmy.step {die:Nat} {S:Dv} {k m β:Nat} {W:List (Int×En)} {most:Int} (h:Rmy die W S) (hO:S.Ok (Dv.costS+k) m) (hd:die<S.N.dies) (hdd:S.N.dead.getD die false=true) (hot:Hot2 die S.seen β) (hβ:β<=1) (hr:5*S.N.pages+β<=S.rows+7) (hmost:1<=most/\most<=6) (hnx:S.next<=1099511627775-5000000):
  ∃(V:Dv) (n:Int) (β':Nat),S.step most=(V,n,0)/\n<=most/\StpM die W S V/\V.Ok k m/\Hot2 die V.seen β'/\β'<=1/\5*V.N.pages+β'<=V.rows+7/\V.N.ops<=S.N.ops+(S.N.dies*S.N.blocks+S.N.blocks*Rmy.cR S.N.dies S.N.blocks S.N.pages+56:Nat):=by
 have hg:=hO.gd.ok.bd16;have htb:=hO.t.b;obtain⟨s1,s2,s3,s4,s5,s6⟩:=h.inv.saw hO hd hdd;have hOs:=hO.seen;have hRs:Rmy die W S.seen:=⟨s2,⟨h.hd.keys,h.hd.each⟩,h.wok,λb hb=>by rw[(s4 b).2];exact h.held b (by rw[<- (s4 b).1];exact hb),h.ff,h.cap⟩;have hrs:S.seen.rows=S.rows:=by
  unfold Dv.rows;rw[s5];rfl
 have m1:Mvd die S S.seen:= .same .nil rfl rfl rfl (λb=>(s4 b).1) rfl s2;have hOr:=(hOs.less (k':=96+(Dv.costR*S.seen.t.b+(Dv.costC+k))) (by
  have:Dv.costR*S.seen.t.b<=Dv.costR*16:=s7 _ (by have:=hOs.t.b;have:S.seen.N.blocks=S.N.blocks:=rfl;omega);unfold Dv.costS Dv.costM;omega))
 obtain⟨U,β1,u1,u2,u3,u4,u5,u6,u7,u8,u9,u10,u11,u12,u13,u14⟩:=hRs.room2 (k:=Dv.costC+k) (β:=β) hOr hot (by rw[hrs];exact hr) hβ (by show S.next<=_;omega);have hro:S.seen.room.1.N.ops<=S.N.ops+(S.N.dies*S.N.blocks+S.N.blocks*Rmy.cR S.N.dies S.N.blocks S.N.pages:Nat):=hRs.room_ops (k:=Dv.costC+k) (β:=β) hOr hot (by rw[hrs];exact hr) hβ (by show S.next<=_;omega);obtain⟨cc,hcc⟩:∃cc,S.N.dies*S.N.blocks+S.N.blocks*Rmy.cR S.N.dies S.N.blocks S.N.pages=cc:=⟨_,rfl⟩;rw[hcc]at hro ⊢;rw[u1]at hro;dsimp only at hro;have hmany:=u2.many u3 u4;have hdU:die<U.N.dies:=by rw[u11.dies];exact hd
 have hddU:U.N.dead.getD die false=true:=by rw[u9];exact hdd
 have htdU:=u13 _ s3;have mU:=m1.trans u14;have hlU:S.N.Like U.N:=u11;have hst:S.step most=(let r:=S.seen.room;if r.2≠0 then(r.1,0,r.2)else match r.1.hurts with | []=>(r.1,0,0) | b::_=>r.1.carry b most):=rfl;rw[u1]at hst;dsimp only at hst;rw[i7 (by decide)]at hst;cases hh:U.hurts with
 | nil=>
  rw[hh]at hst;have hno:=u2.inv.hurt_none u3 hdU htdU hh;refine⟨U,0,β1,hst,by omega,⟨u2,htdU,by have:S.seen.next=S.next:=rfl;omega,u9,u10,hlU,u12,λ_=>hno,λ_ _=> .inl hno⟩,u3.less (by omega),u6.seen u2.inv u3 hdU hddU,by omega,by omega,by omega⟩
 | cons b l=>
  rw[hh]at hst;dsimp only at hst;obtain⟨hb,i,a,hi,ha,hab,hm⟩:=u2.inv.hurt_some u3 hdU htdU hh;obtain⟨L,hL⟩:∃L,(U.T.ins b).take (max most 0).toNat=L:=⟨_,rfl⟩;have hLlen:L.length<=6/\(L.length:Int)<=most:=by rw[<- hL,n9];omega
  have hsub:∀j∈L,j∈U.T.ins b:=λj hj=>by rw[<- hL]at hj;exact C7 hj
  have hne:L≠[]:=λe=>by
   have:L.length=0:=by rw[e];rfl
   have:=List.length_pos_of_mem hi;rw[<- hL,n9]at*;omega
  have hnd:L.Nodup:=by
   rw[<- hL];refine a0M (a1l _ _) ?_;unfold Tb.ins;split
   ·exact a0w
   ·unfold Tb.inK;exact List.pairwise_map.2 ((List.nodup_range.filter _).imp λhne e=>hne (by omega))
  have hmul:1*6<=(U.N.dies-2)*6:=H5 _ (by have:=u11.dies;have:S.seen.N.dies=S.N.dies:=rfl;omega);have hpU:U.N.pages=S.N.pages:=u11.pages;obtain⟨V,β2,r1,r2,r3,r4,r5,r6,r7⟩:=u2.inv.carry_go L.length U L 0 W β1 6 k (u3.less (by
   have:Dv.cost*L.length<=Dv.cost*65536:=s7 _ (by omega);unfold Dv.costC;omega)) (m9 _) u2.hd u2.wok (λj hj=>by
    obtain⟨c,hc,_⟩:=a6d (hsub j hj);cases hw:Tb.look W j with
    | none=>rw[u2.hd.none hw]at hc;cases hc
    | some e=>rfl) hnd u6 (by omega) (by rw[hpU]at hmany;omega) (by have:S.seen.next=S.next:=rfl;omega)
  have hcar:U.carry b most=(V,(L.length:Int),(0:Int)):=by
   unfold Dv.carry;rw[hL];show Dv.carryGo L.length U L 0=_;rw[r1];simp
  have hpV:V.N.pages=S.N.pages:=r2.like.pages.trans hpU;have hdV:die<V.N.dies:=by rw[r2.like.dies];exact hdU
  have hddV:V.N.dead.getD die false=true:=by rw[r2.dead];exact hddU
  have hRV:Rmy die W V:=⟨r2.inv,r3,h.wok,λx hx=>by rw[r2.has]at hx;rw[(r2.sb x hx).1];exact u2.held x hx,λhdd i j=>by rw[(r2.flags i j).2];exact u2.ff (λi=>by rw[<- r2.dead];exact hdd i) i j,by rw[r2.like.blocks,r2.like.pages,r2.like.dies];exact u2.cap⟩;have hnx2:=r2.next;obtain⟨j,hj⟩:=List.exists_mem_of_ne_nil _ hne;obtain⟨c,hc,hcb⟩:=a6d (hsub j hj);refine⟨V,L.length,β2,by rw[hst,hcar],hLlen.2,⟨hRV,r2.td _ htdU,by have:S.seen.next=S.next:=rfl;omega,r2.dead.trans u9,r2.broken.trans u10,hlU.trans r2.like,r2.logical.trans u12,λhn=>Mvd.crd_noD (mU.noD hdd hn) r2 hddU,λO hG=>?_⟩,r7,r4.seen r2.inv r7 hdV hddV,by omega,by rw[hpV];rw[hpU]at hmany;omega,by have:=Dv.carry_ops u3 b most (by rw[hcar]);rw[hcar]at this;dsimp only at this;omega⟩;obtain⟨O',g1,g2⟩:=mU.gh (K:=W.map (·.1)) (P:=S.N.pages) hdd hG;have hOb:O' b=true:=by rw[<- hab];exact g1.ent i a ha hm
  have hKj:j∈W.map (·.1):=by
   rw[<- u2.hd.keys];exact List.mem_map.2 ⟨(j,c),Tb.look_mem hc,rfl⟩
  have q1:=(g1.crd (K:=W.map (·.1)) (P:=S.N.pages) r2 hddU).1;have q2:=g1.crd_lt (K:=W.map (·.1)) r2 hpV hj hKj hc (by rw[hcb];exact hOb);exact .inr ⟨O',q1,by omega⟩
theorem Hd.other {die other:Nat} {S:Dv} {W:List (Int×En)} (h:Hd S W) (hi:Inv die S) (hn:NoD die S):Hd {S with N:={S.N with dead:=S.N.dead.set other true}} W:=by
 refine⟨h.keys,λi e he=>?_⟩;obtain⟨h1,a,h2,h3⟩:=h.each i e he;refine⟨h1,a,h2,?_⟩;obtain⟨l,g1,g2,g3,_⟩:=(hi.st i a h2).row;have hno:=hn i a h2;have hne:∀x∈R.job a.block a.row a.mask l,x.1≠(die:Int):=λx hx e=>by
  have:=(g1.is.inn x hx).2.2;rw[e,hno]at this;cases this
 have hlike:S.N.Like {S.N with dead:=S.N.dead.set other true}:=⟨rfl,rfl,rfl⟩;have hF:Full (other:Int) {S.N with dead:=S.N.dead.set other true} a.block a.row a.mask l:=⟨g1.is.like hlike,λx hx _=>g1.good x hx (hne x hx),g1.inn⟩;have r1:=hF.read2 (i:=a.slot.toNat) hi.lit.off (λx hx hxo=>by
  have h4:=(g1.is.inn x hx).1;show(S.N.dead.set other true).getD x.1.toNat false=false;rw[d7,u0,i7 (by omega),<- d7];exact hi.dead _ (by have:=hne x hx;omega)) g3
 have r2:=g1.read hi.lit.off hi.dead g3;rw[show((a.slot.toNat:Nat):Int)=a.slot from by omega]at r1 r2;show R.read {S.N with dead:=S.N.dead.set other true} _ _ _ _=_;rw[r1,<- r2];exact h3
structure Mnd (die D B P g:Nat) (W:List (Int×En)) (i:Nat) (S:Dv):Prop where
 rmy:Rmy die W S
 dd:S.N.dead.getD die false=true
 hot:∃β,Hot2 die S.seen β/\β<=1/\5*P+β<=S.rows+7
 td:0<i->L.has S.t.dead (die:Nat)=true
 pot:NoD die S\/∃O,Gh die O S/\pot O S (W.map (·.1)) P+i<=g+P
 next:S.next<=1098000000000+7000*(i:Int)
 dies:S.N.dies=D
 blocks:S.N.blocks=B
 pages:S.N.pages=P
 logical:S.T.logical=(g:Int)
 broken:S.N.broken=0
namespace Mnd
variable {die D B P g : Nat} {W : List (Int × En)} {i k m : Nat} {S : Dv}
theorem first(hR:Rmy (-1) W S) (hO:S.Ok k m) (hr:5*P<=S.rows+1) (hnx:S.next<=1098000000000) (hgeo:S.N.dies=D/\S.N.blocks=B/\S.N.pages=P) (hlog:S.T.logical=(g:Int)) (hbr:S.N.broken=0) (hd:die<D) (hno:NoF S):Mnd die D B P g W 0 {S with N:={S.N with dead:=S.N.dead.set die true}}:=by
 have hg:=hO.gd.ok.bd16;have hlen:die<S.N.dead.length:=by rw[hO.gd.ok.dead];omega
 have hi1:Inv die S:=hR.inv.any hno.plan;obtain⟨k1,k2⟩:=hi1.killed;have hdd:({S with N:={S.N with dead:=S.N.dead.set die true}}:Dv).N.dead.getD die false=true:=by
  show(S.N.dead.set die true).getD die false=true;rw[d7,u0,i9 rfl,i9 hlen];rfl
 have hH:Hd {S with N:={S.N with dead:=S.N.dead.set die true}} W:=⟨hR.hd.keys,λj e he=>by
  obtain⟨h1,a,h2,h3⟩:=hR.hd.each j e he;refine⟨h1,a,h2,?_⟩;show R.read {S.N with dead:=S.N.dead.set die true} _ _ _ _=_;rw[(k2 j a (hi1.st j a h2)).2];exact h3⟩
 have hW:W.length<=g:=by
  have h1:=b1g hO.T;have h2:=congrArg List.length hR.hd.keys;simp only[q9]at h2;omega
 have hO2:({S with N:={S.N with dead:=S.N.dead.set die true}}:Dv).t.Fit ({S with N:={S.N with dead:=S.N.dead.set die true}}:Dv).N:=hO.t.like ⟨rfl,rfl,rfl⟩;refine⟨⟨k1,hH,hR.wok,hR.held,λh=>?_,hR.cap⟩,hdd,⟨1, .once ?_,m9 _,?_⟩,λh=>absurd h (Nat.lt_irrefl _), .inr ⟨λb=>S.t.has b&&(S.t.at_ b).used,⟨λb hb=>j5 _ _▸hb,λj a ha _=>?_⟩,?_⟩,by show S.next<=_;omega,hgeo.1,hgeo.2.1,hgeo.2.2,hlog,hbr⟩
 ·have h1:=h die;rw[hdd]at h1;cases h1
 ·show L.has (Dv.seeDead {S.N with dead:=S.N.dead.set die true} S.t).dead (die:Nat)=true;have hda:∀x:Nat,({S.N with dead:=S.N.dead.set die true}:Nand).deadAt x=decide (x=die):=λx=>by
   unfold Nand.deadAt;rw[l9]
   by_cases e:x=die
   ·subst e;have hdd:(S.N.dead.set x true).getD x false=true:=hdd;show _=_;simp only[hdd];have hx:S.N.dies=D:=hgeo.1;simp;omega
   ·have:(S.N.dead.set die true).getD x false=false:=k1.dead x (by omega);rw[y8 e];simp only[this];simp
  unfold Dv.seeDead;rw[a2C hda,i9 (by have:=hO.t.d;omega)];unfold Tl.die;rw[i9 (by unfold Tl.hasDie;rw[l8 (by omega),l8 (by have:=hO.t.d;omega)];rfl)];show L.has (L.with_ S.t.dead (die:Int)) (die:Nat)=true;rw[L.with_has hi1.tdead.1 (d:=(die:Int)) (by omega)];simp
 ·have e:({S with N:={S.N with dead:=S.N.dead.set die true}}:Dv).rows=S.rows:=rfl;rw[e];omega
 ·have h1:=hi1.st j a ha;obtain⟨l,g1,_⟩:=h1.row;have hblk:=g1.is.blk;have hb:=hO.t.b;show(S.t.has a.block&&(S.t.at_ a.block).used)=true;rw[h1.used,Tl.has_iff.2 (by omega)];rfl
 ·unfold Go.Proofs.YtpakpgkdpofbhaaGreat.pot;have hrow:0<=S.row:=hO.row.1;have hl:(W.map (·.1)).length=W.length:=by rw[q9]
  have:=b0D (λb=>S.t.has b&&(S.t.at_ b).used) S.T (W.map (·.1));split
  ·show(W.map (·.1)).length+((P:Int)-S.row).toNat+0<=_;omega
  ·show b4X _ S.T (W.map (·.1))+0<=_;omega
theorem step (h:Mnd die D B P g W i S) (hO:S.Ok (Dv.costS+k) m) (hd:die<D) {most:Int} (hmost:1<=most/\most<=6) (hi:i<=500):∃(V:Dv) (n:Int),S.step most=(V,n,0)/\n<=most/\Mnd die D B P g W (i+1) V/\V.Ok k m/\(0<i->S.leftN=0->V.leftN=0)/\V.N.ops<=S.N.ops+(D*B+B*Rmy.cR D B P+56:Nat):=by
 obtain⟨β,q1,q2,q3⟩:=h.hot;have hnx:=h.next;obtain⟨V,n,β',v1,v2,v3,v4,v5,v6,v7,v8⟩:=h.rmy.step hO (by rw[h.dies];exact hd) h.dd q1 q2 (by rw[h.pages];exact q3) hmost (by omega);have hdV:die<V.N.dies:=by rw[v3.like.dies,h.dies];exact hd
 refine⟨V,n,v1,v2,⟨v3.rmy,by rw[v3.dead];exact h.dd,⟨β',v5,v6,by rw[v3.like.pages,h.pages]at v7;exact v7⟩,λ_=>v3.td,?_,by have:=v3.next;omega,v3.like.dies.trans h.dies,v3.like.blocks.trans h.blocks,v3.like.pages.trans h.pages,v3.logical.trans h.logical,v3.broken.trans h.broken⟩,v4,λhi0 hl=>?_,by rw[h.dies,h.blocks,h.pages]at v8;exact v8⟩
 ·rcases h.pot with h1 | ⟨O,g1,g2⟩
  ·exact .inl (v3.noD h1)
  ·rcases v3.pot O g1 with h1 | ⟨O',q4,q5⟩
   ·exact .inl h1
   ·rw[h.pages]at q5;exact .inr ⟨O',q4,by omega⟩
 ·have h1:=(h.rmy.inv.left_noD hO (by rw[h.dies];exact hd) (h.td hi0)).1 hl;exact(v3.rmy.inv.left_noD v4 hdV v3.td).2 (v3.noD h1)
end Mnd
def Nand.kill (N:Nand) (d:Nat):Nand:={N with dead:=N.dead.set d true}
def Fv.kill (F:Fv) (d:Nat):Fv:={F with S:={F.S with N:=F.S.N.kill d}}
theorem c2n:Dv.costS<=UN*2:=by
 have hUe:=a8J;have:Dv.costC<=Dv.costM:=by unfold Dv.costM Dv.costR;omega
 unfold Dv.costS;omega
theorem a4D {N:Nand} {d:Nat} (hN:N.Ok) (hd:d<N.dies):N.fault 4 (d:Int) 0 0 0 0=(true,N.kill d):=by
 have hg:=hN.bd;unfold Nand.fault;rw[i7 (by simp only[V4];simp;omega),i7 (by decide),i7 (by decide),i7 (by decide),i9 rfl,l9];rfl
theorem Fv.Ok.kill {F:Fv} {k m d:Nat} (h:F.Ok k m) (hd:d<F.S.N.dies):(F.kill d).Ok k (m+1):=by
 have hf:=a4D h.dv.gd.ok hd;have hl:F.S.N.Like (F.S.N.kill d):=⟨rfl,rfl,rfl⟩;have hG:(F.S.N.kill d).Gd k (m+1):=by
  have:=a3n h.dv.gd [⟨0,4,d,0,0,0,0⟩];have e:a0q F.S.N [⟨0,4,d,0,0,0,0⟩]=F.S.N.kill d:=congrArg Prod.snd hf;rw[e]at this;exact this
 exact⟨⟨hG,h.dv.t.like hl,h.dv.T,h.dv.sl,h.dv.row,h.dv.next⟩,h.dat,h.rng,h.nd,h.nx⟩
theorem Mnd.saw {die D B P g i k m:Nat} {W:List (Int×En)} {S:Dv} (h:Mnd die D B P g W i S) (hO:S.Ok k m) (hd:die<D):Mnd die D B P g W i S.seen/\L.has S.seen.t.dead (die:Nat)=true:=by
 have hd2:die<S.N.dies:=by rw[h.dies];exact hd
 obtain⟨e,i1,i2,i3,i4,_⟩:=h.rmy.inv.saw hO hd2 h.dd;obtain⟨β,q1,q2,q3⟩:=h.hot;refine⟨⟨⟨i1,⟨h.rmy.hd.keys,h.rmy.hd.each⟩,h.rmy.wok,λb hb=>?_,h.rmy.ff,h.rmy.cap⟩,h.dd,⟨β,q1.seen i1 hO.seen hd2 h.dd,q2,?_⟩,λ_=>i2,?_,h.next,h.dies,h.blocks,h.pages,h.logical,h.broken⟩,i2⟩
 ·rw[(i3 b).2];exact h.rmy.held b (by rw[<- (i3 b).1];exact hb)
 ·have:S.seen.rows=S.rows:=by unfold Dv.rows;rw[i4];rfl
  omega
 ·rcases h.pot with h1 | ⟨O,g1,g2⟩
  ·exact .inl h1
  ·exact .inr ⟨O,⟨λb hb=>by rw[(i3 b).1,(i3 b).2];exact g1.used b hb,g1.ent⟩,g2⟩
structure Tdd (die D B P i:Nat) (W:List (Int×En)) (F:Fv) (n:Nat) (c:Nat->List UInt8):Prop where
 mn:Mnd die D B P (lgN D B P) W i F.S
 cu:∀j:Nat,j<lgN D B P->cur W [] j=c j
 wr:∀i e,Tb.look W i=some e->e.role≠4
 lg2:lgN D B P<=200
 L:F.L=[]
 off:F.off=false
 ok:F.Ok (UN*n) 1
 dl:die<D
namespace Tdd
variable {die D B P i n : Nat} {W : List (Int × En)} {F : Fv} {c : Nat → List UInt8}
theorem lg (h:Tdd die D B P i W F n c):F.lg=(lgN D B P:Int):=by
 unfold Fv.lg;rw[h.mn.dies,h.mn.blocks,h.mn.pages]
theorem fi (h:Tdd die D B P i W F n c):FI (die:Int) W (lgN D B P) F:=
 ⟨h.mn.rmy.inv,h.mn.rmy.hd,h.mn.rmy.wok,h.wr,h.mn.logical,h.lg,h.lg2,(by rw[h.L];intro e he;cases he),(by rw[h.L];exact a0w),h.off⟩
theorem all (h:Tdd die D B P i W F n c):F.all=(F,(List.range (lgN D B P)).map c,0):=Fv.all_of h.lg λj hj=>by
 rw[h.fi.read,i7 (by omega),h.L,h.cu j hj]
theorem less (h:Tdd die D B P i W F n c) {k:Nat} (hk:k<=n):Tdd die D B P i W F k c:=
 ⟨h.mn,h.cu,h.wr,h.lg2,h.L,h.off,h.ok.less (s7 _ hk),h.dl⟩
theorem whole (h:Tdd die D B P i W F n c):Tdd die D B P i W F.whole.1 n c/\(F.whole.2=true↔NoD die F.S)/\F.whole.1.S.T=F.S.T:=by
 have hk:=(Fv.whole_keep h.ok).1;obtain⟨m1,m2⟩:=h.mn.saw h.ok.dv h.dl;have hl:=m1.rmy.inv.left_noD h.ok.dv.seen (by rw[m1.dies];exact h.dl) m2;have he:F.whole=({F with S:=F.S.seen},F.S.seen.leftN==0):=by
  unfold Fv.whole;rw[h.fi.ask,i7 (by rw[h.off];decide)]
 rw[he]at hk ⊢;refine⟨⟨m1,h.cu,h.wr,h.lg2,h.L,h.off,hk,h.dl⟩,?_,rfl⟩;dsimp only;rw[A8];exact hl
theorem tick (h:Tdd die D B P i W F (n+2) c) (hi:i<=500):F.tick.2=0/\Tdd die D B P (i+1) W F.tick.1 n c/\F.tick.1.S.N.ops<=F.S.N.ops+(D*B+B*Rmy.cR D B P+56:Nat):=by
 have hU:UN*(n+2)=UN*n+UN*2:=a2H _ _ _;have hS:=c2n;have hk:=(Fv.tick_keep (k:=UN*n) (m:=1) (h.ok.less (by omega))).1;obtain⟨V,x,v1,_,v3,_,_,v8⟩:=h.mn.step (k:=UN*n) (h.ok.dv.less (by omega)) h.dl (most:=4) (by decide) hi;have he:F.tick=({F with S:=V},0):=by
  unfold Fv.tick;rw[h.fi.ask,h.off,i7 n8,v1];show(({F with S:=V}:Fv).told 0,(0:Int))=_;unfold Fv.told;simp[h.off]
 rw[he]at hk ⊢;exact⟨rfl,⟨v3,h.cu,h.wr,h.lg2,h.L,h.off,hk,h.dl⟩,v8⟩
theorem ticks:∀(f i:Nat) (a:Int) (F:Fv),Tdd die D B P i W F (n+2*f) c->lgN D B P+P<i+f->i+f<=500->0<=a->∃j F' r,Fv.ticksG f a F=(F',r)/\0<=r/\Tdd die D B P j W F' n c/\NoD die F'.S
 | 0,i,a,F,h,h1,h2,ha=>by
  obtain⟨w1,w2,w3⟩:=h.whole;have hn:NoD die F.S:=by
   rcases h.mn.pot with h1 | ⟨O,_,g2⟩
   ·exact h1
   ·omega
  refine⟨i,F.whole.1,a,?_,ha,w1,by unfold NoD;rw[w3];exact hn⟩;unfold Fv.ticksG;rw[w2.2 hn];rfl
 | f+1,i,a,F,h,h1,h2,ha=>by
  obtain⟨w1,w2,w3⟩:=h.whole;rw[Fv.ticksG_succ]
  by_cases hw:F.whole.2=true
  ·rw[i9 hw];exact⟨i,_,a,rfl,ha,w1.less (by omega),by unfold NoD;rw[w3];exact w2.1 hw⟩
  ·rw[i7 hw];obtain⟨t1,t2,_⟩:=Tdd.tick (n:=n+2*f) (w1.less (by omega)) (by omega);rw[i7 (by rw[t1];decide)];exact ticks f (i+1) (a+1) _ t2 (by omega) (by omega) (by omega)
theorem other (h:Tdd die D B P i W F n c) (hn:NoD die F.S) (d:Nat):(F.kill d).all=(F.kill d,(List.range (lgN D B P)).map c,0):=by
 have h2:Hd (F.kill d).S W:=h.mn.rmy.hd.other (other:=d) h.mn.rmy.inv hn;have hask:(F.kill d).ask=F.kill d:=by
  have h1:=h.fi.ask;unfold Fv.ask at h1 ⊢;have:(F.kill d).S.N.off=F.S.N.off:=rfl;rw[this,h.fi.inv.lit.off,show(F.kill d).off=false from h.off];unfold Fv.kill;rw[h.off];rfl
 have hget:∀j:Int,(F.kill d).get j=(cur W [] j,0):=λj=>by
  unfold Fv.get cur a1y;rw[show(F.kill d).L=[]from h.L];simp only[List.find?_nil,H3,W3];cases hw:Tb.look W j with
  | none=>rw[h2.none hw]
  | some e=>
   obtain⟨_,a0,ha0,hr0⟩:=h.fi.hd.each j e hw;obtain⟨y,hy,_,_,hyr⟩:=h.fi.inv.read ha0;obtain⟨h1,a,ha,hr⟩:=h2.each j e hw;have:a0=a:=by have e3:Tb.look F.S.T.at_ j=some a:=ha;rw[ha0]at e3;injection e3
   subst this;have hwe:=h.fi.wok j e hw;rw[hr0]at hy;have her:e.role=a0.role:=by injection hy with hy;rw[<- hyr,<- hy]
   have h4:=h.wr j e hw;rw[ha];dsimp only;rcases hwe.2.role with r | ⟨r | r,hz⟩
   ·rw[i7 (by omega),i7 (by omega)];have hr':R.read (F.kill d).S.N a0.block a0.row a0.slot a0.mask=_:=hr;rw[hr'];dsimp only;rw[i7];rintro(x | x | x)
    ·exact x rfl
    ·exact x hwe.1
    ·exact x rfl
   ·rw[i9 (by omega),hz]
   ·exact absurd r h4
 refine Fv.all_of h.lg λj hj=>?_;unfold Fv.read;rw[hask,show(F.kill d).off=false from h.off,i7 n8,i7 (by rw[show(F.kill d).lg=_ from h.lg];omega),hget,h.cu j hj]
end Tdd
theorem Dev.dies {die D B P n:Nat} {F:Fv} {c:Nat->List UInt8} (h:Dev D B P F n c) (hn:130000<=n) (hL:F.L=[]) (hd:die<D) (hc0:c 0≠zeros16) (hl0:0<lgN D B P):∃W,Tdd die D B P 0 W (F.kill die) n c/\(F.kill die).whole.2=false:=by
 obtain⟨W,hW,hc⟩:=h.fc;have hnx:=h.nx;have h1:Mnd die D B P (lgN D B P) W 0 (F.kill die).S:=Mnd.first hW.rmy h.ok.dv (by have:=hW.rows;rw[h.geo.2.2]at this;exact this) (by omega) h.geo hW.fi.log h.br hd hW.no;have h2:Tdd die D B P 0 W (F.kill die) n c:=⟨h1,λj hj=>by rw[<- hc j hj,hL],hW.fi.wr,hW.fi.lg2,hL,hW.fi.off,h.ok.kill (by rw[h.geo.1];exact hd),hd⟩;refine⟨W,h2,?_⟩;rw[<- Bool.not_eq_true];intro hw;have hno:=h2.whole.2.1.1 hw;have hz:=hc 0 hl0;rw[hL]at hz;cases hlk:Tb.look W ((0:Nat):Int)with
 | none=>
  unfold cur at hz;rw[hlk]at hz;exact hc0 hz.symm
 | some e=>
  obtain⟨_,a,ha,_⟩:=hW.fi.hd.each _ e hlk;have hm:=(hW.gi.msk _ a ha).all die (by rw[h.geo.1];exact hd) (by omega);have:=hno _ a ha;rw[hm]at this;cases this
end Go.Proofs.YtpakpgkdpofbhaaGreat
