/- Helpers. No condition. -/
import Derived.Test.YtpakpgkdpofbhaaGreatB00
import Derived.Test.YtpakpgkdpofbhaaGreatB04
import Derived.Test.YtpakpgkdpofbhaaGreatB05
import Derived.Test.YtpakpgkdpofbhaaGreatB07
import Derived.Test.YtpakpgkdpofbhaaGreatB08
import Derived.Test.YtpakpgkdpofbhaaGreatB09
import Derived.Test.YtpakpgkdpofbhaaGreatB10
set_option maxRecDepth 20000
set_option linter.all false
namespace Go.Proofs.YtpakpgkdpofbhaaGreat
open Go Go.RowKit
def Dv.rows (S:Dv):Nat:=S.N.pages*S.t.blanks+(if S.op>=0 then(S.N.pages-S.row).toNat else 0)
structure NoF (S:Dv):Prop where
 dead:∀i:Nat,S.N.dead.getD i false=false
 plan:S.N.plan=[]
 met:∀i j:Nat,(S.N.blk i j).met=false
theorem NoF.fails {S:Dv} (h:NoF S) (b r:Int) (d:Nat):S.N.failB b r d=false:=by
 unfold Nand.failB Nand.fails;rw[l9,h.dead,h.plan,h.met];rfl
structure Went (fd:Int) (S Q:Dv) (β:Nat):Prop where
 inv:Inv fd Q
 T:Q.T=S.T
 next:S.next<=Q.next/\Q.next<=S.next+7*(β:Int)
 dead:Q.N.dead=S.N.dead
 broken:Q.N.broken=S.N.broken
 like:S.N.Like Q.N
 plan:∀a∈Q.N.plan,a∈S.N.plan
 flags:∀i j,(Q.N.blk i j).met=(S.N.blk i j).met/\(Q.N.blk i j).fails=(S.N.blk i j).fails/\(Q.N.blk i j).worn=(S.N.blk i j).worn
 rows:Q.rows+β=S.rows
 reads:∀i a,Std fd S i a->R.read Q.N a.block a.row a.slot a.mask=R.read S.N a.block a.row a.slot a.mask
 stay:∀i a,Std fd S i a->Std fd Q i a
 sb:∀b,S.t.has b=true->(Q.t.at_ b).wear=(S.t.at_ b).wear/\(Q.t.at_ b).held=(S.t.at_ b).held/\((S.t.at_ b).used=true->(Q.t.at_ b).used=true)
 td:∀d:Int,L.has S.t.dead d=true->L.has Q.t.dead d=true
namespace Dv
theorem at_dead (S:Dv) (f:Int) (d:Nat):(∀b,(lose f S d).t.has b=S.t.has b):=by
 intro b;unfold lose;split
 ·dsimp only;split
  ·unfold Tl.die;split<;>rfl
  ·unfold Tl.bad;split
   ·exact Tl.has_set _ _ _ _
   ·rfl
 ·rfl
theorem lose_sb {S:Dv} (hF:S.t.Fit S.N) (hd6:S.t.d<=8) (hs:L.set S.t.dead=true) (f:Int) (d:Nat):(∀b,S.t.has b=true->((lose f S d).t.at_ b).wear=(S.t.at_ b).wear/\((lose f S d).t.at_ b).held=(S.t.at_ b).held/\((lose f S d).t.at_ b).used=(S.t.at_ b).used)/\L.set (lose f S d).t.dead=true/\(∀e:Int,L.has S.t.dead e=true->L.has (lose f S d).t.dead e=true)/\(lose f S d).t.d=S.t.d:=by
 unfold lose;split
 ·dsimp only;split
  ·unfold Tl.die;split
   ·rename_i hh;simp only[Tl.hasDie,j5,g7]at hh;refine⟨λb _=>⟨rfl,rfl,rfl⟩,L.set_with hs (by omega),λe he=>?_,rfl⟩;show L.has (L.with_ S.t.dead d) e=true;rw[L.with_has hs (by omega),he];rfl
   ·exact⟨λb _=>⟨rfl,rfl,rfl⟩,hs,λe he=>he,rfl⟩
  ·unfold Tl.bad;split
   ·cases hop:S.t.has S.op with
    | false=>rw[Tl.set_no _ hop];exact⟨λb _=>⟨rfl,rfl,rfl⟩,hs,λe he=>he,rfl⟩
    | true=>
     refine⟨λb hb=>?_,by rw[Tl.set_dead];exact hs,λe he=>by rw[Tl.set_dead];exact he,Tl.set_d _ _ _⟩;rw[Tl.at_set hF.len _ hop hb];split
     ·rename_i e;subst e;exact⟨rfl,rfl,rfl⟩
     ·exact⟨rfl,rfl,rfl⟩
   ·exact⟨λb _=>⟨rfl,rfl,rfl⟩,hs,λe he=>he,rfl⟩
 ·exact⟨λb _=>⟨rfl,rfl,rfl⟩,hs,λe he=>he,rfl⟩
theorem loses_sb {f:Int}:∀(q:List Nat) (S:Dv),S.t.Fit S.N->S.t.d<=8->L.set S.t.dead=true->(∀b,(q.foldl (lose f) S).t.has b=S.t.has b)/\(∀b,S.t.has b=true->((q.foldl (lose f) S).t.at_ b).wear=(S.t.at_ b).wear/\((q.foldl (lose f) S).t.at_ b).held=(S.t.at_ b).held/\((q.foldl (lose f) S).t.at_ b).used=(S.t.at_ b).used)/\(∀e:Int,L.has S.t.dead e=true->L.has (q.foldl (lose f) S).t.dead e=true)
 | [],S,_,_,_=>⟨λ_=>rfl,λ_ _=>⟨rfl,rfl,rfl⟩,λ_ h=>h⟩
 | d::q,S,hF,h8,hs=>by
  obtain⟨a1,a2,a3,a4⟩:=lose_sb hF h8 hs f d;have hN:=(lose_N f S d).1;have ih:=loses_sb (f:=f) q (lose f S d) (by rw[hN];exact(lose_t f S d hF).1) (by rw[a4];exact h8) a2;rw[y5];refine⟨λb=>by rw[ih.1,at_dead],λb hb=>?_,λe he=>ih.2.2 e (a3 e he)⟩;have:=ih.2.1 b (by rw[at_dead];exact hb);rw[this.1,this.2.1,this.2.2];exact a1 b hb
theorem lose_mask {S:Dv} {f:Int} {d:Nat} (hd:d<8) (hm:L.set S.mask=true):L.set (lose f S d).mask=true/\∀e:Int,L.has (lose f S d).mask e=(L.has S.mask e&& !(decide (e=d)&&L.has f (d:Nat))):=by
 unfold lose;cases h:L.has f (d:Nat)with
 | true=>
  rw[i9 rfl];refine⟨L.set_without hm (by omega),λe=>?_⟩;show L.has (L.without S.mask (d:Int)) e=_;rw[L.without_has hm (by omega),Bool.and_true]
 | false=>rw[i7 n8];exact⟨hm,λe=>by simp⟩
theorem loses_mask {f:Int}:∀(q:List Nat) (S:Dv),(∀d∈q,d<8)->L.set S.mask=true->L.set (q.foldl (lose f) S).mask=true/\∀e:Int,L.has (q.foldl (lose f) S).mask e=(L.has S.mask e&& !(q.any λd=>decide (e=(d:Nat))&&L.has f (d:Nat)))
 | [],S,_,hm=>⟨hm,λe=>by simp⟩
 | d::q,S,hq,hm=>by
  obtain⟨a1,a2⟩:=lose_mask (f:=f) (hq d (by simp)) hm;have ih:=loses_mask (f:=f) q (lose f S d) (λe he=>hq e (by simp[he])) a1;rw[y5];refine⟨ih.1,λe=>?_⟩;rw[ih.2,a2,List.any_cons,Bool.not_or,Bool.and_assoc]
end Dv
namespace Inv
variable {fd : Int} {S : Dv} {k m : Nat} {l : List En}
theorem std_same {S Q:Dv} (hN:Q.N=S.N) (hu:∀b,S.t.has b=true->(S.t.at_ b).used=true->(Q.t.at_ b).used=true) (hb:S.t.b=S.N.blocks) (hop:∀a:AtV,(a.block=S.op->a.row<S.row)->(a.block=Q.op->a.row<Q.row)\/(S.t.at_ a.block).used=false) (hn:S.next<=Q.next) {i:Int} {a:AtV} (h:Std fd S i a):Std fd Q i a:=by
 obtain⟨lr,g1,g2⟩:=h.row;have hhas:S.t.has a.block=true:=by
  have:=g1.is.blk;exact Tl.has_iff.2 (by omega)
 have hs:=h.seq;refine⟨⟨lr,by rw[hN];exact g1,g2⟩,hu _ hhas h.used,?_,by omega⟩;rcases hop a h.below with e | e
 ·exact e
 ·rw[h.used]at e;cases e
theorem opens (h:Inv fd S) (hO:S.Ok k m) (hl:S.left=false) (hp:¬S.pick<0):Went fd S S.opened 0/\S.opened.left=true/\S.opened.mask=S.t.mask S.pick:=by
 have hg:=hO.gd.ok.bd16;have hb:=hO.t.b;have hlen:=hO.t.len;rcases S.pick_spec with e | ⟨p1,p2,p3,p4⟩
 ·omega
 have hhas:S.t.has S.pick=true:=Tl.has_iff.2 ⟨p1,p2⟩;have hbl:=Dv.pick_blank hp;have hbl2:=Tl.blanks_open hlen hbl;have hunu:(S.t.at_ S.pick).used=false:=by simp only[Tl.blank,j5,j7]at hbl;exact hbl.2
 have hmk:∀j,(S.t.clean S.pick false).mask j=S.t.mask j:=λj=>Dv.mask_clean hlen _ _ _;have hmsk:=h.msk hO hhas;have hat:∀b,S.t.has b=true->(S.opened.t.at_ b)=if b=S.pick then {S.t.at_ S.pick with used:=true}else S.t.at_ b:=λb hb=>Tl.at_set hlen _ hhas hb
 have hleft:S.opened.left=true:=by
  have:=(hmsk.pos hg.1).1;unfold Dv.left;have e1:S.opened.op=S.pick:=rfl;have e2:S.opened.row=0:=rfl;have e3:S.opened.mask=S.t.mask S.pick:=hmk _;have e4:S.opened.N=S.N:=rfl;rw[e1,e2,e3,e4,l8 (by omega),l8 (by omega),l8 (by omega)];rfl
 have hdd:S.opened.t.dead=S.t.dead:=Tl.set_dead _ _ _;have hhs:∀b,S.opened.t.has b=S.t.has b:=λb=>Tl.has_set _ _ _ _;have hopn:Opn fd S.opened:=⟨⟨p1,by show S.pick<S.N.blocks;omega⟩,by show(S.opened.t.at_ S.pick).used=true;rw[hat _ hhas,i9 rfl],by show(0:Int)<=0/\(0:Int)<=S.N.pages;omega,by show Msk S.N.dies fd (Tl.mask _ _);rw[hmk];exact hmsk,λd hd=>by
  have hd:L.has (Tl.mask (S.t.clean S.pick false) S.pick) (d:Nat)=true:=hd;rw[hmk]at hd;have:=h.blank S.pick hhas hunu d hd;show((S.N.blk d S.pick.toNat).cells.length:Int)<=0/\(_->((S.N.blk d S.pick.toNat).cells.length:Int)=0);rw[this];simp⟩
 have hrow0:S.op>=0->S.N.pages<=S.row:=λh0=>by
  rcases h.op with e | e
  ·omega
  ·have hps:=(e.mask.pos hg.1).1;cases hh:decide (S.row<S.N.pages)with
   | false=>have:=of_decide_eq_false hh;omega
   | true=>
    have:S.left=true:=by
     unfold Dv.left;rw[l8 h0,hh,l8 (by omega)];rfl
    rw[hl]at this;cases this
 have hstd:∀i a,Std fd S i a->Std fd S.opened i a:=λi a ha=>std_same (S:=S) (Q:=S.opened) rfl (λb hb hu=>by
   rw[hat b hb];split
   ·rfl
   ·exact hu) hb (λa _=>by
   by_cases e:a.block=S.pick
   ·right;rw[e];exact hunu
   ·left;intro e2;exact absurd e2 e) (D9 _) ha
 refine⟨⟨⟨h.lit,h.dead,h.plan,h.flags,by rw[hdd];exact h.tdead,λb hb=>?_, .inr hopn,λb hb hu d hd=>?_,λi a ha=>hstd i a (h.st i a ha)⟩,rfl,⟨D9 _,by show S.next<=S.next+_;omega⟩,rfl,rfl,Nand.Like.refl _,λ_ h=>h,λ_ _=>⟨rfl,rfl,rfl⟩,?_,λ_ _ _=>rfl,hstd,λb hb=>?_,λd hd=>by rw[hdd];exact hd⟩,hleft,hmk _⟩
 ·have hb':S.t.has b=true:=by rw[<- hhs];exact hb
  rw[hat b hb'];split
  ·rename_i e;subst e;exact h.tbad _ hhas
  ·exact h.tbad b hb'
 ·have hb':S.t.has b=true:=by rw[<- hhs];exact hb
  have hd:L.has (Tl.mask (S.t.clean S.pick false) b) (d:Nat)=true:=hd;rw[hmk]at hd;rw[hat b hb']at hu;split at hu
  ·cases hu
  ·exact h.blank b hb' hu d hd
 ·unfold Dv.rows;have e1:S.opened.t.blanks=(S.t.clean S.pick false).blanks:=rfl;have e2:S.opened.N.pages=S.N.pages:=rfl;have e3:S.opened.op=S.pick:=rfl;have e4:S.opened.row=0:=rfl;rw[e1,e2,e3,e4,i9 (by omega)];have:S.N.pages*S.t.blanks=S.N.pages*(S.t.clean S.pick false).blanks+S.N.pages:=by rw[<- hbl2,C2]
  rw[this]
  by_cases h0:S.op>=0
  ·have:=hrow0 h0;rw[i9 h0];omega
  ·rw[i7 h0];omega
 ·rw[hat b hb];split
  ·rename_i e;subst e;exact⟨rfl,rfl,λ_=>rfl⟩
  ·exact⟨rfl,rfl,λh=>h⟩
theorem turn_std (h:Inv fd S) (ht:Turn fd S l) (hO:S.Ok k m) (hl:S.left=true) (hf:∀e∈l,FitR e) (hn:¬S.next>1099511627775-(S.fit l:Int)+1) {i:Int} {a:AtV} (ha:Std fd S i a):Std fd (S.wrote l) i a/\R.read (S.wrote l).N a.block a.row a.slot a.mask=R.read S.N a.block a.row a.slot a.mask:=by
 have ho:=h.opn hl;have hR:=h.rowIs hO hl hf hn;have hrdy:RdyW S.N S.op S.row S.mask:=⟨h.lit,λd hd ha=>(ho.cells d hd).2 ha⟩;have hq:=hrdy.rdy hR;have w3:WroteR S.N (S.wrote l).N S.op S.row (R.job S.op S.row S.mask (S.es l)):=(a7b hrdy hR).2.2;obtain⟨lr,g1,g2,g3,g4,g5,g6⟩:=ha.row;have hk:Full fd (S.wrote l).N a.block a.row a.mask lr:=g1.keep w3.like λx hx=>w3.page hq (g1.is.inn x hx).1 g1.is.blk.1 g1.is.row.1 (λe=>by have:=ha.below e;omega);have hs:=ha.seq;refine⟨⟨⟨lr,hk,g2,g3,g4,g5,g6⟩,ha.used,λe=>by have:=ha.below e;show a.row<S.row+1;omega,by show 1<=a.seq/\a.seq<S.next+(S.fit l:Int);omega⟩,?_⟩;have r1:=hk.read ht.inv.lit.off ht.inv.dead g3;have r2:=g1.read h.lit.off h.dead g3;rw[show((a.slot.toNat:Nat):Int)=a.slot from by omega]at r1 r2;rw[r1,r2]
theorem burn (h:Inv fd S) (hO:S.Ok (8+k) m) (hl:S.left=true) (hf:∀e∈l,FitR e) (hn:¬S.next>1099511627775-(S.fit l:Int)+1) (hb:(S.wr l).2.1≠0):Went fd S ((S.wrote l).loses (S.wr l).2.1) 1/\L.has ((S.wrote l).loses (S.wr l).2.1).mask fd=false/\L.has S.mask fd=true/\((S.wrote l).loses (S.wr l).2.1).row=S.row+1/\((S.wrote l).loses (S.wr l).2.1).op=S.op/\S.N.failB S.op S.row fd=true/\∀d:Int,L.has ((S.wrote l).loses (S.wr l).2.1).mask d=true->L.has S.mask d=true:=by
 have hg:=hO.gd.ok.bd16;have ho:=h.opn hl;have hs:=Dv.left_spec hl;have ht:=h.turn hO hl hf hn;have hd:∀s∈l,s.data.length=16:=λe he=>(hf e he).len;have hW:=hO.wrote hd hs.2.1 hn;obtain⟨l1,l2,l3,l4,l5,l6,l7⟩:=Dv.loses_same (S.wrote l) (S.wr l).2.1 hW.t;have hi:=ht.inv.loses hW (f:=(S.wr l).2.1) λd hd=>(ht.only _ hd).1;have hfit:=Dv.fit_le S l;have hq8:∀d∈List.range (S.wrote l).N.dies,d<8:=λd hd=>by
  have:=List.mem_range.1 hd;have:=ht.like.dies;omega
 obtain⟨b1,b2,b3⟩:=Dv.loses_sb (f:=(S.wr l).2.1) (List.range (S.wrote l).N.dies) (S.wrote l) hW.t (by have:=hO.t.d;show S.t.d<=8;omega) h.tdead.1;obtain⟨m1,m2⟩:=Dv.loses_mask (f:=(S.wr l).2.1) (List.range (S.wrote l).N.dies) (S.wrote l) hq8 ho.mask.set;have hex:∃d:Nat,L.has (S.wr l).2.1 (d:Nat)=true:=by
  refine U8 λhno=>hb (L.ext ht.set (by decide) λd _=>?_);rw[L.has_zero];cases hh:L.has (S.wr l).2.1 (d:Nat)with
  | false=>rfl
  | true=>exact absurd ⟨d,hh⟩ hno
 obtain⟨d0,hd0⟩:=hex;obtain⟨o1,o2⟩:=ht.only _ hd0;have hfdlt:=ho.mask.lt _ o2;have hstay:∀i a,Std fd S i a->Std fd ((S.wrote l).loses (S.wr l).2.1) i a:=λi a ha=>by
  have h1:=(h.turn_std ht hO hl hf hn ha).1;refine std_same (S:=S.wrote l) l1 (λb hb hu=>(b2 b hb).2.2.trans hu) hW.t.b (λa ha=> .inl (by rw[l3,l4];exact ha)) (by rw[l5];exact D9 _) h1
 refine⟨⟨hi,l2,?_,by rw[l1];exact ht.dead,by rw[l1];exact ht.broken,by rw[l1];exact ht.like,by rw[l1];exact ht.plan,by rw[l1];exact ht.flags,?_,λi a ha=>by rw[l1];exact(h.turn_std ht hO hl hf hn ha).2,hstay,λb hb=>?_,λd hd=>b3 d hd⟩,?_,o2,l4,l3,?_,λd hd=>?_⟩
 ·rw[l5];show S.next<=S.next+(S.fit l:Int)/\S.next+(S.fit l:Int)<=S.next+7*((1:Nat):Int);omega
 ·unfold Dv.rows;rw[l7,l1,l3,l4];have e1:(S.wrote l).N.pages=S.N.pages:=ht.like.pages;have e2:(S.wrote l).t.blanks=S.t.blanks:=rfl;have e3:(S.wrote l).op=S.op:=rfl;have e4:(S.wrote l).row=S.row+1:=rfl;rw[e1,e2,e3,e4,i9 (by omega),i9 (by omega)];have:=ho.row;omega
 ·have:=b2 b hb;exact⟨this.1,this.2.1,λhu=>this.2.2.trans hu⟩
 ·have e:=m2 fd;show L.has (((List.range (S.wrote l).N.dies).foldl (Dv.lose (S.wr l).2.1) (S.wrote l)).mask) fd=false;rw[e];have:((List.range (S.wrote l).N.dies).any λd=>decide (fd=(d:Nat))&&L.has (S.wr l).2.1 (d:Nat))=true:=by
   refine List.any_eq_true.2 ⟨d0,List.mem_range.2 ?_,by rw[hd0,l8 o1.symm];rfl⟩;have:=ht.like.dies;omega
  rw[this];simp
 ·have h2:=o2;rw[<- o1]at h2;have:=ht.fail d0 h2;rw[<- o1,<- this];exact hd0
 ·have e:=m2 d;have hd:L.has (((List.range (S.wrote l).N.dies).foldl (Dv.lose (S.wr l).2.1) (S.wrote l)).mask) d=true:=hd;rw[e]at hd;simp only[j5]at hd;exact hd.1
end Inv
structure TlMore (fd:Int) (t t':Tl):Prop where
 has:∀b,t'.has b=t.has b
 d:t'.d=t.d
 used:∀b,t.has b=true->(t'.at_ b).used=(t.at_ b).used
 held:∀b,t.has b=true->(t'.at_ b).held=(t.at_ b).held
 tdead:L.set t'.dead=true/\∀d:Int,L.has t'.dead d=true->d=fd
 tbad:∀b,t.has b=true->L.set (t'.at_ b).bad=true/\∀d:Int,L.has (t'.at_ b).bad d=true->d=fd
 mask:∀b,t.has b=true->∀e:Int,L.has (t'.mask b) e=true->L.has (t.mask b) e=true
 td:∀e:Int,L.has t.dead e=true->L.has t'.dead e=true
theorem TlMore.refl {fd:Int} {t:Tl} (h1:L.set t.dead=true/\∀d:Int,L.has t.dead d=true->d=fd) (h2:∀b,t.has b=true->L.set (t.at_ b).bad=true/\∀d:Int,L.has (t.at_ b).bad d=true->d=fd):TlMore fd t t:=
 ⟨λ_=>rfl,rfl,λ_ _=>rfl,λ_ _=>rfl,h1,h2,λ_ _ _ h=>h,λ_ h=>h⟩
theorem TlMore.trans {fd:Int} {a b c:Tl} (h:TlMore fd a b) (g:TlMore fd b c):TlMore fd a c:=
 ⟨λx=>(g.has x).trans (h.has x),g.d.trans h.d,λx hx=>(g.used x (by rw[h.has];exact hx)).trans (h.used x hx),λx hx=>(g.held x (by rw[h.has];exact hx)).trans (h.held x hx),g.tdead,λx hx=>g.tbad x (by rw[h.has];exact hx),λx hx e he=>h.mask x hx e (g.mask x (by rw[h.has];exact hx) e he),λe he=>g.td e (h.td e he)⟩
theorem b7o {fd:Int} {t:Tl} (h8:t.d<=8) (h1:L.set t.dead=true/\∀d:Int,L.has t.dead d=true->d=fd) (h2:∀b,t.has b=true->L.set (t.at_ b).bad=true/\∀d:Int,L.has (t.at_ b).bad d=true->d=fd) {d:Nat} (hd:d<8) (hfd:(d:Int)=fd):TlMore fd t (t.die d)/\(d<t.d->∀b,t.has b=true->L.has ((t.die d).mask b) fd=false):=by
 unfold Tl.die;split
 ·have hw:=L.set_with h1.1 (d:=(d:Int)) (by omega);have hwh:=L.with_has h1.1 (d:=(d:Int)) (by omega);have hmk:∀b,t.has b=true->∀e:Int,L.has (Tl.mask ⟨t.d,t.b,t.p,t.l,L.with_ t.dead d⟩ b) e=((decide (0<=e)&&decide (e<t.d))&& !L.has (L.with_ t.dead (d:Int)) e&& !L.has (t.at_ b).bad e):=λb hb e=>(T5 (t:=⟨t.d,t.b,t.p,t.l,L.with_ t.dead d⟩) (b:=b) h8 hb hw (h2 b hb).1).2 e;refine⟨⟨λb=>rfl,rfl,λb hb=>rfl,λb hb=>rfl,⟨hw,λe he=>?_⟩,h2,λb hb e he=>?_,λe he=>?_⟩,λ_ b hb=>?_⟩
  ·have he:L.has (L.with_ t.dead (d:Int)) e=true:=he;rw[hwh]at he;rcases n5 _ _▸he with he | he
   ·exact h1.2 e he
   ·simp only[g7]at he;omega
  ·rw[hmk b hb,hwh]at he;rw[(T5 h8 hb h1.1 (h2 b hb).1).2];simp only[j5,j7,J1]at he ⊢;exact⟨⟨he.1.1,he.1.2.1⟩,he.2⟩
  ·show L.has (L.with_ t.dead (d:Int)) e=true;rw[hwh,he];rfl
  ·rw[hmk b hb,hwh,l8 hfd.symm];simp
 ·rename_i hh;refine⟨TlMore.refl h1 h2,λhlt=>?_⟩;simp only[Tl.hasDie,j5,g7]at hh;omega
theorem b1X {fd:Int} {t:Tl} (hl:t.l.length=t.b) (h8:t.d<=8) (h1:L.set t.dead=true/\∀d:Int,L.has t.dead d=true->d=fd) (h2:∀b,t.has b=true->L.set (t.at_ b).bad=true/\∀d:Int,L.has (t.at_ b).bad d=true->d=fd) {d:Nat} (hd:d<8) (hfd:(d:Int)=fd) (k:Int):TlMore fd t (t.bad d k)/\(d<t.d->t.has k=true->L.has ((t.bad d k).mask k) fd=false):=by
 unfold Tl.bad;split
 ·cases hop:t.has k with
  | false=>
   rw[Tl.set_no _ hop];exact⟨TlMore.refl h1 h2,λ_ h=>by cases h⟩
  | true=>
   have hb0:=h2 k hop;have hw:=L.set_with hb0.1 (d:=(d:Int)) (by omega);have hwh:=L.with_has hb0.1 (d:=(d:Int)) (by omega);have hat:∀b,t.has b=true->(t.set k {t.at_ k with bad:=L.with_ (t.at_ k).bad d}).at_ b=if b=k then {t.at_ k with bad:=L.with_ (t.at_ k).bad d}else t.at_ b:=λb hb=>Tl.at_set hl _ hop hb
   have hbad:∀b,t.has b=true->L.set ((t.set k {t.at_ k with bad:=L.with_ (t.at_ k).bad d}).at_ b).bad=true/\(∀e:Int,L.has ((t.set k {t.at_ k with bad:=L.with_ (t.at_ k).bad d}).at_ b).bad e=true->e=fd)/\(∀e:Int,L.has (t.at_ b).bad e=true->L.has ((t.set k {t.at_ k with bad:=L.with_ (t.at_ k).bad d}).at_ b).bad e=true):=λb hb=>by
    rw[hat b hb];split
    ·rename_i e;subst e;dsimp only;refine⟨hw,λe he=>?_,λe he=>?_⟩
     ·rw[hwh]at he;rcases n5 _ _▸he with he | he
      ·exact hb0.2 e he
      ·simp only[g7]at he;omega
     ·rw[hwh,he];rfl
    ·exact⟨(h2 b hb).1,(h2 b hb).2,λe he=>he⟩
   have hmk:∀b,t.has b=true->∀e:Int,L.has ((t.set k {t.at_ k with bad:=L.with_ (t.at_ k).bad d}).mask b) e=((decide (0<=e)&&decide (e<t.d))&& !L.has t.dead e&& !L.has ((t.set k {t.at_ k with bad:=L.with_ (t.at_ k).bad d}).at_ b).bad e):=λb hb e=>by
    have:=(T5 (t:=t.set k {t.at_ k with bad:=L.with_ (t.at_ k).bad d}) (b:=b) (by rw[Tl.set_d];exact h8) (by rw[Tl.has_set];exact hb) (by rw[Tl.set_dead];exact h1.1) (hbad b hb).1).2 e
    rwa [Tl.set_d,Tl.set_dead]at this
   refine⟨⟨λb=>Tl.has_set _ _ _ _,Tl.set_d _ _ _,λb hb=>?_,λb hb=>?_,by rw[Tl.set_dead];exact h1,λb hb=>⟨(hbad b hb).1,(hbad b hb).2.1⟩,λb hb e he=>?_,λe he=>by rw[Tl.set_dead];exact he⟩,λ_ _=>?_⟩
   ·rw[hat b hb];split
    ·rename_i e;rw[e]
    ·rfl
   ·rw[hat b hb];split
    ·rename_i e;rw[e]
    ·rfl
   ·rw[hmk b hb]at he;rw[(T5 h8 hb h1.1 (h2 b hb).1).2];simp only[j5,j7]at he ⊢;refine⟨he.1,?_⟩;cases hx:L.has (t.at_ b).bad e with
    | false=>rfl
    | true=>rw[(hbad b hb).2.2 e hx]at he;exact absurd he.2 (by decide)
   ·rw[hmk k hop,hat k hop,i9 rfl,hwh,l8 hfd.symm];simp
 ·rename_i hh;refine⟨TlMore.refl h1 h2,λhlt=>?_⟩;simp only[Tl.hasDie,j5,g7]at hh;omega
theorem a8x {α:Type} {p q:α->Bool}:∀{K:List α},(∀x∈K,p x=true->q x=true)->∀{x:α},x∈K->p x=false->q x=true->K.countP p+1<=K.countP q
 | [],_,x,hx,_,_=>by cases hx
 | y::K,h,x,hx,hp,hq=>by
  rw[I4,I4];rcases List.mem_cons.1 hx with rfl | hx
  ·rw[hp,hq];have:=a0Y (p:=p) (q:=q) (l:=K) λz hz=>h z (by simp[hz]);simp only[H3,W3,X1];omega
  ·have ih:=a8x (K:=K) (λz hz=>h z (by simp[hz])) hx hp hq;have hy:=h y (by simp);cases h1:p y with
   | false=>simp only[H3,W3];omega
   | true=>rw[hy h1];simp only[X1];omega
theorem b9L {t:Tl} (hl:t.l.length=t.b) (k:Int) (s:Sb) (hs:t.has k=true->s.bad=(t.at_ k).bad) (j:Int):(t.set k s).mask j=t.mask j:=by
 cases hk:t.has k with
 | false=>rw[Tl.set_no _ hk]
 | true=>
  unfold Tl.mask Tl.alive;rw[Tl.has_set,Tl.set_d,Tl.set_dead];split
  ·rename_i hj;congr 1;rw[Tl.at_set hl _ hk hj];split
   ·rename_i e;rw[hs hk,e]
   ·rfl
  ·rfl
theorem a8m (b r:Int):∀(q:List (Int×Sh)) (N:Nand) (f:Int),RdyR N b r q->N.plan.Nodup->∀x∈q,N.dead.getD x.1.toNat false=false->(x.1,b,r)∉(R.go b r q N f).1.plan
 | [],_,_,_,_,x,hx,_=>by cases hx
 | (d,s)::q,N,f,h,hp,x,hx,hxd=>by
  have hxi:=h.inn (d,s) (by simp);have hc:=h.cells (d,s) (by simp);dsimp only at hxi hc;have hr:=h.lit.refuses hxi h.blk h.row;have hnd:=List.nodup_cons.1 h.nodup;have hne:∀x∈q,x.1≠d:=λx hxq e=>hnd.1 (List.mem_map.2 ⟨x,hxq,e⟩);have hne2:∀x∈q,x.1.toNat≠d.toNat:=λx hxq e=>by
   have:=h.inn x (by simp[hxq]);exact hne x hxq (by omega)
  by_cases hdd:N.dead.getD d.toNat false=true
  ·rw[hdd,i9 rfl]at hr;have e1:N.progE d b r=8:=by unfold Nand.progE;rw[i9 (by rw[hr];decide),hr]
   have e2:N.progN d b r (W5 s)=N:=by unfold Nand.progN;rw[i9 (by rw[hr];decide)]
   have eg:R.go b r ((d,s)::q) N f=R.go b r q N (L.with_ f d):=by rw[R.go,i7 (by rw[e1];decide),i7 (by rw[e1];decide),e2]
   rw[eg];rcases List.mem_cons.1 hx with rfl | hx
   ·dsimp only at hxd;rw[hdd]at hxd;cases hxd
   ·exact a8m b r q N (L.with_ f d) ⟨h.lit,hnd.2,λx hxq=>h.inn x (by simp[hxq]),h.blk,h.row,λx hxq=>h.cells x (by simp[hxq])⟩ hp x hx hxd
  ·have hdd:N.dead.getD d.toNat false=false:=by simpa using hdd
   have hc:=hc hdd;rw[hdd,i7 (by decide)]at hr;have e1:=a5c hr hc.symm h.lit.cutB;have e2:=a5b (pg:=W5 s) hr hc.symm h.lit.cutB;obtain⟨N1,hN1⟩:∃N1,N.progN d b r (W5 s)=N1:=⟨_,rfl⟩;rw[hN1]at e2;have hb:∀i j,N1.blk i j=if i=d.toNat/\j=b.toNat then {N.blk d.toNat b.toNat with cells:=(N.blk d.toNat b.toNat).cells++[⟨W5 s,N.fails d b r,false⟩]}else N.blk i j:=λi j=>by rw[e2];rfl
   have hlike:N.Like N1:=by rw[e2];exact⟨rfl,rfl,rfl⟩
   have hlit:N1.Lit:=by rw[<- hN1];exact h.lit.prog _ _ _ _
   have hdead:N1.dead=N.dead:=by rw[e2];rfl
   have hplan:N1.plan=N.plan.erase (d,b,r):=by rw[e2];rfl
   have hq:∀x∈q,N1.blk x.1.toNat b.toNat=N.blk x.1.toNat b.toNat:=λx hxq=>by rw[hb,i7 (by have:=hne2 x hxq;omega)]
   obtain⟨f1,hf1⟩:∃f1,(if N.fails d b r then L.with_ f d else f)=f1:=⟨_,rfl⟩;have eg:R.go b r ((d,s)::q) N f=R.go b r q N1 f1:=by
    rw[R.go,e1,hN1,<- hf1];cases N.fails d b r with
    | true=>rw[i9 rfl,i7 (by decide),i7 (by decide),i9 rfl]
    | false=>rw[i7 n8,i9 rfl,i7 n8]
   have hR1:RdyR N1 b r q:=⟨hlit,hnd.2,λx hxq=>by rw[hlike.dies];exact h.inn x (by simp[hxq]),by rw[hlike.blocks];exact h.blk,by rw[hlike.pages];exact h.row,λx hxq hd=>by rw[hq x hxq];exact h.cells x (by simp[hxq]) (by rw[<- hdead];exact hd)⟩;rw[eg];rcases List.mem_cons.1 hx with rfl | hx
   ·intro hm;have:=(b9V b r q N1 f1 hR1).2.2.plan _ hm;rw[hplan]at this;exact(hp.mem_erase_iff.1 this).1 rfl
   ·exact a8m b r q N1 f1 hR1 (by rw[hplan];exact hp.erase _) x hx (by rw[hdead];exact hxd)
theorem b1q {N:Nand} {b r m:Int} {l:List En} (h:RdyW N b r m) (hR:RowIs N b r m l) (hp:N.plan.Nodup) {d:Nat} (hd:L.has m (d:Nat)=true) (ha:N.dead.getD d false=false):((d:Int),b,r)∉(R.write N b r m l).1.plan:=by
 obtain⟨x,hx,hxd⟩:=hR.on hd;have:=a8m b r _ N 0 (h.rdy hR) hp x hx (by rw[hxd,l9];exact ha);rw[hxd]at this;unfold R.write;rw[hR.par,i9 rfl];exact this
def a7O (N:Nand) (fd b:Int):Bool:=N.plan.any λa=>a.1==fd&&a.2.1==b
theorem planB_iff {N:Nand} {fd b:Int}:a7O N fd b=true↔∃a∈N.plan,a.1=fd/\a.2.1=b:=by
 unfold a7O;simp only[Y0,j5,A8]
theorem a1V {N N':Nand} (h:∀a∈N'.plan,a∈N.plan) {fd b:Int} (hb:a7O N' fd b=true):a7O N fd b=true:=by
 obtain⟨a,h1,h2⟩:=planB_iff.1 hb;exact planB_iff.2 ⟨a,h a h1,h2⟩
def b7W (fd:Int) (S:Dv) (b:Nat):Bool:=a7O S.N fd (b:Int)&&L.has (S.t.mask (b:Int)) fd
def b3q (fd:Int) (S:Dv):Nat:=(List.range S.t.b).countP (b7W fd S)
structure Brn (fd:Int) (S:Dv) (β:Nat):Prop where
 pos:0<=fd
 dead:∀i:Nat,S.N.dead.getD i false=false
 met:∀i j:Nat,(S.N.blk i j).met=false
 fl:∀i j:Nat,(S.N.blk i j).fails=false
 rng:∀a∈S.N.plan,0<=a.2.2/\a.2.2<S.N.pages
 cnt:b3q fd S<=β
 at_:∀b:Int,S.t.has b=true->L.has (S.t.mask b) fd=true->a7O S.N fd b=true->b=S.op\/(S.t.at_ b).used=false
 opn:S.op>=0->L.has S.mask fd=L.has (S.t.mask S.op) fd/\(L.has S.mask fd=true->∀a∈S.N.plan,a.1=fd->a.2.1=S.op->S.row<=a.2.2)
theorem a6e {fd:Int} {S V:Dv} (hb:V.t.b=S.t.b) (hp:∀a∈V.N.plan,a∈S.N.plan) (hm:∀b:Int,S.t.has b=true->L.has (V.t.mask b) fd=true->L.has (S.t.mask b) fd=true):b3q fd V<=b3q fd S:=by
 unfold b3q;rw[hb];refine a0Y λb hbm h=>?_;unfold b7W at h ⊢;rw[j5]at h ⊢;exact⟨a1V hp h.1,hm _ (Tl.has_iff.2 (by have:=List.mem_range.1 hbm;omega)) h.2⟩
theorem b2d {f:Int} {d:Nat}:∀(q:List Nat) (S:Dv),q.Nodup->(∀e∈q,e≠d->L.has f (e:Nat)=false)->q.foldl (Dv.lose f) S=if d∈q then Dv.lose f S d else S
 | [],S,_,_=>rfl
 | e::q,S,hnd,h=>by
  have hn:=List.nodup_cons.1 hnd;rw[y5,b2d q _ hn.2 λx hx=>h x (by simp[hx])]
  by_cases he:e=d
  ·subst he;rw[i7 hn.1,i9 (by simp)]
  ·have h1:Dv.lose f S e=S:=by unfold Dv.lose;rw[h e (by simp) he,i7 n8]
   rw[h1]
   by_cases hq:d∈q
   ·rw[i9 hq,i9 (by simp[hq])]
   ·rw[i7 hq,i7 (by simp[hq];exactλe2=>he e2.symm)]
theorem a9C {fd:Int} {S:Dv} {k m:Nat} {l:List En} (hi:Inv fd S) (hO:S.Ok (8+k) m) (hl:S.left=true) (hf:∀e∈l,FitR e) (hn:¬S.next>1099511627775-(S.fit l:Int)+1) (hb:(S.wr l).2.1≠0):∃d:Nat,fd=(d:Int)/\d<S.N.dies/\(S.wrote l).loses (S.wr l).2.1=Dv.lose (S.wr l).2.1 (S.wrote l) d/\L.has (S.wr l).2.1 (d:Nat)=true:=by
 have ht:=hi.turn hO hl hf hn;obtain⟨_,b2,b3,b4,b5,b6,b7⟩:=hi.burn hO hl hf hn hb;obtain⟨d,hd,_⟩:=L.has_rng b3;have hdD:d<S.N.dies:=by have:=(hi.opn hl).mask.lt _ b3;omega
 refine⟨d,hd,hdD,?_,by rw[ht.fail d (by rw[<- hd];exact b3),<- hd];exact b6⟩;unfold Dv.loses;rw[b2d (d:=d) _ _ a8L λe _ he=>?_,i9 (List.mem_range.2 (by rw[ht.like.dies];exact hdD))];cases hh:L.has (S.wr l).2.1 (e:Nat)with
 | false=>rfl
 | true=>have:=(ht.only _ hh).1;omega
theorem b5c {fd:Int} {S:Dv} {k m:Nat} {l:List En} (hi:Inv fd S) (hO:S.Ok (8+k) m) (hl:S.left=true) (hf:∀e∈l,FitR e) (hn:¬S.next>1099511627775-(S.fit l:Int)+1) (hb:(S.wr l).2.1≠0) (hdd:S.N.dead.getD fd.toNat false=true):L.has ((S.wrote l).loses (S.wr l).2.1).t.dead fd=true:=by
 have hg:=hO.gd.ok.bd16;have ht:=hi.turn hO hl hf hn;obtain⟨d,rfl,hd,e,hh⟩:=a9C hi hO hl hf hn hb;rw[l9]at hdd;rw[e];unfold Dv.lose;rw[i9 hh];have h1:(S.wrote l).N.deadAt (d:Nat)=true:=by
  unfold Nand.deadAt;rw[l9,ht.dead,hdd,ht.like.dies,l8 (by omega),l8 (by omega)];rfl
 have h2:(S.wrote l).t.hasDie (d:Nat)=true:=by
  have:=hO.t.d;show S.t.hasDie (d:Nat)=true;simp only[Tl.hasDie,j5,g7];omega
 dsimp only;rw[i9 h1];unfold Tl.die;rw[i9 h2];show L.has (L.with_ S.t.dead (d:Nat)) (d:Nat)=true;rw[L.with_has hi.tdead.1 (by omega),l8 rfl,Bool.or_true]
namespace Brn
variable {fd : Int} {S : Dv} {β k m : Nat} {l : List En}
theorem tab (h:Brn fd S β) (T:Tb):Brn fd {S with T:=T} β:=⟨h.pos,h.dead,h.met,h.fl,h.rng,h.cnt,h.at_,h.opn⟩
theorem opened (h:Brn fd S β) (hi:Inv fd S) (hO:S.Ok k m) (hl:S.left=false) (hp:¬S.pick<0):Brn fd S.opened β:=by
 have hg:=hO.gd.ok.bd16;have hlen:=hO.t.len;rcases S.pick_spec with e | ⟨p1,p2,p3,p4⟩
 ·omega
 have hhas:S.t.has S.pick=true:=Tl.has_iff.2 ⟨p1,p2⟩;have hmk:∀j,S.opened.t.mask j=S.t.mask j:=λj=>Dv.mask_clean hlen _ _ _;have hat:∀b,S.t.has b=true->(S.opened.t.at_ b)=if b=S.pick then {S.t.at_ S.pick with used:=true}else S.t.at_ b:=λb hb=>Tl.at_set hlen _ hhas hb
 have hhs:∀b,S.opened.t.has b=S.t.has b:=λb=>Tl.has_set _ _ _ _;have hrow0:S.op>=0->S.N.pages<=S.row:=λh0=>by
  rcases hi.op with e | e
  ·omega
  ·have hps:=(e.mask.pos hg.1).1;cases hh:decide (S.row<S.N.pages)with
   | false=>have:=of_decide_eq_false hh;omega
   | true=>
    have:S.left=true:=by
     unfold Dv.left;rw[l8 h0,hh,l8 (by omega)];rfl
    rw[hl]at this;cases this
 refine⟨h.pos,h.dead,h.met,h.fl,h.rng,E6 (a6e (S:=S) (V:=S.opened) (by show(S.t.clean S.pick false).b=S.t.b;exact Tl.set_b _ _ _) (λa ha=>ha) λb _ hb=>by rw[<- hmk];exact hb) h.cnt,λb hb hm hpb=>?_,λ_=>⟨?_,λ_ a ha _ _=>(h.rng a ha).1⟩⟩
 ·rw[hhs]at hb;rw[hmk]at hm;rcases h.at_ b hb hm hpb with e | e
  ·have h0:=(Tl.has_iff.1 hb).1;have hop:=h.opn (by omega);obtain⟨a,a1,a2,a3⟩:=planB_iff.1 hpb;have h1:=hop.2 (by rw[hop.1,<- e];exact hm) a a1 a2 (a3.trans e);have h2:=(h.rng a a1).2;have h3:=hrow0 (by omega);omega
  ·by_cases e2:b=S.pick
   ·exact .inl e2
   ·rw[hat b hb,i7 e2];exact .inr e
 ·show L.has ((S.t.clean S.pick false).mask S.pick) fd=L.has (S.opened.t.mask S.pick) fd;rfl
theorem wrote (h:Brn fd S β) (hi:Inv fd S) (hO:S.Ok k m) (hl:S.left=true) (hf:∀e∈l,FitR e) (hn:¬S.next>1099511627775-(S.fit l:Int)+1):Brn fd (S.wrote l) β:=by
 have ht:=hi.turn hO hl hf hn;have ho:=hi.opn hl;have hR:=hi.rowIs hO hl hf hn;have hrdy:RdyW S.N S.op S.row S.mask:=⟨hi.lit,λd hd ha=>(ho.cells d hd).2 ha⟩;refine⟨h.pos,λi=>by rw[ht.dead];exact h.dead i,λi j=>by rw[(ht.flags i j).1];exact h.met i j,λi j=>by rw[(ht.flags i j).2.1];exact h.fl i j,λa ha=>by rw[ht.like.pages];exact h.rng a (ht.plan a ha),E6 (a6e (S:=S) (V:=S.wrote l) rfl ht.plan λb _ hb=>hb) h.cnt,λb hb hm hp=>h.at_ b hb hm (a1V ht.plan hp),λh0=>?_⟩;have hop:=h.opn h0;refine⟨hop.1,λhm a ha a1 a2=>?_⟩;have hm:L.has S.mask fd=true:=hm;have h1:=hop.2 hm a (ht.plan a ha) a1 a2;have h2:a≠(fd,S.op,S.row):=λe=>by
  obtain⟨d,hd⟩:=j8 h.pos;have:=b1q (d:=d) hrdy hR hO.gd.nodup (by rw[<- hd];exact hm) (h.dead d);rw[<- hd,<- e]at this;exact this ha
 show S.row+1<=a.2.2;have:a.2.2≠S.row:=λe=>h2 (by
  obtain⟨x,y,z⟩:=a;have a2:y=S.op:=a2;dsimp only at a1 e;rw[a1,a2,e])
 omega
theorem burnt (h:Brn fd S β) (hi:Inv fd S) (hO:S.Ok (8+k) m) (hl:S.left=true) (hf:∀e∈l,FitR e) (hn:¬S.next>1099511627775-(S.fit l:Int)+1) (hb:(S.wr l).2.1≠0):1<=β/\Brn fd ((S.wrote l).loses (S.wr l).2.1) (β-1):=by
 have hg:=hO.gd.ok.bd16;have hs:=Dv.left_spec hl;have ht:=hi.turn hO hl hf hn;have hw:=h.wrote hi hO hl hf hn;obtain⟨_,b2,b3,b4,b5,b6,b7⟩:=hi.burn hO hl hf hn hb;obtain⟨d,hd,hdD,hone,hfb⟩:=a9C hi hO hl hf hn hb;have hlose:Dv.lose (S.wr l).2.1 (S.wrote l) d={S.wrote l with t:=S.t.bad d S.op,mask:=L.without S.mask d}:=by
  unfold Dv.lose;rw[i9 hfb,i7]
  ·rfl
  ·unfold Nand.deadAt;rw[l9,hw.dead];simp
 have hlen:=hO.t.len;have hhas:S.t.has S.op=true:=Tl.has_iff.2 ⟨hs.1,by have:=(hi.opn hl).blk;have:=hO.t.b;omega⟩;obtain⟨m1,m2⟩:=b1X (fd:=fd) hlen (by have:=hO.t.d;omega) hi.tdead hi.tbad (d:=d) (by omega) hd.symm S.op;have m2:=m2 (by have:=hO.t.d;omega) hhas;have hmsk:L.has (L.without S.mask (d:Int)) fd=false:=by
  rw[L.without_has (hi.opn hl).mask.set (by omega),hd];simp
 rw[hone,hlose];have hplan:a7O S.N fd S.op=true:=by
  unfold Nand.failB Nand.fails at b6;rw[hd,l9,h.dead,h.met,D4,Bool.or_false,g7]at b6;exact planB_iff.2 ⟨_,b6,hd.symm,rfl⟩
 have hbt:(S.t.bad d S.op).b=S.t.b:=by unfold Tl.bad;split;(· exact Tl.set_b _ _ _);rfl
 have hcnt:b3q fd {S.wrote l with t:=S.t.bad d S.op,mask:=L.without S.mask d}+1<=b3q fd S:=by
  unfold b3q;show List.countP _ (List.range (S.t.bad d S.op).b)+1<=_;rw[hbt];refine a8x (x:=S.op.toNat) (λb hbm hh=>?_) (List.mem_range.2 (by have:=(Tl.has_iff.1 hhas).2;omega)) ?_ ?_
  ·unfold b7W at hh ⊢;rw[j5]at hh ⊢;exact⟨a1V ht.plan hh.1,m1.mask _ (Tl.has_iff.2 (by have:=List.mem_range.1 hbm;omega)) _ hh.2⟩
  ·unfold b7W;rw[show((S.op.toNat:Nat):Int)=S.op from by omega];show(_&&L.has ((S.t.bad d S.op).mask S.op) fd)=false;rw[m2];simp
  ·unfold b7W;rw[show((S.op.toNat:Nat):Int)=S.op from by omega,hplan,<- (h.opn hs.1).1,b3];rfl
 have hcnt0:=h.cnt;refine⟨by omega,⟨h.pos,hw.dead,hw.met,hw.fl,hw.rng,by omega,λb hb2 hm hp=>?_,λh0=>⟨?_,λhm=>?_⟩⟩⟩
 ·have hb2:(S.t.bad d S.op).has b=true:=hb2;rw[m1.has]at hb2;have hm:L.has ((S.t.bad d S.op).mask b) fd=true:=hm;rcases h.at_ b hb2 (m1.mask b hb2 _ hm) (a1V ht.plan hp)with e | e
  ·exact .inl e
  ·right;show((S.t.bad d S.op).at_ b).used=false;rw[m1.used b hb2];exact e
 ·show L.has (L.without S.mask (d:Int)) fd=L.has ((S.t.bad d S.op).mask S.op) fd;rw[hmsk,m2]
 ·have hm:L.has (L.without S.mask (d:Int)) fd=true:=hm;rw[hmsk]at hm;cases hm
end Brn
theorem Went.refl {fd:Int} {S:Dv} (h:Inv fd S):Went fd S S 0:=
 ⟨h,rfl,by omega,rfl,rfl,Nand.Like.refl _,λ_ h=>h,λ_ _=>⟨rfl,rfl,rfl⟩,rfl,λ_ _ _=>rfl,λ_ _ h=>h,λ_ _=>⟨rfl,rfl,λh=>h⟩,λ_ h=>h⟩
theorem Went.trans {fd:Int} {S Q P:Dv} {β γ:Nat} (h:Went fd S Q β) (hh:∀b,Q.t.has b=S.t.has b) (g:Went fd Q P γ):Went fd S P (β+γ):=by
 have h1:=h.next;have h2:=g.next;have h3:=h.rows;have h4:=g.rows;refine⟨g.inv,g.T.trans h.T,by omega,g.dead.trans h.dead,g.broken.trans h.broken,h.like.trans g.like,λa ha=>h.plan a (g.plan a ha),λi j=>?_,by omega,λi a ha=>(g.reads i a (h.stay i a ha)).trans (h.reads i a ha),λi a ha=>g.stay i a (h.stay i a ha),λb hb=>?_,λd hd=>g.td d (h.td d hd)⟩
 ·have a1:=h.flags i j;have a2:=g.flags i j;exact⟨a2.1.trans a1.1,a2.2.1.trans a1.2.1,a2.2.2.trans a1.2.2⟩
 ·have a1:=h.sb b hb;have a2:=g.sb b (by rw[hh];exact hb);exact⟨a2.1.trans a1.1,a2.2.1.trans a1.2.1,λhu=>a2.2.2 (a1.2.2 hu)⟩
inductive Hot (fd:Int) (S:Dv):Nat->Prop
 | calm:NoF S->Hot fd S 0
 | cold:L.has S.t.dead fd=true->L.has S.mask fd=false->Hot fd S 0
 | there:S.left=true->L.has S.mask fd=false->Hot fd S 0
 | once:L.has S.t.dead fd=true->Hot fd S 1
 | burnt:L.has S.mask fd=false->Hot fd S 1
 | any:Hot fd S 2
 | brn {β:Nat}:Brn fd S β->Hot fd S β
 | dead:S.N.dead.getD fd.toNat false=true->Hot fd S 1
structure Last (fd:Int) (Q:Dv) (l:List En):Prop where
 left:Q.left=true
 err:(Q.wr l).2.1=0
 bd:¬Q.next>1099511627775-(Q.fit l:Int)+1
 turn:Inv.Turn fd Q l
def N9 (Q:Dv) (l:List En):Dv:={Q.wrote l with T:=Dv.puts Q.T Q.op Q.row Q.mask (Q.es l) (Q.fit l)}
namespace Inv
variable {fd : Int} {S : Dv} {k m : Nat} {l : List En}
theorem has_same {Q:Dv} (hO:S.t.Fit S.N) (hQ:Q.t.Fit Q.N) (hl:S.N.Like Q.N) (b:Int):Q.t.has b=S.t.has b:=by
 unfold Tl.has;rw[show Q.t.b=S.t.b from by rw[hQ.b,hO.b,hl.blocks]]
theorem rows_pos (h:Inv fd S) (hO:S.Ok k m) (hr:0<S.rows):S.left=true\/¬S.pick<0:=by
 have hg:=hO.gd.ok.bd16
 by_cases hb:S.t.blanks=0
 ·left;unfold Dv.rows at hr;rw[hb,Nat.mul_zero,I3]at hr;split at hr
  ·rename_i h0;rcases h.op with e | e
   ·omega
   ·have:=(e.mask.pos hg.1).1;unfold Dv.left;rw[l8 h0,l8 (by omega),l8 (by omega)];rfl
  ·omega
 ·right;obtain⟨s,hs,hu⟩:=List.countP_pos_iff.1 (show 0<S.t.l.countP λs=>!s.used by unfold Tl.blanks at hb;omega);obtain⟨j,hj,rfl⟩:=List.mem_iff_getElem.1 hs;have hlen:=hO.t.len;have hhas:S.t.has (j:Nat)=true:=Tl.has_iff.2 (by omega);have hat:S.t.at_ (j:Nat)=S.t.l[j]:=by unfold Tl.at_;rw[l9,d7,d6 hj,m7]
  have hunu:(S.t.at_ (j:Nat)).used=false:=by rw[hat];simpa using hu
  have hcnt:S.T.count (j:Nat)=0:=by
   rw[hO.T.cnt];unfold Tb.cntB;congr 1;rw[a1S];intro x hx hxb;simp only[A8]at hxb;have hlk:Tb.look S.T.at_ x.1=some x.2:=by
    cases hh:Tb.look S.T.at_ x.1 with
    | none=>rw[Tb.look_none]at hh;exact absurd (List.mem_map.2 ⟨x,hx,rfl⟩) hh
    | some a=>
     have hm:=Tb.look_mem hh;have hn:=hO.T.keys;obtain⟨i1,g1,e1⟩:=List.mem_iff_getElem.1 hm;obtain⟨i2,g2,e2⟩:=List.mem_iff_getElem.1 hx;have:i1=i2:=(U0 (by rw[q9];exact g1) hn).1 (by rw[m6,m6,d6 g1,d6 g2,e1,e2];rfl);subst this;rw[e1]at e2;rw[<- e2]
   have:=(h.st _ _ hlk).used;rw[hxb,hunu]at this;cases this
  have hop:(j:Int)≠S.op:=λe=>by
   rcases h.op with e2 | e2
   ·omega
   ·have:=e2.used;rw[<- e,hunu]at this;cases this
  have hmem:((j:Nat):Int)∈A5 (S9 S.t S.T) S.op S.t.b:=mem_pkSome.2 ⟨by omega,by omega,hop,by
   unfold S9;rw[h.usable hO hhas,hcnt];simp only[Tl.blank,hhas,hunu];rfl⟩
  intro hp;rcases a9s (λx y=>R4 (S.t.wear x) (S.t.wear y)) (S9 S.t S.T) S.op S.t.b with e | e
  ·rw[e.2]at hmem;cases hmem
  ·have:=e.2;unfold Dv.pick at hp;omega
theorem write_go:∀(β f:Nat) (S:Dv) (k:Nat),Inv fd S->S.Ok (8*(f+β+1)+k) m->Hot fd S β->β<S.rows->(∀e∈l,FitR e)->l.length≠0->S.next+7*(β:Int)<=1099511627775-7->
  ∃γ Q,γ<=β/\Went fd S Q γ/\Q.Ok (8+k) m/\Last fd Q l/\Dv.write (f+β+1) S l=(N9 Q l,(Q.fit l:Int),(0:Int))/\(NoF S->Q=S.at1/\γ=0)/\(0<γ->L.has S.t.dead fd=true->L.has Q.mask fd=false)/\(∀d:Int,L.has S.t.dead d=true->L.has S.mask d=false->L.has Q.mask d=false)/\(γ=0->Q=S.at1)/\(∀β2,Brn fd S β2->γ<=β2/\Brn fd Q (β2-γ))/\(0<γ->S.N.dead.getD fd.toNat false=true->L.has Q.t.dead fd=true/\L.has Q.mask fd=false)
 | β,f,S,k,h,hO,hH,hr,hf,hl0,hnx=>by
  have hg:=hO.gd.ok.bd16;have h8:S.t.d<=8:=by have:=hO.t.d;omega
  have hd:∀s∈l,s.data.length=16:=λe he=>(hf e he).len;have hns:¬(S.left=false/\S.pick<0):=λe=>by
   rcases h.rows_pos hO (by omega)with e2 | e2
   ·rw[e.1]at e2;cases e2
   ·exact e2 e.2
  --the one that is written
  obtain⟨Q,hQ⟩:∃Q,S.at1=Q:=⟨_,rfl⟩;have hW:Went fd S Q 0/\Q.left=true/\((Q=S)\/(Q=S.opened/\Q.mask=S.t.mask S.pick/\S.t.has S.pick=true))/\∀β2,Brn fd S β2->Brn fd Q β2:=by
   cases hl:S.left with
   | true=>
    have:S.at1=S:=by unfold Dv.at1;rw[hl,i9 rfl]
    rw[<- hQ,this];exact⟨Went.refl h,hl, .inl rfl,λ_ hb=>hb⟩
   | false=>
    have hp:¬S.pick<0:=λe=>hns ⟨hl,e⟩;have e1:S.at1=S.opened:=by unfold Dv.at1;rw[hl,i7 n8]
    have:=h.opens hO hl hp;rw[<- hQ,e1];rcases S.pick_spec with e | ⟨p1,p2,_,_⟩
    ·omega
    ·exact⟨this.1,this.2.1, .inr ⟨rfl,this.2.2,Tl.has_iff.2 ⟨p1,p2⟩⟩,λ_ hb=>hb.opened h hO hl hp⟩
  obtain⟨w1,w2,w3,w4⟩:=hW;have hQO:Q.Ok (8*(f+β+1)+k) m:=by rw[<- hQ];exact hO.at1
  have hfit:=Dv.fit_le Q l;have hn:¬Q.next>1099511627775-(Q.fit l:Int)+1:=by have:=w1.next;omega
  have ht:=w1.inv.turn hQO w2 hf hn;have hmaskd:∀d:Int,L.has S.t.dead d=true->L.has S.mask d=false->L.has Q.mask d=false:=λd h1 h2=>by
   rcases w3 with e | ⟨e,e2,e3⟩
   ·rw[e];exact h2
   ·rw[e2];have:=(T5 h8 e3 h.tdead.1 (h.tbad _ e3).1).2 d;rw[this,h1];simp
  have hmaskd2:Q≠S->∀d:Int,L.has S.t.dead d=true->L.has Q.mask d=false:=λhne d h1=>by
   rcases w3 with e | ⟨e,e2,e3⟩
   ·exact absurd e hne
   ·rw[e2];have:=(T5 h8 e3 h.tdead.1 (h.tbad _ e3).1).2 d;rw[this,h1];simp
  by_cases he:(Q.wr l).2.1=0
  ·refine⟨0,Q,by omega,w1,hQO.less (by omega),⟨w2,he,hn,ht⟩,?_,λ_=>⟨hQ.symm,rfl⟩,λh0=>by omega,hmaskd,λ_=>hQ.symm,λb2 hb2=>⟨n7 _,w4 b2 hb2⟩,λh0=>by omega⟩;have herr:=ht.err;rw[i9 he]at herr;rw[Dv.write_succ,i7 hl0,i7 hns,hQ,i7 hn,i7 (by rw[herr];decide),i9 herr];rfl
  ·have herr:=ht.err;rw[i7 he]at herr;have hQO8:Q.Ok (8+(8*(f+β)+k)) m:=hQO.less (by omega);obtain⟨b1,b2,b3,b4,b5,b6,b7⟩:=w1.inv.burn hQO8 w2 hf hn he;have hWO:=(hQO8.wrote hd (Dv.left_spec w2).2.1 hn).loses (Q.wr l).2.1;have hwr:Dv.write (f+β+1) S l=Dv.write (f+β) ((Q.wrote l).loses (Q.wr l).2.1) l:=by
    rw[Dv.write_succ,i7 hl0,i7 hns,hQ,i7 hn,i7 (by rw[herr];decide),i7 (by rw[herr];decide),i7 (by rw[herr];decide)]
   have hnof:¬NoF S:=λhno=>by
    have:NoF Q:=⟨λi=>by rw[w1.dead];exact hno.dead i,List.eq_nil_iff_forall_not_mem.2 λa ha=>(by have:=w1.plan a ha;rw[hno.plan]at this;cases this),λi j=>by rw[(w1.flags i j).1];exact hno.met i j⟩;have hfl:=this.fails Q.op Q.row fd.toNat
    obtain⟨x,hx,_⟩:=L.has_rng b3;rw[hx,l9]at hfl;rw[hx,hfl]at b6;cases b6
   have hBS:∀β2,Brn fd S β2->1<=β2/\Brn fd ((Q.wrote l).loses (Q.wr l).2.1) (β2-1):=λb2 hb2=>(w4 b2 hb2).burnt w1.inv hQO8 w2 hf hn he;have hDS:S.N.dead.getD fd.toNat false=true->L.has ((Q.wrote l).loses (Q.wr l).2.1).t.dead fd=true:=λhdd=>b5c w1.inv hQO8 w2 hf hn he (by rw[w1.dead];exact hdd);generalize hS2:(Q.wrote l).loses (Q.wr l).2.1=S2 at b1 b2 b4 b5 b7 hWO hwr hBS hDS;have hW2:Went fd S S2 1:=by
    have:=w1.trans (has_same hO.t hQO.t w1.like) b1
    rwa [I3]at this
   obtain⟨β',hβ,hH'⟩:∃β',β=β'+1/\Hot fd S2 β':=by
    cases hH with
    | calm hno=>exact absurd hno hnof
    | cold h1 h2=>rw[hmaskd fd h1 h2]at b3;cases b3
    | there h1 h2=>
     rcases w3 with e | ⟨e,_⟩
     ·rw[e,h2]at b3;cases b3
     ·have:S.at1=S:=by unfold Dv.at1;rw[h1,i9 rfl]
      rw[<- hQ,this,h2]at b3;cases b3
    | once h1=>exact⟨0,rfl, .cold (hW2.td fd h1) b2⟩
    | burnt h1=>
     refine⟨0,rfl, .there ?_ b2⟩;rcases w3 with e | ⟨e,_⟩
     ·rw[e,h1]at b3;cases b3
     ·have hi:=b1.inv;have hQop:=(w1.inv.opn w2).blk;have e0:Q.row=0:=by rw[e];rfl
      have hpg:S2.N.pages=Q.N.pages:=b1.like.pages;have hpg2:Q.N.pages=S.N.pages:=w1.like.pages;have hop2:Opn fd S2:=by
       rcases hi.op with e2 | e2
       ·omega
       ·exact e2
      have:=(hop2.mask.pos (hWO.gd.ok.bd16.1)).1;unfold Dv.left;rw[l8 (by omega),l8 (by omega),l8 (by omega)];rfl
    | any=>exact⟨1,rfl, .burnt b2⟩
    | brn hb=>
     obtain⟨x1,x2⟩:=hBS _ hb;exact⟨β-1,by omega, .brn x2⟩
    | dead hdd=>exact⟨0,rfl, .cold (hDS hdd) b2⟩
   subst hβ;have hrows:=hW2.rows;have hnx2:=hW2.next;obtain⟨γ,P,c1,c2,c3,c4,c5,c6,c7,c8,_,c10,_⟩:=write_go β' f S2 k hW2.inv (by rw[show f+β'+1=f+(β'+1)from by omega];exact hWO) hH' (by omega) hf hl0 (by omega);refine⟨1+γ,P,by omega,hW2.trans (has_same hO.t hWO.t hW2.like) c2,c3,c4,?_,λhno=>absurd hno hnof,λ_ hdd=>c8 fd (hW2.td fd hdd) b2,λd h1 h2=>c8 d (hW2.td d h1) ?_,λe=>absurd e (by omega),λb3 hb3=>?_,λ_ hdd=>⟨c2.td fd (hDS hdd),c8 fd (hDS hdd) b2⟩⟩
   ·rw[hwr,show f+(β'+1)=f+β'+1 from by omega,c5]
   ·cases hh:L.has S2.mask d with
    | false=>rfl
    | true=>have:=b7 d hh;rw[hmaskd d h1 h2]at this;cases this
   ·obtain⟨x1,x2⟩:=hBS b3 hb3;obtain⟨y1,y2⟩:=c10 _ x2;exact⟨by omega,by rw[show b3-(1+γ)=b3-1-γ from by omega];exact y2⟩
end Inv
theorem b0J {T:Tb} (h:T.Ok) {x:Int×AtV} (hx:x∈T.at_):Tb.look T.at_ x.1=some x.2:=by
 cases hh:Tb.look T.at_ x.1 with
 | none=>rw[Tb.look_none]at hh;exact absurd (List.mem_map.2 ⟨x,hx,rfl⟩) hh
 | some a=>
  have hm:=Tb.look_mem hh;obtain⟨i1,g1,e1⟩:=List.mem_iff_getElem.1 hm;obtain⟨i2,g2,e2⟩:=List.mem_iff_getElem.1 hx;have:i1=i2:=(U0 (by rw[q9];exact g1) h.keys).1 (by rw[m6,m6,d6 g1,d6 g2,e1,e2];rfl);subst this;rw[e1]at e2;rw[<- e2]
theorem a5V {T:Tb} {b r mk:Int} {es:List En}:∀n:Nat,(∀j,j<n->Tb.ok T (es.getD j En.zero)=true)->(∀j,j<n->∀a,Tb.look T.at_ (es.getD j En.zero).lpn=some a->a.seq<=(es.getD j En.zero).seq)->(∀i j,i<j->j<n->(es.getD i En.zero).lpn≠(es.getD j En.zero).lpn)->
  (∀j,j<n->Tb.look (Dv.puts T b r mk es n).at_ (es.getD j En.zero).lpn=some ⟨b,r,j,mk,(es.getD j En.zero).seq,(es.getD j En.zero).role⟩)/\(∀i,(∀j,j<n->(es.getD j En.zero).lpn≠i)->Tb.look (Dv.puts T b r mk es n).at_ i=Tb.look T.at_ i)
 | 0,_,_,_=>⟨λj hj=>by omega,λi _=>rfl⟩
 | n+1,h1,h2,h3=>by
  obtain⟨i1,i2⟩:=a5V n (λj hj=>h1 j (by omega)) (λj hj=>h2 j (by omega)) (λi j hij hj=>h3 i j hij (by omega));have hlog:(Dv.puts T b r mk es n).logical=T.logical:=by
   clear i1 i2 h1 h2 h3
   induction n with
   | zero=>rfl
   | succ n ih=>rw[Dv.puts_succ,Tb.put_logical];exact ih
  have hlk:Tb.look (Dv.puts T b r mk es n).at_ (es.getD n En.zero).lpn=Tb.look T.at_ (es.getD n En.zero).lpn:=i2 _ λj hj=>h3 j n hj (by omega);have hp:Tb.putB (Dv.puts T b r mk es n) (es.getD n En.zero)=true:=by
   unfold Tb.putB;have e1:Tb.ok (Dv.puts T b r mk es n) (es.getD n En.zero)=Tb.ok T (es.getD n En.zero):=by unfold Tb.ok;rw[hlog]
   have e2:Tb.elder (Dv.puts T b r mk es n) (es.getD n En.zero)=false:=by
    unfold Tb.elder;rw[hlk];cases hh:Tb.look T.at_ (es.getD n En.zero).lpn with
    | none=>rfl
    | some a=>have:=h2 n (by omega) a hh;exact y8 (by omega)
   rw[e1,e2,h1 n (by omega)];rfl
  rw[Dv.puts_succ];refine⟨λj hj=>?_,λi hi=>?_⟩
  ·rw[V.look_put]
   by_cases e:j=n
   ·subst e;rw[i9 ⟨hp,rfl⟩]
   ·rw[i7 (λhh=>h3 j n (by omega) (by omega) hh.2)];exact i1 j (by omega)
  ·rw[V.look_put,i7 (λhh=>hi n (by omega) hh.2.symm)];exact i2 i λj hj=>hi j (by omega)
namespace Last
variable {fd : Int} {Q : Dv} {l : List En} {k m : Nat}
theorem opn (h:Last fd Q l) (hQ:Inv fd Q):Opn fd Q:=hQ.opn h.left
theorem seqs (_h:Last fd Q l) (hO:Q.Ok k m) {i:Nat} (hi:i<Q.fit l):i<l.length/\(Q.es l).getD i En.zero={l.getD i En.zero with seq:=Q.next+i}/\i<(Q.es l).length:=by
 have:=Dv.fit_le Q l;have hs:=Dv.slots_le Q.mask;have hi2:i<(G.slots Q.mask).toNat:=by omega
 refine⟨by omega,?_,by rw[Dv.es_len];exact hi2⟩;unfold Dv.es;rw[b9D hi2];unfold Dv.numAt;rw[i9 (by omega)]
theorem inv (h:Last fd Q l) (hQ:Inv fd Q) (hO:Q.Ok k m):Inv fd (N9 Q l):=by
 have ho:=h.opn hQ;have hnx:=hO.next;have hf:=Dv.fit_le Q l;have he:=Dv.es_len Q l;have:=h.turn.inv.puts h.turn.full (show((Q.wrote l).t.at_ Q.op).used=true from ho.used) (λ_=>by show Q.row<Q.row+1;omega) Q.T rfl (Q.fit l) (by omega) (λi hi=>by
  obtain⟨_,e2,_⟩:=h.seqs hO hi;rw[e2];show 1<=Q.next+(i:Int)/\Q.next+(i:Int)<Q.next+(Q.fit l:Int);omega)
 exact this
theorem look (h:Last fd Q l) (hQ:Inv fd Q) (hO:Q.Ok k m) (hf:∀e∈l,FitR e) (hlg:∀e∈l,e.lpn<Q.T.logical) (hnd:(l.map (·.lpn)).Nodup):
  (∀j,j<Q.fit l->Tb.look (N9 Q l).T.at_ (l.getD j En.zero).lpn=some ⟨Q.op,Q.row,j,Q.mask,Q.next+j,(l.getD j En.zero).role⟩)/\(∀i,(∀j,j<Q.fit l->(l.getD j En.zero).lpn≠i)->Tb.look (N9 Q l).T.at_ i=Tb.look Q.T.at_ i):=by
 have hes:=λj (hj:j<Q.fit l)=>h.seqs hO hj;have hmem:∀j,j<Q.fit l->l.getD j En.zero∈l:=λj hj=>a0p (hes j hj).1;obtain⟨a1,a2⟩:=a5V (T:=Q.T) (b:=Q.op) (r:=Q.row) (mk:=Q.mask) (es:=Q.es l) (Q.fit l) (λj hj=>by
   rw[(hes j hj).2.1];have hfe:=hf _ (hmem j hj);have:=hlg _ (hmem j hj);unfold Tb.ok;have e1:decide (({l.getD j En.zero with seq:=Q.next+(j:Int)}:En).lpn<0)=false:=y8 (by have:=hfe.lpn;show¬(l.getD j En.zero).lpn<0;omega);have e2:decide (({l.getD j En.zero with seq:=Q.next+(j:Int)}:En).lpn>=Q.T.logical)=false:=y8 (by show¬(l.getD j En.zero).lpn>=Q.T.logical;omega);rw[e1,e2];show(!(false||false||((l.getD j En.zero).role !=1&&(l.getD j En.zero).role !=2&&(l.getD j En.zero).role !=4)))=true;rcases hfe.role with e | ⟨e | e,_⟩<;>rw[e]<;>rfl)
  (λj hj a ha=>by
   rw[(hes j hj).2.1]at ha ⊢;have:=(hQ.st _ a ha).seq;show a.seq<=Q.next+(j:Int);omega)
  (λi j hij hj=>by
   rw[(hes j hj).2.1,(hes i (by omega)).2.1];show(l.getD i En.zero).lpn≠(l.getD j En.zero).lpn;intro e;have g1:=(hes j hj).1;have g2:=(hes i (by omega)).1;have:(l.map (·.lpn))[i]? =(l.map (·.lpn))[j]?:=by
    rw[m6,m6,d6 g1,d6 g2];rw[d7,d7,d6 g1,d6 g2]at e;exact congrArg some e
   have:=(U0 (by rw[q9];exact g2) hnd).1 this;omega)
 refine⟨λj hj=>?_,λi hi=>?_⟩
 ·have:=a1 j hj;rw[(hes j hj).2.1]at this;exact this
 ·refine a2 i λj hj=>?_;rw[(hes j hj).2.1];exact hi j hj
theorem stay (h:Last fd Q l) (hQ:Inv fd Q) (hO:Q.Ok k m) (hf:∀e∈l,FitR e) {i:Int} {a:AtV} (ha:Std fd Q i a):R.read (N9 Q l).N a.block a.row a.slot a.mask=R.read Q.N a.block a.row a.slot a.mask:=
 (hQ.turn_std h.turn hO h.left hf h.bd ha).2
theorem reads (h:Last fd Q l) (hQ:Inv fd Q) (hO:Q.Ok k m) {j:Nat} (hj:j<Q.fit l):R.read (N9 Q l).N Q.op Q.row j Q.mask=({l.getD j En.zero with seq:=Q.next+j},0):=by
 obtain⟨_,e2,e3⟩:=h.seqs hO hj;rw[<- e2];exact h.turn.full.read h.turn.inv.lit.off h.turn.inv.dead e3
theorem rows (h:Last fd Q l) (hQ:Inv fd Q):(N9 Q l).rows+1=Q.rows:=by
 have ho:=h.opn hQ;have hs:=Dv.left_spec h.left;unfold Dv.rows;have e1:(N9 Q l).N.pages=Q.N.pages:=h.turn.like.pages;have e2:(N9 Q l).t=Q.t:=rfl;have e3:(N9 Q l).op=Q.op:=rfl;have e4:(N9 Q l).row=Q.row+1:=rfl;rw[e1,e2,e3,e4,i9 (by omega),i9 (by omega)];have:=ho.row;omega
end Last
theorem NoF.went {fd:Int} {S Q:Dv} {β:Nat} (h:NoF S) (w:Went fd S Q β):NoF Q:=
 ⟨λi=>by rw[w.dead];exact h.dead i,List.eq_nil_iff_forall_not_mem.2 λa ha=>(by have:=w.plan a ha;rw[h.plan]at this;cases this),λi j=>by rw[(w.flags i j).1];exact h.met i j⟩
theorem NoF.wrote {fd:Int} {Q:Dv} {l:List En} (h:NoF Q) (w:Last fd Q l):NoF (N9 Q l):=
 ⟨λi=>by show(Q.wrote l).N.dead.getD i false=false;rw[w.turn.dead];exact h.dead i,List.eq_nil_iff_forall_not_mem.2 λa ha=>(by have:=w.turn.plan a ha;rw[h.plan]at this;cases this),λi j=>by show((Q.wrote l).N.blk i j).met=false;rw[(w.turn.flags i j).1];exact h.met i j⟩
theorem NoF.new (d b p:Nat) (lg:Int):NoF (Dv.mk (Nand.new d b p) (Tl.new d b p) (Tb.new lg) (-1) 0 0 1):=
 ⟨λi=>by
  show(List.replicate d false).getD i false=false;rw[d7,G9];split<;>rfl,rfl,λ_ _=>rfl⟩
theorem Inv.new (fd:Int) (d b p:Nat) (lg:Int):Inv fd (Dv.mk (Nand.new d b p) (Tl.new d b p) (Tb.new lg) (-1) 0 0 1):=by
 refine⟨Nand.Lit.new d b p,λi _=>(NoF.new d b p lg).dead i,λa ha=>(by cases ha),λ_ _ _=>⟨rfl,rfl⟩,⟨by show L.set 0=true;decide,λd hd=>(by have:L.has 0 d=true:=hd;rw[L.has_zero]at this;cases this)⟩,λbb hb=>?_, .inl rfl,λbb hb hu e he=>rfl,λi a ha=>(by cases ha)⟩;have:(Tl.new d b p).at_ bb=Sb.zero:=by
  unfold Tl.new Tl.at_;dsimp only;rw[d7,G9];split<;>rfl
 show L.set ((Tl.new d b p).at_ bb).bad=true/\_;rw[this];refine⟨by decide,λe he=>?_⟩;have he:L.has 0 e=true:=he;rw[L.has_zero]at he;cases he
theorem a7y (q:Nat) (t:Tl) (hb:t.b<=1000) (hl:t.l.length=t.b) (k:Int) (on:Bool):FP 153 [pp q,iI k, .bool on] [TlA q t] (Ps (.tuple #[]) [TlA q (t.clean k on)]):=by
 refine FE [2,0,0] Tryz.func153 λX F hX=>?_;refine J.o (α:=Nat) 1 λg=>?_;refine J.qp (a6r q t hb g k) [1,2] λ_=>?_;cases hh:t.has k with
 | false=>
  rw[Tl.adr,hh,i7 (by simp)];refine J.qF λ_=>?_;refine J.q λ_=>?_;refine J.cl (λg:Nat=>TlP q t g) g [1,2] ?_;refine J.q λ_=>?_;refine J.f [1] ?_;exact⟨rfl,by rw[Tl.clean,Tl.set,hh];rfl⟩
 | true=>
  rw[Tl.adr,hh,i9 rfl];refine J.qT λ_=>?_;refine J.q λ_=>?_;refine J.s1 2 ((t.clean k on).l.flatMap sbL) ?_ ?_ ?_
  ·rw[t.len_l,hl];simp only[Tl.has,j5,g7]at hh;omega
  ·exact t.set_at hl hh 2 (by omega) _ _ rfl
  refine J.close (f:=λg:Nat=>TlP q (t.clean k on) g) g [1,2] rfl (by simp only[TlP,Tl.clean,Tl.set_d,Tl.set_b,Tl.set_p,Tl.set_dead];rfl) rfl ?_;refine J.q λ_=>?_;refine J.f [1] ?_;exact⟨rfl,rfl⟩
theorem a4V (q:Nat) (t:Tl) (d:Int):FP 104 [pp q,iI d] [TlA q t] (Ps (.tuple #[]) [TlA q (t.die d)]):=by
 refine FE [2,0] Tryz.func104 λX F hX=>?_;refine J.o (α:=Nat) 1 λg=>?_;refine J.qp (b6p q t g d) [1,2] λ_=>?_;refine J.qd (λ_ h1=>?_) λ_ h1=>?_
 ·refine J.qp (b0L t.dead d) [] λ_=>?_;have he:t.die d=⟨t.d,t.b,t.p,t.l,L.with_ t.dead d⟩:=by rw[Tl.die,i9 h1]
  refine J.q λ_=>?_;refine J.close (f:=λg:Nat=>TlP q (t.die d) g) g [1,2] rfl (by rw[he];rfl) rfl ?_;refine J.q λ_=>?_;refine J.f [1] ?_;exact⟨rfl,rfl⟩
 ·refine J.q λ_=>?_;refine J.cl (λg:Nat=>TlP q t g) g [1,2] ?_;refine J.q λ_=>?_;refine J.f [1] ?_;exact⟨rfl,by rw[Tl.die,i7 (by rw[h1];simp)];rfl⟩
theorem c0U (a b:Int):(if b>a then b else a)=max a b:=by split<;>omega
def a2k (p n t l:Nat) (S:Dv):Atom:= .pt p 221 [pp n,pp t,pp l,iI S.op,iI S.row,iI S.mask,iI S.next]
def DvP (p n t l:Nat) (S:Dv):List Atom:=[a2k p n t l S,C1 n S.N,TlA t S.t,TbA l S.T]
theorem b6S (n t l:Nat) (next:Int) (h: -9223372036854775808<=next/\next<=9223372036854775807) (N:Nand) (tl:Tl) (T:Tb):FP 89 [pp n,pp t,pp l,iI next] [] (λv As=>∃p,v=pp p/\As=[a2k p n t l ⟨N,tl,T,-1,0,0,max next 1⟩]):=by
 refine FE [0,0,0,0] Tryz.func89 λX F hX=>?_;refine J.q λbb=>?_;rw[c0U];refine J.qr [1] λ_=>?_;exact⟨bb 0,rfl,rfl⟩
theorem a3h (p n t l:Nat) (S:Dv):FP 93 [pp p] [a2k p n t l S] (Ps (iI S.op) [a2k p n t l S]):=by
 refine FE [2] Tryz.func93 λX F hX=>?_;refine J.qF λ_=>?_;exact J.qx [1]
theorem b3U (p n t l:Nat) (S:Dv):FP 217 [pp p] (DvP p n t l S) (Ps (.bool S.left) (DvP p n t l S)):=by
 refine FE [2] Tryz.func217 λX F hX=>?_;refine J.pn 6 (.of [0,4,8,13,16,20,24,28,32,37,40,44,48,53,58,60,64,68,72,76,80,84,89,94,96,100,104]) [26] [1,2,3,4] λ_ _=>?_;cases h1:decide (S.op>=0)with
 | false=>
  refine J.q λ_=>?_;refine J.val hX (.agg #[iI 0,iI 0,iI 0]) 0 rfl rfl (λhg a w he hs=>absurd hg (by simp[G.on])) rfl stq ?_;refine J.q λ_=>?_;refine J.val hX (iI 0) 0 rfl rfl (λhg a w he hs=>absurd hg (by simp[G.on])) rfl stq ?_;refine J.qr [1,2,3,4] λ_=>?_;exact⟨by unfold Dv.left;rw[h1];rfl,rfl⟩
 | true=>
  refine J.qp (a1s n S.N) [2] λ_=>?_;refine J.qn 2 λ_=>?_;cases h2:decide (S.row<(S.N.pages:Int))with
  | false=>
   refine J.q λ_=>?_;refine J.val hX (iI 0) 0 rfl rfl (λhg a w he hs=>absurd hg (by simp[G.on])) rfl stq ?_;refine J.qr [1,2,3,4] λ_=>?_;exact⟨by unfold Dv.left;rw[h1,h2];rfl,rfl⟩
  | true=>
   refine J.qp (a1n S.mask) [] λ_=>?_;refine J.qr [1,2,3,4] λ_=>?_;exact⟨by unfold Dv.left;rw[h1,h2],rfl⟩
theorem b1N (p n t l:Nat) (S:Dv) (hb:S.t.b<=1000) (hl:S.t.l.length=S.t.b):FP 169 [pp p] (DvP p n t l S) (Ps (iI S.slots) (DvP p n t l S)):=by
 refine FE [2] Tryz.func169 λX F hX=>?_;refine J.qF λ_=>?_;refine J.qp (b3U p n t l S) [1,2,3,4] λ_=>?_;refine J.qd (λ_ h1=>?_) λ_ h1=>?_
 ·refine J.qp (a1n S.mask) [] λ_=>?_;refine J.qr [1,2,3,4] λ_=>?_;exact⟨by unfold Dv.slots;rw[i9 h1],rfl⟩
 refine J.p (.of [0,4,8,13,16,20,24,29,32,36,40,45,48,52,56,61,66,70,74,76]) [19] [1,2,3,4] λ_=>?_;refine J.qp (b2Z t S.t hb hl l S.T S.op) [3,4] λ_=>?_;refine J.qp (a2r t S.t hb hl S.pick) [3] λ_=>?_;refine J.qp (a1n (S.t.mask S.pick)) [] λ_=>?_;refine J.qr [1,2,3,4] λ_=>?_;exact⟨by unfold Dv.slots;rw[i7 (by rw[h1];decide)],rfl⟩
theorem b1L (p n t l:Nat) (S:Dv) (hb:S.t.b<=1000) (hl:S.t.l.length=S.t.b):FP 218 [pp p] (DvP p n t l S) (Ps (iI (if S.pick<0 then 11 else 0)) (DvP p n t l (if S.pick<0 then S else S.opened))):=by
 refine FE [2] Tryz.func218 λX F hX=>?_;refine J.p (.of [0,4,8,13,16,20,24,29,32,36,40,45,51,52]) [12,13] [1,2,3,4] λ_=>?_;refine J.qp (b2Z t S.t hb hl l S.T S.op) [3,4] λ_=>?_;refine J.qd (λ_ h1=>?_) λ_ h1=>?_
 ·simp only[g7]at h1;have h1:S.pick<0:=h1;refine J.qr [1,2,3,4] λ_=>?_;rw[i9 h1,i9 h1];exact⟨rfl,rfl⟩
 simp only[c9]at h1;have h1:¬S.pick<0:=h1;refine J.qp (a7y t S.t hb hl S.pick false) [3] λ_=>?_;refine J.qp (a2r t (S.t.clean S.pick false) (by unfold Tl.clean;rw[Tl.set_b];exact hb) (by unfold Tl.clean;rw[Tl.set_len,Tl.set_b];exact hl) S.pick) [3] λ_=>?_;refine J.qr [1,2,3,4] λ_=>?_;rw[i7 h1,i7 h1];exact⟨rfl,rfl⟩
theorem b6R (p n t l:Nat) (S:Dv) (hN:S.N.Ok) (hF:S.t.Fit S.N) (f:Int):FP 220 [pp p,iI f] (DvP p n t l S) (Ps (.tuple #[]) (DvP p n t l (S.loses f))):=by
 have hbd:=hN.bd16;refine FE [2,0] Tryz.func220 λX F hX=>?_;refine J.qp (a1s n S.N) [2] λ_=>?_;refine J.q λ_=>?_;refine J.l (α:=(Nat×Dv)) (λz=>z.1<=S.N.dies/\z.2=(List.range z.1).foldl (Dv.lose f) S) (λz=>[si 11 z.1,si 10 S.N.dies,⟨0,pp p,2, .tt⟩,si 1 f]) [1,2,3,4] (λz=>DvP p n t l z.2) (λz=>S.N.dies-z.1) ((0,S)) (⟨n7 _,rfl⟩) λz hI=>?_;obtain⟨k,Q⟩:=z;dsimp only at hI ⊢;obtain⟨hk,hQ⟩:=hI;obtain⟨q1,q2,q3,q4,q5,q6,q7⟩:=Dv.foldl_lose f (List.range k) S hF;rw[<- hQ]at q1 q2 q3 q4 q5 q6 q7;have hlb:Q.t.l.length=Q.t.b:=q6.len;have hbb:Q.t.b<=1000:=by have:=q6.b;omega
 refine J.qd (λ_ h1=>?_) λ_ h1=>?_
 ·simp only[g7,j9]at h1;have hs:(List.range (k+1)).foldl (Dv.lose f) S=Dv.lose f Q k:=by rw[A9,C3,<- hQ];rfl
  refine J.qp (a9E f k) [] λ_=>?_;refine J.qd (λ_ h2=>?_) λ_ h2=>?_
  ·simp only[j7]at h2;have hz:Dv.lose f Q k=Q:=by unfold Dv.lose;rw[i7 (by rw[h2];decide)]
   refine J.q λ_=>?_;refine J.n ((k+1,Q)) (⟨by dsimp only;omega,by dsimp only;rw[hs,hz]⟩) (by dsimp only;omega) [0,1,2,3,4]
  simp only[B2]at h2;refine J.qp (a4z n Q.N (by rw[q1];exact hN) k) [2] λ_=>?_;refine J.qd (λ_ h3=>?_) λ_ h3=>?_
  ·have hz:Dv.lose f Q k={Q with t:=Q.t.die k,mask:=L.without Q.mask k}:=by unfold Dv.lose;rw[i9 h2,i9 h3]
   refine J.qp (a4V t Q.t k) [3] λ_=>?_;refine J.qp (a4h Q.mask k) [] λ_=>?_;refine J.q λ_=>?_;refine J.n ((k+1,{Q with t:=Q.t.die k,mask:=L.without Q.mask k})) (⟨by dsimp only;omega,by dsimp only;rw[hs,hz]⟩) (by dsimp only;omega) [0,1,2,3,4]
  ·have hz:Dv.lose f Q k={Q with t:=Q.t.bad k Q.op,mask:=L.without Q.mask k}:=by unfold Dv.lose;rw[i9 h2,i7 (by rw[h3];decide)]
   refine J.p (.of [0,4,8,13,16,20,24,28,33,38]) [] [1,2,4] λ_=>?_;refine J.qp (b2O t Q.t hbb hlb k Q.op) [3] λ_=>?_;refine J.qp (a4h Q.mask k) [] λ_=>?_;refine J.q λ_=>?_;refine J.n ((k+1,{Q with t:=Q.t.bad k Q.op,mask:=L.without Q.mask k})) (⟨by dsimp only;omega,by dsimp only;rw[hs,hz]⟩) (by dsimp only;omega) [0,1,2,3,4]
 ·simp only[c9,j9]at h1;obtain rfl:k=S.N.dies:=by omega
  refine J.q λ_=>?_;refine J.f [1,2,3,4] ?_;exact⟨rfl,by rw[hQ];rfl⟩
theorem a8B:∀(l:List En) (r:List Value) (k:Nat) (x:En),k<l.length->(x5 l++r).take (k*19)++enL x++(x5 l++r).drop (k*19+19)=x5 (l.set k x)++r
 | [],_,_,_,h=>by simp at h
 | y::l,r,0,x,h=>by simp[x5,enL]
 | y::l,r,k+1,x,h=>by
  have:=a8B l r k x (by simpa using h);have hy:(enL y).length=19:=rfl;have e1:x5 (y::l)++r=enL y++(x5 l++r):=by simp[x5]
  have e2:x5 ((y::l).set (k+1) x)++r=enL y++(x5 (l.set k x)++r):=by simp[x5]
  rw[e1,e2,<- this,show(k+1)*19=(enL y).length+k*19 from by omega,T8,show(enL y).length+k*19+19=(enL y).length+(k*19+19)from by omega,<- C0,U7 rfl];simp only[s8]
theorem a0a:∀l:List En,(x5 l).length=l.length*19
 | []=>rfl
 | x::l=>by
  have:=a0a l;have e1:x5 (x::l)=enL x++x5 l:=by simp[x5]
  have hy:(enL x).length=19:=rfl;rw[e1,j6,this,hy,o0];omega
def a8W (p:En->Bool) (l:List En):Int:=match l.findIdx? p with
 | some k=>k
 | none=> -1
theorem a9I {p:En->Bool} {l:List En} {k:Nat} {x:En} (h:l[k]? =some x) (h0:∀i<k,p (l.getD i En.zero)=false) (hp:p x=true):l.findIdx? p=some k:=by
 rw[x6];obtain⟨h1,h2⟩:=List.getElem?_eq_some_iff.1 h;refine⟨h1,by rw[h2];exact hp,λj hj=>?_⟩;have:=h0 j hj;rw[d7,d6 (by omega),m7]at this;simp[this]
theorem a9J {p:En->Bool} {l:List En} (h0:∀i<l.length,p (l.getD i En.zero)=false):l.findIdx? p=none:=by
 rw[D0];intro x hx;obtain⟨i,hi,rfl⟩:=List.mem_iff_getElem.1 hx;have:=h0 i hi
 rwa [d7,d6 hi,m7]at this
theorem b7U (p:En->Bool) (l:List En):decide (a8W p l>=0)=l.any p:=by
 unfold a8W;cases h:l.findIdx? p with
 | none=>
  rw[D0]at h;have:l.any p=false:=by rw[a3e];exactλx hx=>by simp[h x hx]
  rw[this];rfl
 | some k=>
  rw[x6]at h;obtain⟨h1,h2,_⟩:=h;have:l.any p=true:=List.any_eq_true.2 ⟨l[k],H9 _,h2⟩;rw[this];simp
theorem b1l (c:Nat) (cs:List Value) (p:En->Bool) (A:Atom) (hcal:J7 Tryz.prog c=true) (l:List En) (hf:∀x∈l,Fn Tryz.prog c (enV x::cs) [A] (λv As=>v= .bool (p x)/\As=[A]))
  (a:Option Nat) (n cap:Nat) (hl:l.length=n) (hn:n<=4611686018427387904):FP 163 [slv a n cap,fnC c cs] [t7 113 19 a n cap (x5 l),A]
  (λv As=>v=iI (a8W p l)/\As=[t7 113 19 a n cap (x5 l),A]):=by
 refine FE [0,0] Tryz.func163 λX F hX=>?_;refine J.q λ_=>?_;refine J.l (α:=Nat) (λk=>k<=n/\∀i<k,p (l.getD i En.zero)=false) (λk=>[si 8 k,si 7 n,sv 0 (slv a n cap),⟨1,fnC c cs,0, .tt⟩]) [] (λk=>[]) (λk=>n-k) (0) (⟨by omega,by omega⟩) λk hI=>?_;refine J.qd (λ_ h1=>?_) λ_ h1=>?_
 ·simp only[g7,j9]at h1;cases a with
  | none=>
   refine J.know (λh' s=>(s.get (i:=1) rfl).2.1) λhn0=>?_;omega
  | some g=>
   have hk:l[k]? =some (l.getD k En.zero):=by rw[d7,d6 (by omega),m7]
   refine J.q λ_=>?_;refine J.v (enV (l.getD k En.zero)) rfl rfl (λhg a w he hs=>?_) ?_
   ·exact L8 tk rfl rfl he rfl rfl rfl (hs.get (i:=1) rfl) (by rw[show 0+(k:Int).toNat*19=k*19 from by omega];have:=a0i l [] k _ hk;rwa [B4]at this) rfl
   refine J.q λ_=>?_;refine J.call hX hcal (hf (l.getD k En.zero) (x9 hk)) [2] 0 rfl rfl rfl rfl (by(repeat' (first | exact Conj.nil | refine Conj.cons ?_ ?_ | omega | exact hq0 | (simpa using hq0) | (exactλh=>h) | exact rfl | (intro hq;have hq0:=hq;try simp only[j5,n5,g7,j7,c9]at hq) | (simp;done) | (simp;omega) | decide))) rfl rfl (λ_=>rfl) ?_;refine cpq ⟨_,rfl,trivial,?_⟩;refine J.qd (λ_ h2=>?_) λ_ h2=>?_
   ·refine J.qr [1,2] λ_=>?_;exact⟨by rw[a8W,a9I hk hI.2 h2],rfl⟩
   ·refine J.q λ_=>?_;refine J.nx (k+1) (⟨by omega,λi hi=>by
     rcases Nat.lt_succ_iff_lt_or_eq.1 hi with h3 | h3
     ·exact hI.2 i h3
     ·rw[h3];exact h2⟩) (by omega) (λ_ s=>s)
 ·simp only[c9,j9]at h1;refine J.qr [1,2] λ_=>?_;exact⟨by rw[a8W,a9J (λi hi=>hI.2 i (by omega))],rfl⟩
theorem a8C (l:List En):∀u∈x5 l,u.oneCell'=true:=by
 intro u hu;simp only[x5,M2]at hu;obtain⟨s,_,hu⟩:=hu;simp only[enL,J0,V6,a5G]at hu;rcases hu with rfl | rfl | rfl | rfl | rfl | rfl | rfl | rfl | rfl | rfl | rfl | rfl | rfl | rfl | rfl | rfl | rfl | rfl | rfl<;>rfl
def DelE (p:En->Bool) (l m:List En) (i j:Nat):Prop:=m.length=l.length/\i<j/\j<=l.length/\m.drop j=l.drop j/\m.take i++(l.drop j).filter (λx=>!p x)=l.filter (λx=>!p x)
theorem DelE.start {p:En->Bool} {l:List En} {k:Nat} (h:l.findIdx? p=some k):DelE p l l k (k+1):=by
 rw[x6]at h;obtain⟨h1,h2,h3⟩:=h;refine⟨rfl,by omega,by omega,rfl,?_⟩;have e:l=l.take k++l[k]::l.drop (k+1):=by rw[<- y7 h1,D5]
 have e2:(l.take k).filter (λx=>!p x)=l.take k:=by
  rw[U3];intro x hx;obtain⟨i,hi,rfl⟩:=List.mem_iff_getElem.1 hx;rw[a0e];have:=h3 i (by simp at hi;omega);simpa using this
 conv=>rhs;rw[e]
 rw[S8,e2,T7 (by simp[h2])]
theorem DelE.skip {p:En->Bool} {l m:List En} {i j:Nat} (h:DelE p l m i j) (hj:j<l.length) (hp:p (m.getD j En.zero)=true):DelE p l m i (j+1):=by
 obtain⟨h1,h2,h3,h4,h5⟩:=h;have e1:m[j]? =l[j]?:=by have:=congrArg (λz=>z[0]?) h4;simpa using this
 have hx:l[j]=m.getD j En.zero:=by rw[d7,e1,d6 hj,m7]
 refine⟨h1,by omega,by omega,?_,?_⟩
 ·have:=congrArg (List.drop 1) h4;simpa[C0]using this
 ·rw[<- h5,y7 hj,T7 (by rw[hx,hp];simp)]
theorem DelE.keep {p:En->Bool} {l m:List En} {i j:Nat} (h:DelE p l m i j) (hj:j<l.length) (hp:p (m.getD j En.zero)=false):DelE p l (m.set i (m.getD j En.zero)) (i+1) (j+1):=by
 obtain⟨h1,h2,h3,h4,h5⟩:=h;have e1:m[j]? =l[j]?:=by have:=congrArg (λz=>z[0]?) h4;simpa using this
 have hx:l[j]=m.getD j En.zero:=by rw[d7,e1,d6 hj,m7]
 refine⟨by simp[h1],by omega,by omega,?_,?_⟩
 ·rw[List.drop_set_of_lt (by omega)];have:=congrArg (List.drop 1) h4;simpa[C0]using this
 ·rw[<- h5,y7 hj,a2I (by rw[hx,hp];simp),hx,a3Z,D6,d6 (by omega)];rw[R1 _ _ (by simp;omega)];simp[n9,O1 (show i<=m.length by omega)]
theorem a9c (c:Nat) (cs:List Value) (p:En->Bool) (A:Atom) (hcal:J7 Tryz.prog c=true) (hf:∀x,Fn Tryz.prog c (enV x::cs) [A] (λv As=>v= .bool (p x)/\As=[A]))
  (a:Option Nat) (n cap:Nat) (l:List En) (hl:l.length=n) (hn:n<=4611686018427387904):FP 184 [slv a n cap,fnC c cs] [t7 113 19 a n cap (x5 l),A]
  (λv As=>∃l',l'=l.filter (λx=>!p x)/\v=slv a l'.length cap/\As=[t7 113 19 a l'.length cap (x5 l'),A]):=by
 refine FE [0,0] Tryz.func184 λX F hX=>?_;refine J.qp (b1l c cs p A hcal l (λx _=>hf x) a n cap hl hn) [1,2] λ_=>?_;rw[a8W];cases hx:l.findIdx? p with
 | none=>
  dsimp only;refine J.qT λ_=>?_;refine J.qr [1,2] λ_=>?_;have:l.filter (λx=>!p x)=l:=by
   rw[U3];intro x hm;rw[D0]at hx;simp[hx x hm]
  exact⟨l,this.symm,by rw[hl],by rw[hl];rfl⟩
 | some k=>
  dsimp only;refine J.qd (λ_ h0=>?_) λ_ h0=>?_
  ·simp only[A8]at h0;omega
  have hk:k<n:=by rw[x6]at hx;obtain⟨h1,_⟩:=hx;omega
  cases a with
  | none=>
   refine J.know (λh' s=>(s.get (i:=1) rfl).2.1) λhn0=>?_;omega
  | some g=>
   refine J.openOwn 1 rfl rfl (λ_=>rfl) λr q1 q2 q3 q4=>?_;refine J.q λ_=>?_;rw[show(k:Int)+1=((k+1:Nat):Int)from by omega];refine J.q λ_=>?_;refine J.l (α:=(Nat×Nat×List En)) (λx=>DelE p l x.2.2 x.1 x.2.1) (λx=>[si 6 x.2.1,si 5 x.1,sv 0 (slv (some g) n cap),⟨1,fnC c cs,0, .tt⟩]) [1] (λx=>[.pt g 113 (x5 x.2.2++r)]) (λx=>n-x.2.1) ((k,k+1,l)) (DelE.start hx) λx hI=>?_;obtain⟨i,j,m⟩:=x;dsimp only at hI ⊢;have hml:m.length=n:=hI.1.trans hl;have hij:i<j:=hI.2.1;have hjn:j<=n:=by have:=hI.2.2.1;omega
   refine J.qd (λ_ h1=>?_) λ_ h1=>?_
   ·simp only[g7,j9]at h1;have hget:m[j]? =some (m.getD j En.zero):=by rw[d7,d6 (by omega),m7]
    refine J.q λ_=>?_;refine J.v (enV (m.getD j En.zero)) rfl rfl (λhg a w he hs=>?_) ?_
    ·exact I6 tk rfl rfl he rfl rfl rfl (hs.get (i:=1) rfl) (by rw[show 0+(j:Int).toNat*19=j*19 from by omega];exact a0i m r _ _ hget) rfl
    refine J.q λ_=>?_;refine J.call hX hcal (hf (m.getD j En.zero)) [2] 0 rfl rfl rfl rfl (by(repeat' (first | exact Conj.nil | refine Conj.cons ?_ ?_ | omega | exact hq0 | (simpa using hq0) | (exactλh=>h) | exact rfl | (intro hq;have hq0:=hq;try simp only[j5,n5,g7,j7,c9]at hq) | (simp;done) | (simp;omega) | decide))) rfl rfl (λ_=>rfl) ?_;refine cpq ⟨_,rfl,trivial,?_⟩;refine J.qd (λ_ h2=>?_) λ_ h2=>?_
    ·simp only[j7]at h2;refine J.q λ_=>?_;refine J.storeN hX tk 1 rfl rfl rfl rfl rfl rfl rfl rfl rfl rfl rfl rfl rfl ?_ (x5 (m.set i (m.getD j En.zero))++r) ?_ rfl (λ_=>rfl) ⟨trivial,?_⟩
     ·rw[j6,a0a];show 0+(i:Int).toNat*19+19<=_;omega
     ·rw[show 0+(i:Int).toNat*19=i*19 from by omega];exact a8B m r i _ (by omega)
     refine J.q λ_=>?_;refine J.n ((i+1,j+1,m.set i (m.getD j En.zero))) (hI.keep (by omega) h2) (by dsimp only;omega) [0,1,2]
    ·simp only[B2]at h2;refine J.q λ_=>?_;refine J.n ((i,j+1,m)) (hI.skip (by omega) h2) (by dsimp only;omega) [0,1,2]
   ·simp only[c9,j9]at h1;obtain rfl:j=n:=by omega
    have hfil:m.take i=l.filter (λx=>!p x):=by
     have h5:=hI.2.2.2.2;rw[H2 (by omega)]at h5;simpa using h5
    refine J.q λ_=>?_;refine J.clear hX tk 1 rfl rfl rfl rfl rfl rfl rfl rfl rfl rfl rfl ?_ (λ_=>rfl) (λ_=>rfl) λcs' z1 z2=>⟨trivial,?_⟩
    ·rw[j6,a0a];rw[a0a]at q4;show 0+(i:Int).toNat*19+(j-(i:Int).toNat)*19<=_;have:(i:Int).toNat=i:=by omega
     rw[this];omega
    have hilen:(l.filter (λx=>!p x)).length=i:=by rw[<- hfil,n9];omega
    refine J.closeOwn (e:=113) (size:=19) (n:=i) (cap:=cap) (xs:=x5 (l.filter (λx=>!p x))) 1 rfl rfl (by rw[a0a,hilen]) (by omega) q3 (by rw[z1,j6,a0a,hml];rw[a0a,hl]at q4;exact q4) ?_ rfl ?_
    ·have z3:(0+(i:Int).toNat*19)=i*19:=by omega
     rw[z3]at z2;rw[z2,<- hfil];have e:x5 m=x5 (m.take i)++x5 (m.drop i):=by
      conv=>lhs;rw[<- D5 i m]
      simp only[x5,J8]
     rw[e,s8,E7 (by rw[a0a,n9,O1 (by omega)])]
    refine J.qr [1,2] λ_=>?_;exact⟨_,rfl,by rw[hilen];rfl,by rw[hilen];rfl⟩
theorem b8u {E:Env} {n:Nat} {ac:Act} {w:World} {o:Oper} {x y:Operand} {k1 k2 t1 t2:Nat} {g1 g2:G} {a:Option Addr} {m c h:Nat} {kk:IntKind} {hI:Int} (hop:o.op= .slice 103 x none (some y) none) (hx:ev E x=some ⟨k1, .slice a m c,t1,g1⟩) (hy:ev E y=some ⟨k2, .int kk hI,t2,g2⟩) (he:EnvOK n E ac) (v1:g1.on=true) (v2:g2.on=true) (hh:hI=(h:Int)) (hc:h<=c):
  (execOp ac.eval o).run Tryz.prog w= .ok (.value (.slice a h c)) w:=by
 subst hh;have e1:=C6 he hx;have e2:=C6 he hy;simp only[Slot.val,v1,v2]at e1 e2;obtain⟨d,f,zv,ok⟩:=B8 (tk.get (t:=103) rfl);obtain⟨fe,rfl,g1,g2⟩:=ok.slice rfl;have h0:∀ad:Addr,ad.add 0=ad:=λad=>by unfold Addr.add;rw[i9 rfl]
 cases a with
 | none=>
  simp only[execOp,hop,C9,O0,e1,e2,Instr.sliceAt,Instr.slice,Instr.sliceBounds,Instr.sliceBound,asIntOf,Sem.run_bind,Sem.run_pure,Result.andThen_ok,x8 ok.hd,J2 g1,g2];simp[hc,h0]
 | some ad=>
  simp only[execOp,hop,C9,O0,e1,e2,Instr.sliceAt,Instr.slice,Instr.sliceBounds,Instr.sliceBound,asIntOf,Sem.run_bind,Sem.run_pure,Result.andThen_ok,x8 ok.hd,J2 g1,g2];simp[hc,h0]
theorem a0R {e size:Nat} {a:Option Nat} {n cap:Nat} {xs:List Value} {h:Hl} (s:a1d e size a n cap xs h):n<=cap:=by
 obtain⟨_,s⟩:=s;cases a with
 | none=>obtain⟨rfl,rfl⟩:=s;exact m9 _
 | some g=>obtain⟨_,_,h,_⟩:=s;exact h
theorem a3s (l:List En):∀k,(x5 l).take (k*19)=x5 (l.take k):=by
 induction l with
 | nil=>intro k;simp[x5]
 | cons x l ih=>
  intro k;cases k with
  | zero=>simp[x5]
  | succ k=>
   have e1:x5 (x::l)=enL x++x5 l:=by simp[x5]
   have e2:x5 (x::l.take k)=enL x++x5 (l.take k):=by simp[x5]
   rw[e1,a4L,e2,<- ih k,show(k+1)*19=(enL x).length+k*19 from by show _=19+k*19;omega,T8]
theorem a0H (l:List En) (e:En):x5 l++enL e=x5 (l++[e]):=by simp[x5]
theorem b5Z (a:Option Nat) (N cap cap2 k:Nat) (l:List En) (hl:l.length=N) (hk:k<=N) (hn:N<=1000000):FP 186 [slv a k cap2] [t7 113 19 a N cap (x5 l)]
  (λv As=>∃a' c',v=slv a' k c'/\As=[t7 113 19 a N cap (x5 l),t7 113 19 a' k c' (x5 (l.take k))]):=by
 refine FE [0] Tryz.func186 λX F hX=>?_;cases a with
 | none=>
  refine J.know (λh' s=>(s.get (i:=1) rfl).2) λhn0=>?_;obtain⟨rfl,rfl⟩:=hn0;obtain rfl:k=0:=by omega
  have:l=[]:=p6 hl;subst this;refine J.qT λ_=>?_;refine J.turn1 [] rfl (As:=[t7 113 19 none 0 0 (x5 [])]) (λh s=>Sep.one ⟨rfl,rfl,rfl⟩) rfl ?_;refine J.qr [1,2] λ_=>?_;exact⟨none,0,rfl,rfl⟩
 | some g=>
  refine J.qF λ_=>?_;refine J.qn 5 λbb=>?_;refine J.closeOwn (e:=113) (size:=19) (n:=0) (cap:=0) (xs:=[]) 2 rfl rfl rfl (m9 _) (n7 _) rfl rfl rfl ?_;refine J.q λ_=>?_;have hRd:Rd (t7 113 19 (some g) N cap (x5 l)) (some ⟨g,0,none⟩) 19 k (x5 (l.take k)):=by
   have:=(Z5 113 19 (some g) N cap (x5 l)).take k hk
   rwa [a3s]at this
  refine J.appendR hX tk (a:=some (bb 0)) (n:=0) (cap:=0) (xs:=[]) (oo:=0) (Ay:=t7 113 19 (some g) N cap (x5 l)) 2 1 0 rfl rfl rfl rfl rfl rfl rfl rfl rfl rfl hRd rfl rfl rfl rfl (a8C _) ?_ ?_ (λ_=>rfl) λa' c'=>⟨_,rfl,trivial,?_⟩
  ·simp only[maxLen];omega
  ·omega
  rw[I3 k,R6];refine J.qr [1,2] λ_=>?_;exact⟨a',c',rfl,rfl⟩
theorem b5V (c:Nat) (cs:List Value) (p:En->Bool) (A B:Atom) (hcal:J7 Tryz.prog c=true) (l:List En) (hf:∀x∈l,Fn Tryz.prog c (enV x::cs) [A] (Ps (.bool (p x)) [A]))
  (a:Option Addr) (n cap:Nat) (hB:Rd B a 19 n (x5 l)) (hl:l.length=n) (hn:n<=4611686018427387904):FP 163 [.slice a n cap,fnC c cs] [B,A]
  (Ps (iI (a8W p l)) [B,A]):=by
 refine FE [0,0] Tryz.func163 λX F hX=>?_;refine J.q λ_=>?_;refine J.l (α:=Nat) (λk=>k<=n/\∀i<k,p (l.getD i En.zero)=false) (λk=>[si 8 k,si 7 n,sv 0 (.slice a n cap),⟨1,fnC c cs,0, .tt⟩]) [] (λk=>[]) (λk=>n-k) (0) (⟨by omega,by omega⟩) λk hI=>?_;refine J.qd (λ_ h1=>?_) λ_ h1=>?_
 ·simp only[g7,j9]at h1;refine J.know (p:=∃g o,a=some ⟨g,o,none⟩) (λh' s=>Rd.addr (hB _ (s.get (i:=1) rfl)) (by omega)) λhk=>?_;obtain⟨g,o,rfl⟩:=hk;have hk:l[k]? =some (l.getD k En.zero):=by rw[d7,d6 (by omega),m7]
  refine J.q λ_=>?_;refine J.v (enV (l.getD k En.zero)) rfl rfl (λhg a w he hs=>?_) ?_
  ·exact a4c tk rfl rfl he rfl rfl rfl (hB _ (hs.get (i:=1) rfl)) (by omega) (j:=k*19) (by omega) (by have:=a0i l [] k _ hk;rwa [B4]at this) rfl
  refine J.q λ_=>?_;refine J.call hX hcal (hf (l.getD k En.zero) (x9 hk)) [2] 0 rfl rfl rfl rfl (by(repeat' (first | exact Conj.nil | refine Conj.cons ?_ ?_ | omega | exact hq0 | (simpa using hq0) | (exactλh=>h) | exact rfl | (intro hq;have hq0:=hq;try simp only[j5,n5,g7,j7,c9]at hq) | (simp;done) | (simp;omega) | decide))) rfl rfl (λ_=>rfl) ?_;refine cpq ⟨_,rfl,trivial,?_⟩;refine J.qd (λ_ h2=>?_) λ_ h2=>?_
  ·refine J.qr [1,2] λ_=>?_;exact⟨by rw[a8W,a9I hk hI.2 h2],rfl⟩
  ·refine J.q λ_=>?_;refine J.nx (k+1) (⟨by omega,λi hi=>by
    rcases Nat.lt_succ_iff_lt_or_eq.1 hi with h3 | h3
    ·exact hI.2 i h3
    ·rw[h3];exact h2⟩) (by omega) (λ_ s=>s)
 ·simp only[c9,j9]at h1;refine J.qr [1,2] λ_=>?_;exact⟨by rw[a8W,a9J (λi hi=>hI.2 i (by omega))],rfl⟩
theorem b1o (c:Nat) (cs:List Value) (p:En->Bool) (A B:Atom) (hcal:J7 Tryz.prog c=true) (l:List En) (hf:∀x∈l,Fn Tryz.prog c (enV x::cs) [A] (Ps (.bool (p x)) [A]))
  (a:Option Addr) (n cap:Nat) (hB:Rd B a 19 n (x5 l)) (hl:l.length=n) (hn:n<=4611686018427387904):FP 190 [.slice a n cap,fnC c cs] [B,A]
  (Ps (.bool (l.any p)) [B,A]):=by
 refine FE [0,0] Tryz.func190 λX F hX=>?_;refine J.qp (b5V c cs p A B hcal l hf a n cap hB hl hn) [1,2] λ_=>?_;refine J.qr [1,2] λ_=>?_;exact⟨by rw[<- b7U],rfl⟩
def a1M (d:Nat) (L:List En):Atom:=exA λx:Option Nat×Nat=>[.pt d 219 [slv x.1 L.length x.2],t7 113 19 x.1 L.length x.2 (x5 L)]
theorem c0A:FP 88 [] [] (λv As=>∃d,v=pp d/\As=[a1M d []]):=by
 refine FE [] Tryz.func88 λX F hX=>?_;refine J.q λbs=>?_;refine J.turn1 [] rfl (As:=[t7 113 19 none 0 0 (x5 [])]) (λh s=>Sep.one ⟨rfl,rfl,rfl⟩) rfl ?_;refine J.cl (λx:Option Nat×Nat=>[.pt (bs 0) 219 [slv x.1 ([]:List En).length x.2],t7 113 19 x.1 ([]:List En).length x.2 (x5 [])]) (none,0) [1,2] ?_;refine J.qr [1] λ_=>?_;exact⟨bs 0,rfl,rfl⟩
theorem b2w (d:Nat) (L:List En):FP 100 [pp d] [a1M d L] (Ps (iI L.length) [a1M d L]):=by
 refine FE [2] Tryz.func100 λX F hX=>?_;refine J.o (α:=(Option Nat×Nat)) 1 λx=>?_;refine J.qF λ_=>?_;refine J.q λ_=>?_;refine J.cl (λx:Option Nat×Nat=>[.pt d 219 [slv x.1 L.length x.2],t7 113 19 x.1 L.length x.2 (x5 L)]) x [1,2] ?_;exact J.qx [1]
theorem c1v (b:Nat) (e x:En):FP 185 [enV x,pp b] [.pt b 113 (enL e)] (Ps (.bool (x.lpn==e.lpn)) [.pt b 113 (enL e)]):=by
 refine FE [0,2] Tryz.func185 λX F hX=>?_;exact J.qx [1]
def a0j (L:List En) (e:En):List En:=(L.filter λx=>!(x.lpn==e.lpn))++[e]
theorem b4o (d:Nat) (L:List En) (hL:L.length<=100000) (e:En):FP 120 [pp d,enV e] [a1M d L] (Ps (.tuple #[]) [a1M d (a0j L e)]):=by
 refine FE [2,0] Tryz.func120 λX F hX=>?_;refine J.o (α:=(Option Nat×Nat)) 1 λx=>?_;obtain⟨a,c⟩:=x;refine J.q λbb=>?_;refine J.cF ?_;refine J.qc (a9c 185 [pp (bb 0)] (λx=>x.lpn==e.lpn) (.pt (bb 0) 113 (enL e)) (by kernel_rfl) (λx=>c1v (bb 0) e x) a L.length c L rfl (by omega)) [2,3] λ_=>?_;rintro v As ⟨l',hl',rfl,rfl⟩;refine⟨_,rfl,trivial,?_⟩;have hll:l'.length<=L.length:=by rw[hl'];exact I5 _ _
 have hput:a0j L e=l'++[e]:=by unfold a0j;rw[hl']
 refine J.pq (.of [0,4,8,12,17,21,26,30,32,36,43]) [8,9,10] [1,3] λ_ _=>?_;refine J.ap 2 4 0 (a0H l' e) λa2 c2=>?_;refine J.q λ_=>?_;rw[show l'.length+1=(a0j L e).length from by rw[hput];simp,<- hput];refine J.cl (λx:Option Nat×Nat=>[.pt d 219 [slv x.1 (a0j L e).length x.2],t7 113 19 x.1 (a0j L e).length x.2 (x5 (a0j L e))]) (a2,c2) [1,2] ?_;refine J.q λ_=>?_;refine J.f [1] ?_;exact⟨rfl,rfl⟩
theorem c1w (b:Nat) (k:Int) (x:En):FP 164 [enV x,pp b] [.pt b 3 [iI k]] (Ps (.bool (x.lpn==k)) [.pt b 3 [iI k]]):=by
 refine FE [0,2] Tryz.func164 λX F hX=>?_;exact J.qx [1]
def a1y (L:List En) (k:Int):En×Bool:=match L.find? (λx=>x.lpn==k)with
 | some e=>(e,true)
 | none=>(En.zero,false)
theorem b8j {p:En->Bool} {l:List En} {k:Nat} (h:l.findIdx? p=some k):l.find? p=some (l.getD k En.zero)/\l[k]? =some (l.getD k En.zero):=by
 rw[x6]at h;obtain⟨h1,h2,h3⟩:=h;have e:l[k]? =some (l.getD k En.zero):=by rw[d7,d6 h1,m7]
 refine⟨?_,e⟩;have e2:l.getD k En.zero=l[k]:=by rw[d6 h1]at e;injection e with e;exact e.symm
 rw[List.find?_eq_some_iff_getElem,e2];exact⟨h2,k,h1,rfl,λj hj=>by simpa using h3 j hj⟩
theorem c0B (d:Nat) (L:List En) (hL:L.length<=100000) (k:Int):FP 96 [pp d,iI k] [a1M d L] (Ps (.tuple #[enV (a1y L k).1, .bool (a1y L k).2]) [a1M d L]):=by
 refine FE [2,0] Tryz.func96 λX F hX=>?_;refine J.o (α:=(Option Nat×Nat)) 1 λx=>?_;obtain⟨a,c⟩:=x;refine J.q λbb=>?_;refine J.cF ?_;refine J.q λ_=>?_;refine J.ca hX (by kernel_rfl) (b1l 164 [pp (bb 0)] (λx=>x.lpn==k) (.pt (bb 0) 3 [iI k]) (by kernel_rfl) L (λx _=>c1w (bb 0) k x) a L.length c rfl (by omega)) [2,3] 0 rfl rfl rfl rfl rfl rfl (λ_=>rfl) ?_;refine cpq ⟨_,rfl,trivial,?_⟩;rw[a8W];cases hx:L.findIdx? (λx=>x.lpn==k)with
 | none=>
  dsimp only;refine J.qT λ_=>?_;refine J.cl (λx:Option Nat×Nat=>[.pt d 219 [slv x.1 L.length x.2],t7 113 19 x.1 L.length x.2 (x5 L)]) (a,c) [1,2] ?_;refine J.qr [1] λ_=>?_;have:a1y L k=(En.zero,false):=by
   unfold a1y;rw[List.find?_eq_none.2 (λx hm=>by rw[D0]at hx;simp[hx x hm])]
  rw[this];exact⟨rfl,rfl⟩
 | some i=>
  dsimp only;obtain⟨f1,f2⟩:=b8j hx;have hi:i<L.length:=(List.getElem?_eq_some_iff.1 f2).1;refine J.qd (λ_ h0=>?_) λ_ h0=>?_
  ·simp only[g7]at h0;omega
  cases a with
  | none=>
   refine J.know (λh' s=>(s.get (i:=2) rfl).2.1) λhn0=>?_;omega
  | some g=>
   refine J.q λ_=>?_;refine J.v (enV (L.getD i En.zero)) rfl rfl (λhg a w he hs=>?_) ?_
   ·exact L8 tk rfl rfl he rfl rfl rfl (hs.get (i:=2) rfl) (by rw[show 0+(i:Int).toNat*19=i*19 from by omega];have:=a0i L [] i _ f2;rwa [B4]at this) rfl
   refine J.cl (λx:Option Nat×Nat=>[.pt d 219 [slv x.1 L.length x.2],t7 113 19 x.1 L.length x.2 (x5 L)]) (some g,c) [1,2] ?_;refine J.qr [1] λ_=>?_;have:a1y L k=(L.getD i En.zero,true):=by
    unfold a1y;rw[f1]
   rw[this];exact⟨rfl,rfl⟩
def dkN (L:List En) (n:Int):Nat:=min n.toNat L.length
theorem b4p (d:Nat) (L:List En) (hL:L.length<=100000) (n:Int):FP 121 [pp d,iI n] [a1M d L] (λv As=>∃a' c',v=slv a' (dkN L n) c'/\As=[a1M d L,t7 113 19 a' (dkN L n) c' (x5 (L.take (dkN L n)))]):=by
 refine FE [2,0] Tryz.func121 λX F hX=>?_;refine J.o (α:=(Option Nat×Nat)) 1 λx=>?_;obtain⟨a,c⟩:=x;refine J.qF λ_=>?_;refine J.know (λh' s=>a0R (s.get (i:=2) rfl)) λhcap=>?_;dsimp only at hcap;have hmin:(if(L.length:Int)<(if(0:Int)>n then 0 else n)then(L.length:Int)else(if(0:Int)>n then 0 else n))=(dkN L n:Int):=by
  unfold dkN
  by_cases h:(0:Int)>n
  ·simp only[i9 h];rw[i7 (by omega)];omega
  ·simp only[i7 h];split<;>omega
 have hk:dkN L n<=L.length:=Nat.min_le_right _ _;refine J.pn 12 (.of [0,4,8,13,16,20,24,28,32,37,40,44,48,54,56]) [14] [1,2] λ_ _=>?_;refine J.vT (slv a (dkN L n) c) rfl rfl (λhg aa w he hC=>?_) ?_
 ·exact b8u rfl rfl rfl he rfl rfl hmin (by omega)
 refine J.qc (b5Z a L.length c c (dkN L n) L rfl hk (by omega)) [2] λ_=>?_;rintro v As ⟨a',c',rfl,rfl⟩;refine⟨_,rfl,⟨rfl,rfl,trivial⟩,?_⟩;refine J.q λ_=>?_;refine J.cl (λx:Option Nat×Nat=>[.pt d 219 [slv x.1 L.length x.2],t7 113 19 x.1 L.length x.2 (x5 L)]) (a,c) [1,2] ?_;refine J.qr [1,3] λ_=>?_;exact⟨a',c',rfl,rfl⟩
theorem c0h (b be:Nat) (x e:En):FP 191 [enV e,pp b] [.pt b 113 (enL x)] (Ps (.bool (e.lpn==x.lpn&&e.seq==x.seq)) [.pt b 113 (enL x)]):=by
 refine FE [0,2] Tryz.func191 λX F hX=>?_;exact J.qx [1]
theorem c0i (b:Nat) (B:Atom) (al:Option Addr) (nl cl:Nat) (l:List En) (hB:Rd B al 19 nl (x5 l)) (hl:l.length=nl) (hn:nl<=4611686018427387904) (x:En):FP 189 [enV x,pp b] [.pt b 103 [.slice al nl cl],B] (λv As=>v= .bool (l.any λe=>e.lpn==x.lpn&&e.seq==x.seq)/\As=[.pt b 103 [.slice al nl cl],B]):=by
 refine FE [0,2] Tryz.func189 λX F hX=>?_;refine J.q λbb=>?_;refine J.ca hX (by kernel_rfl) (b1o 191 [pp (bb 0)] (λe=>e.lpn==x.lpn&&e.seq==x.seq) (.pt (bb 0) 113 (enL x)) B (by kernel_rfl) l (λe _=>c0h (bb 0) 0 x e) al nl cl hB hl hn) [2,3] 0 rfl rfl rfl rfl rfl rfl (λ_=>rfl) ?_;refine cpq ⟨_,rfl,trivial,?_⟩;exact J.qx [1,2]
def W9 (L l:List En):List En:=L.filter λx=>!(l.any λe=>e.lpn==x.lpn&&e.seq==x.seq)
theorem b8t (d:Nat) (L:List En) (hL:L.length<=100000) (B:Atom) (al:Option Addr) (nl cl:Nat) (l:List En) (hB:Rd B al 19 nl (x5 l)) (hl:l.length=nl) (hn:nl<=4611686018427387904):FP 125 [pp d, .slice al nl cl] [a1M d L,B] (Ps (iI ((L.length:Int)-(W9 L l).length)) [a1M d (W9 L l),B]):=by
 refine FE [2,0] Tryz.func125 λX F hX=>?_;refine J.o (α:=(Option Nat×Nat)) 1 λx=>?_;obtain⟨a,c⟩:=x;refine J.q λbb=>?_;refine J.cF ?_;refine J.q λ_=>?_;refine J.turn1 [4,2] rfl (As:=[.hp (HP.of [.pt (bb 0) 103 [.slice al nl cl],B])]) (λh s=>Sep.hpOf.2 s) rfl ?_;refine J.q λ_=>?_;refine J.ca hX (by kernel_rfl) (a9c 189 [pp (bb 0)] (λx=>l.any λe=>e.lpn==x.lpn&&e.seq==x.seq) _ (by kernel_rfl) (λx=>Fn.pack (c0i (bb 0) B al nl cl l hB hl hn x)) a L.length c L rfl (by omega)) [3,4] 0 rfl rfl rfl rfl rfl rfl (λ_=>rfl) ?_;rintro v As ⟨l',hl',rfl,rfl⟩;refine⟨_,rfl,trivial,?_⟩;have hll:l'.length<=L.length:=by rw[hl'];exact I5 _ _
 have hdn:W9 L l=l':=hl'.symm;refine J.q λ_=>?_;refine J.turn1 [4] rfl (As:=[.pt (bb 0) 103 [.slice al nl cl],B]) (λh s=>Sep.hpOf.1 s) rfl ?_;refine J.cl (λx:Option Nat×Nat=>[.pt d 219 [slv x.1 l'.length x.2],t7 113 19 x.1 l'.length x.2 (x5 l')]) (a,c) [1,3] ?_;refine J.qr [1,5] λ_=>?_;rw[hdn];exact⟨rfl,rfl⟩
end Go.Proofs.YtpakpgkdpofbhaaGreat
