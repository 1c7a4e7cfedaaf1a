/- Helpers. No condition. -/
import Derived.Test.YtpakpgkdpofbhaaGreatE00
import Derived.Test.YtpakpgkdpofbhaaGreatE05
import Derived.Test.YtpakpgkdpofbhaaGreatE09
import Derived.Test.YtpakpgkdpofbhaaGreatE10
set_option maxRecDepth 20000
set_option linter.all false
namespace Go.Proofs.YtpakpgkdpofbhaaGreat
open Go Go.RowKit
theorem b3j {l:List En} {next:Int} {n:Nat} {e:En} (h:e∈Dv.num l next n):(∃i,i<l.length/\i<n/\e={l.getD i En.zero with seq:=next+i})\/e=En.pad:=by
 simp only[Dv.num,O4,I4]at h;obtain⟨i,hi,rfl⟩:=h;unfold Dv.numAt;split
 ·rename_i h;exact .inl ⟨i,h,hi,rfl⟩
 ·exact .inr rfl
theorem b8U {l:List En} {next:Int} {n k:Nat} (hk:k<n):(Dv.num l next n).getD k En.zero=Dv.numAt l next k:=by
 unfold Dv.num;rw[f9,j5,I8 hk];rfl
theorem X3 {l:List En} {i:Nat} (h:i<l.length):l.getD i En.zero∈l:=by
 rw[f9,d6 h];exact E6 _
namespace Inv
variable {fd : Int} {S : Dv} {k m : Nat} {l : List En}
theorem opn (h:Inv fd S) (hl:S.left=true):Opn fd S:=by
 rcases h.op with e | e
 ·have:=Dv.left_spec hl;omega
 ·exact e
theorem rowIs (h:Inv fd S) (hO:S.Ok k m) (hl:S.left=true) (hf:∀e∈l,FitR e) (hn:¬S.next>1099511627775-(S.fit l:Int)+1):RowIs S.N S.op S.row S.mask (S.es l):=by
 have ho:=h.opn hl;have hs:=Dv.left_spec hl;have hg:=hO.gd.ok.bd16;have hx:=hO.next;obtain⟨m1,m2,m3,m4⟩:=ho.mask.slots hg.1;have hrow:=ho.row;have hblk:=ho.blk;refine⟨hg.1.2,ho.blk,⟨hrow.1,hs.2.1⟩,⟨m3,m4⟩,Dv.num_data (λe he=>(hf e he).len) _ _,?_⟩;unfold W.parB;have h1:decide (((S.es l).length:Int)=G.slots S.mask)=true:=by rw[Dv.es_len];exact i9 (by omega)
 have h2:(!(S.es l).isEmpty)=true:=by
  cases he:S.es l with
  | nil=>have:=Dv.es_len S l;rw[he]at this;simp at this;omega
  | cons x y=>rfl
 rw[h1,h2,s7,s7,D6];intro e he;rcases b3j he with⟨i,hi,hin,rfl⟩ | rfl
 ·have hfe:=hf _ (X3 hi);refine b9T ⟨hblk.1,by omega⟩ ⟨hrow.1,by omega⟩ m2 ⟨?_,?_⟩ (.inl ⟨hfe.lpn,hfe.role,hfe.len⟩)
  ·show 0<=S.next+(i:Int);omega
  ·show S.next+(i:Int)<=1099511627775;have:i<S.fit l:=by unfold Dv.fit;omega
   omega
 ·exact b9T ⟨hblk.1,by omega⟩ ⟨hrow.1,by omega⟩ m2 ⟨by decide,by decide⟩ (.inr rfl)
theorem fails_no (h:Inv fd S) {b r:Int} {d:Nat} (hd:(d:Int)≠fd):S.N.failB b r d=false/\S.N.fails d b r=false:=by
 have e1:=h.dead d hd;have e2:=(h.flags d b.toNat hd).1;have e3:S.N.fails d b r=false:=by
  unfold Nand.fails;rw[j4,e2,a6G];refine s8 λhm=>?_;exact hd (h.plan _ hm)
 refine⟨?_,e3⟩;unfold Nand.failB;rw[e3,a6G,j4,e1]
structure Turn (fd:Int) (S:Dv) (l:List En):Prop where
 inv:Inv fd (S.wrote l)
 full:Full fd (S.wrote l).N S.op S.row S.mask (S.es l)
 err:(S.wr l).2.2=if(S.wr l).2.1=0 then 0 else 7
 set:L.set (S.wr l).2.1=true
 only:∀d:Int,L.has (S.wr l).2.1 d=true->d=fd/\L.has S.mask fd=true
 fail:∀d:Nat,L.has S.mask (d:Nat)=true->L.has (S.wr l).2.1 (d:Nat)=S.N.failB S.op S.row d
 dead:(S.wrote l).N.dead=S.N.dead
 broken:(S.wrote l).N.broken=S.N.broken
 like:S.N.Like (S.wrote l).N
 plan:∀a∈(S.wrote l).N.plan,a∈S.N.plan
 rest:∀i j,j≠S.op.toNat->(S.wrote l).N.blk i j=S.N.blk i j
 flags:∀i j,((S.wrote l).N.blk i j).met=(S.N.blk i j).met/\((S.wrote l).N.blk i j).fails=(S.N.blk i j).fails/\((S.wrote l).N.blk i j).worn=(S.N.blk i j).worn
 ops:(S.wrote l).N.ops=S.N.ops+(((R.job S.op S.row S.mask (S.es l)).filter λx=>!S.N.dead.getD x.1.toNat false).length:Int)
theorem turn (h:Inv fd S) (hO:S.Ok k m) (hl:S.left=true) (hf:∀e∈l,FitR e) (hn:¬S.next>1099511627775-(S.fit l:Int)+1):Turn fd S l:=by
 have ho:=h.opn hl;have hs:=Dv.left_spec hl;have hg:=hO.gd.ok.bd16;have hR:=h.rowIs hO hl hf hn;have hrdy:RdyW S.N S.op S.row S.mask:=⟨h.lit,λd hd ha=>(ho.cells d hd).2 ha⟩;have hq:=hrdy.rdy hR;obtain⟨w1,w2,w3⟩:=a2v hrdy hR;have hin:=hR.inn;have hq8:∀x∈R.job S.op S.row S.mask (S.es l),0<=x.1/\x.1<8:=λx hx=>by have:=hin x hx;omega
 obtain⟨f1,f2⟩:=a5B (N:=S.N) (b:=S.op) (r:=S.row) _ 0 (by decide) hq8;have w3:WroteR S.N (S.wrote l).N S.op S.row (R.job S.op S.row S.mask (S.es l)):=w3;have w1:(S.wr l).2.1=Z9 S.N S.op S.row (R.job S.op S.row S.mask (S.es l)) 0:=w1;have w2:(S.wr l).2.2=if Z9 S.N S.op S.row (R.job S.op S.row S.mask (S.es l)) 0=0 then 0 else 7:=w2
 have hfail:∀d:Nat,L.has S.mask (d:Nat)=true->L.has (S.wr l).2.1 (d:Nat)=S.N.failB S.op S.row d:=λd hd=>by
  rw[w1,f2,L.has_zero,C0,a1L,a0c];constructor
  ·rintro⟨x,hx,hh⟩;simp only[i4,d7]at hh;rw[<- hh.1];exact hh.2
  ·intro hh;obtain⟨x,hx,hxd⟩:=hR.on hd;exact⟨x,hx,by rw[hxd,hh];simp⟩
 have honly:∀d:Int,L.has (S.wr l).2.1 d=true->d=fd/\L.has S.mask fd=true:=λd hd=>by
  rw[w1,f2,L.has_zero,C0,a0c]at hd;obtain⟨x,hx,hh⟩:=hd;simp only[i4,d7]at hh;have hxi:=hin x hx;obtain⟨e,he⟩:=i6 hxi.1
  by_cases hne:(e:Int)=fd
  ·rw[<- hne,<- he];exact⟨hh.1.symm,hxi.2.2⟩
  ·have:=(h.fails_no (b:=S.op) (r:=S.row) hne).1;rw[<- he,hh.2]at this;cases this
 have hrow:=ho.row;have hblk:=ho.blk;have hcells:∀d:Nat,L.has S.mask (d:Nat)=true->(((S.wrote l).N.blk d S.op.toNat).cells.length:Int)<=S.row+1/\(S.N.dead.getD d false=false->(((S.wrote l).N.blk d S.op.toNat).cells.length:Int)=S.row+1):=λd hd=>by
  obtain⟨x,hx,hxd⟩:=hR.on hd;have hc:=w3.cells x hx;have ho2:=ho.cells d hd;rw[hxd,j4]at hc;rw[hc];cases hdd:S.N.dead.getD d false with
  | true=>rw[i3 rfl];exact⟨by omega,λe=>by cases e⟩
  | false=>
   rw[g7 m6,i5];have:=ho2.2 hdd;simp only[n4,a3N];exact⟨by omega,λ_=>by omega⟩
 have hfull:Full fd (S.wrote l).N S.op S.row S.mask (S.es l):=by
  refine⟨hR.like w3.like,λx hx hne=>?_,λx hx c hc=>?_⟩
  ·have hxi:=hin x hx;obtain⟨e,he⟩:=i6 hxi.1;have hc:=w3.cells x hx;have hne':(e:Int)≠fd:=by rw[<- he];exact hne
   have hxm:=hxi.2.2;rw[he]at hxm;have hlen:=(ho.cells e hxm).2 (h.dead e hne');rw[he,j4,h.dead e hne',g7 m6,(h.fails_no (b:=S.op) (r:=S.row) hne').2]at hc;refine⟨false,?_⟩;unfold Nand.pageAt;rw[he,j4,hc,B8 (by omega),show S.row.toNat-(S.N.blk e S.op.toNat).cells.length=0 from by omega];rfl
  ·have hxi:=hin x hx;obtain⟨e,he⟩:=i6 hxi.1;have hxm:=hxi.2.2;have hcc:=w3.cells x hx;unfold Nand.pageAt at hc;rw[hcc]at hc;rw[he]at hxm;have hlen:=ho.cells e hxm;rw[he,j4]at hc;cases hdd:S.N.dead.getD e false with
   | true=>
    rw[hdd,i3 rfl,j9 (by omega)]at hc;cases hc
   | false=>
    have:=hlen.2 hdd;rw[hdd,g7 m6,B8 (by omega),show S.row.toNat-(S.N.blk e S.op.toNat).cells.length=0 from by omega]at hc;simp only[R0,m7]at hc;subst hc;exact .inr (.inl rfl)
 refine⟨⟨w3.lit,λi hi=>by rw[w3.dead];exact h.dead i hi,λa ha=>h.plan a (w3.plan a ha),λi j hi=>by have:=w3.flags i j;rw[this.1,this.2.1];exact h.flags i j hi,h.tdead,h.tbad, .inr ⟨by rw[show(S.wrote l).N.blocks=S.N.blocks from w3.like.blocks];exact ho.blk,ho.used,by rw[show(S.wrote l).N.pages=S.N.pages from w3.like.pages];show 0<=S.row+1/\S.row+1<=_;omega,by rw[show(S.wrote l).N.dies=S.N.dies from w3.like.dies];exact ho.mask,λd hd=>by rw[w3.dead];exact hcells d hd⟩,λb hb hu d hd=>?_,λi a ha=>?_⟩,hfull,by rw[w2,w1],by rw[w1];exact f1,honly,hfail,w3.dead,w3.broken,w3.like,w3.plan,λi j hj=>w3.rest i j (.inl hj),w3.flags,w3.ops⟩
 ·have hbi:=Tl.has_iff.1 hb;have hne:b≠S.op:=λe=>by rw[e]at hu;have:=ho.used;rw[show(S.wrote l).t=S.t from rfl]at hu;rw[hu]at this;cases this
  rw[w3.rest _ _ (.inl (by omega))];exact h.blank b hb hu d hd
 ·have hst:=h.st i a ha;obtain⟨lr,g1,g2,g3,g4,g5,g6⟩:=hst.row;refine⟨⟨lr,g1.keep w3.like λx hx=>w3.page hq (g1.is.inn x hx).1 g1.is.blk.1 g1.is.row.1 (λe=>by have:=hst.below e;omega),g2,g3,g4,g5,g6⟩,hst.used,λe=>by have:=hst.below e;show a.row<S.row+1;omega,?_⟩;have:=hst.seq;show 1<=a.seq/\a.seq<S.next+(S.fit l:Int);omega
theorem put (h:Inv fd S) {b r mk:Int} {es:List En} (hfull:Full fd S.N b r mk es) (hu:(S.t.at_ b).used=true) (hbel:b=S.op->r<S.row) {n:Nat} (hn:n<es.length) (hs:1<=(es.getD n En.zero).seq/\(es.getD n En.zero).seq<S.next):Inv fd {S with T:=S.T.put (es.getD n En.zero) b r n mk}:=by
 refine⟨h.lit,h.dead,h.plan,h.flags,h.tdead,h.tbad,?_,h.blank,λi a ha=>?_⟩
 ·rcases h.op with e | e
  ·exact .inl e
  ·exact .inr ⟨e.blk,e.used,e.row,e.mask,e.cells⟩
 ·have ha:Tb.look (S.T.put (es.getD n En.zero) b r n mk).at_ i=some a:=ha;rw[V.look_put]at ha;split at ha
  ·rename_i hc;injection ha with ha;subst ha;refine⟨⟨es,hfull,a0r n,by show((n:Nat):Int).toNat<_;omega,by show(es.getD ((n:Nat):Int).toNat En.zero).lpn=i;rw[j4];exact hc.2.symm,by show(es.getD ((n:Nat):Int).toNat En.zero).seq=_;rw[j4],by show(es.getD ((n:Nat):Int).toNat En.zero).role=_;rw[j4]⟩,hu,hbel,hs⟩
  ·have:=h.st i a ha;exact⟨this.row,this.used,this.below,this.seq⟩
theorem puts (h:Inv fd S) {b r mk:Int} {es:List En} (hfull:Full fd S.N b r mk es) (hu:(S.t.at_ b).used=true) (hbel:b=S.op->r<S.row) (T:Tb) (hT:S.T=T):∀n,n<=es.length->(∀i,i<n->1<=(es.getD i En.zero).seq/\(es.getD i En.zero).seq<S.next)->Inv fd {S with T:=Dv.puts T b r mk es n}
 | 0,_,_=>by subst hT;exact h
 | n+1,hn,hs=>by
  have ih:=h.puts hfull hu hbel T hT n (by omega) λi hi=>hs i (by omega);rw[Dv.puts_succ];exact put (S:={S with T:=Dv.puts T b r mk es n}) ih hfull hu hbel (by omega) (hs n (by omega))
theorem lose (h:Inv fd S) (hF:S.t.Fit S.N) (hD:S.N.dies<=6) {f:Int} {d:Nat} (hd:d<8) (hf:L.has f (d:Nat)=true->(d:Int)=fd):Inv fd (Dv.lose f S d):=by
 unfold Dv.lose;split
 ·rename_i hh;have hfd:=hf hh;obtain⟨e1,e2,e3⟩:∃t',(if S.N.deadAt d then S.t.die d else S.t.bad d S.op)=t'/\True:=⟨_,rfl,trivial⟩;have key:∀t':Tl,(t'=S.t.die d\/t'=S.t.bad d S.op)->(∀b,t'.has b=S.t.has b)/\t'.d=S.t.d/\(∀b,S.t.has b=true->(t'.at_ b).used=(S.t.at_ b).used)/\(L.set t'.dead=true/\∀d:Int,L.has t'.dead d=true->d=fd)/\(∀b,S.t.has b=true->L.set (t'.at_ b).bad=true/\∀d:Int,L.has (t'.at_ b).bad d=true->d=fd)/\(∀b,S.t.has b=true->∀e:Int,L.has (t'.mask b) e=true->L.has (S.t.mask b) e=true):=by
   intro t' ht;have hSd:S.t.d<=8:=by have:=hF.d;omega
   have h0:∀b,S.t.has b=true->L.set (S.t.mask b)=true/\∀e:Int,L.has (S.t.mask b) e=((decide (0<=e)&&decide (e<S.t.d))&& !L.has S.t.dead e&& !L.has (S.t.at_ b).bad e):=λb hb=>R4 hSd hb h.tdead.1 (h.tbad b hb).1;rcases ht with rfl | rfl
   ·unfold Tl.die;split
    ·have hw:=L.set_with h.tdead.1 (d:=(d:Int)) (by omega);have hwh:=L.with_has h.tdead.1 (d:=(d:Int)) (by omega);refine⟨λb=>rfl,rfl,λb hb=>rfl,⟨hw,λe he=>?_⟩,h.tbad,λb hb e he=>?_⟩
     ·have he:L.has (L.with_ S.t.dead (d:Int)) e=true:=he;rw[hwh]at he;rcases j8 _ _▸he with he | he
      ·exact h.tdead.2 e he
      ·simp only[d7]at he;omega
     ·have hm:=(R4 (t:=⟨S.t.d,S.t.b,S.t.p,S.t.l,L.with_ S.t.dead d⟩) (b:=b) hSd hb hw (h.tbad b hb).1).2 e;rw[hm]at he;rw[(h0 b hb).2 e];simp only[i4,i7]at he ⊢;refine⟨⟨he.1.1,?_⟩,he.2⟩;have he2:=he.1.2;rw[hwh]at he2;exact(Bool.or_eq_false_iff.1 he2).1
    ·exact⟨λb=>rfl,rfl,λb hb=>rfl,h.tdead,h.tbad,λb hb e he=>he⟩
   ·unfold Tl.bad;split
    ·cases hop:S.t.has S.op with
     | false=>
      rw[Tl.set_no _ hop];exact⟨λb=>rfl,rfl,λb hb=>rfl,h.tdead,h.tbad,λb hb e he=>he⟩
     | true=>
      have hb0:=h.tbad S.op hop;have hw:=L.set_with hb0.1 (d:=(d:Int)) (by omega);have hwh:=L.with_has hb0.1 (d:=(d:Int)) (by omega);have hbad:∀b,S.t.has b=true->L.set ((S.t.set S.op {S.t.at_ S.op with bad:=L.with_ (S.t.at_ S.op).bad d}).at_ b).bad=true/\(∀e:Int,L.has ((S.t.set S.op {S.t.at_ S.op with bad:=L.with_ (S.t.at_ S.op).bad d}).at_ b).bad e=true->e=fd)/\(∀e:Int,L.has (S.t.at_ b).bad e=true->L.has ((S.t.set S.op {S.t.at_ S.op with bad:=L.with_ (S.t.at_ S.op).bad d}).at_ b).bad e=true):=λb hb=>by
       rw[Tl.at_set hF.len _ hop hb];split
       ·rename_i e;subst e;dsimp only;refine⟨hw,λe he=>?_,λe he=>?_⟩
        ·rw[hwh]at he;rcases j8 _ _▸he with he | he
         ·exact hb0.2 e he
         ·simp only[d7]at he;omega
        ·rw[hwh,he];rfl
       ·exact⟨(h.tbad b hb).1,(h.tbad b hb).2,λe he=>he⟩
      refine⟨λb=>Tl.has_set _ _ _ _,Tl.set_d _ _ _,λb hb=>?_,by rw[Tl.set_dead];exact h.tdead,λb hb=>⟨(hbad b hb).1,(hbad b hb).2.1⟩,λb hb e he=>?_⟩
      ·rw[Tl.at_set hF.len _ hop hb];split
       ·rename_i e;rw[e]
       ·rfl
      ·have hm:=(R4 (t:=S.t.set S.op {S.t.at_ S.op with bad:=L.with_ (S.t.at_ S.op).bad d}) (b:=b) (by rw[Tl.set_d];exact hSd) (by rw[Tl.has_set];exact hb) (by rw[Tl.set_dead];exact h.tdead.1) (hbad b hb).1).2 e;rw[hm,Tl.set_d,Tl.set_dead]at he;rw[(h0 b hb).2 e];simp only[i4,i7]at he ⊢;refine⟨he.1,?_⟩;cases hx:L.has (S.t.at_ b).bad e with
       | false=>rfl
       | true=>rw[(hbad b hb).2.2 e hx]at he;exact absurd he.2 (by decide)
    ·exact⟨λb=>rfl,rfl,λb hb=>rfl,h.tdead,h.tbad,λb hb e he=>he⟩
  have ht':(if S.N.deadAt d then S.t.die d else S.t.bad d S.op)=S.t.die d\/(if S.N.deadAt d then S.t.die d else S.t.bad d S.op)=S.t.bad d S.op:=by split<;>simp
  obtain⟨k1,k2,k3,k4,k5,k6⟩:=key _ ht';refine⟨h.lit,h.dead,h.plan,h.flags,k4,λb hb=>k5 b (by rw[<- k1];exact hb),?_,λb hb hu e he=>?_,λi a ha=>?_⟩
  ·rcases h.op with e | e
   ·exact .inl e
   ·right;have hhas:S.t.has S.op=true:=Tl.has_iff.2 (by have:=e.blk;have:=hF.b;omega);have hms:=e.mask;have hwo:=L.without_has hms.set (d:=(d:Int)) (by omega);refine⟨e.blk,by show(Tl.at_ _ S.op).used=true;rw[k3 _ hhas];exact e.used,e.row,⟨L.set_without hms.set (by omega),λx hx=>?_,λx hx hne=>?_⟩,λx hx=>?_⟩
    ·rw[hwo]at hx;simp only[i4]at hx;exact hms.lt x hx.1
    ·rw[hwo,hms.all x hx hne];simp;omega
    ·have hx:L.has (L.without S.mask (d:Int)) (x:Nat)=true:=hx;rw[hwo]at hx;simp only[i4]at hx;exact e.cells x hx.1
  ·have hb':S.t.has b=true:=by rw[<- k1];exact hb
   exact h.blank b hb' (by rw[<- k3 b hb'];exact hu) e (k6 b hb' _ he)
  ·have hst:=h.st i a ha;have hhas:S.t.has a.block=true:=by
    obtain⟨lr,g1,_⟩:=hst.row;have:=g1.is.blk;have:=hF.b;exact Tl.has_iff.2 (by omega)
   exact⟨hst.row,by show(Tl.at_ _ a.block).used=true;rw[k3 _ hhas];exact hst.used,hst.below,hst.seq⟩
 ·exact h
theorem loses_q {f:Int} (hf:∀d:Nat,L.has f (d:Nat)=true->(d:Int)=fd):∀(q:List Nat) (S:Dv),Inv fd S->S.t.Fit S.N->S.N.dies<=6->(∀d∈q,d<8)->Inv fd (q.foldl (Dv.lose f) S)
 | [],S,h,_,_,_=>h
 | d::q,S,h,hF,hD,hq=>by
  rw[x9];have hN:=(Dv.lose_N f S d).1;exact loses_q hf q _ (h.lose hF hD (hq d (by simp)) (hf d)) (by rw[hN];exact(Dv.lose_t f S d hF).1) (by rw[hN];exact hD) λe he=>hq e (by simp[he])
theorem loses (h:Inv fd S) (hO:S.Ok k m) {f:Int} (hf:∀d:Nat,L.has f (d:Nat)=true->(d:Int)=fd):Inv fd (S.loses f):=by
 have hg:=hO.gd.ok.bd16;exact loses_q hf _ S h hO.t hg.1.2 λd hd=>by have:=List.mem_range.1 hd;omega
end Inv
def Dv.rows (S:Dv):Nat:=S.N.pages*S.t.blanks+(if S.op>=0 then(S.N.pages-S.row).toNat else 0)
structure NoF (S:Dv):Prop where
 dead:∀i:Nat,S.N.dead.getD i false=false
 plan:S.N.plan=[]
 met:∀i j:Nat,(S.N.blk i j).met=false
 fl:∀i j:Nat,(S.N.blk i j).fails=false
theorem NoF.fails {S:Dv} (h:NoF S) (b r:Int) (d:Nat):S.N.failB b r d=false:=by
 unfold Nand.failB Nand.fails;rw[j4,h.dead,h.plan,h.met];rfl
structure Went (fd:Int) (S Q:Dv) (β:Nat):Prop where
 inv:Inv fd Q
 T:Q.T=S.T
 next:S.next<=Q.next/\Q.next<=S.next+7*(β:Int)
 dead:Q.N.dead=S.N.dead
 broken:Q.N.broken=S.N.broken
 like:S.N.Like Q.N
 plan:∀a∈Q.N.plan,a∈S.N.plan
 flags:∀i j,(Q.N.blk i j).met=(S.N.blk i j).met/\(Q.N.blk i j).fails=(S.N.blk i j).fails/\(Q.N.blk i j).worn=(S.N.blk i j).worn
 rows:Q.rows+β=S.rows
 reads:∀i a,Std fd S i a->R.read Q.N a.block a.row a.slot a.mask=R.read S.N a.block a.row a.slot a.mask
 stay:∀i a,Std fd S i a->Std fd Q i a
 sb:∀b,S.t.has b=true->(Q.t.at_ b).wear=(S.t.at_ b).wear/\(Q.t.at_ b).held=(S.t.at_ b).held/\((S.t.at_ b).used=true->(Q.t.at_ b).used=true)
 td:∀d:Int,L.has S.t.dead d=true->L.has Q.t.dead d=true
namespace Dv
theorem at_dead (S:Dv) (f:Int) (d:Nat):(∀b,(lose f S d).t.has b=S.t.has b):=by
 intro b;unfold lose;split
 ·dsimp only;split
  ·unfold Tl.die;split<;>rfl
  ·unfold Tl.bad;split
   ·exact Tl.has_set _ _ _ _
   ·rfl
 ·rfl
theorem lose_sb {S:Dv} (hF:S.t.Fit S.N) (hd6:S.t.d<=8) (hs:L.set S.t.dead=true) (f:Int) (d:Nat):(∀b,S.t.has b=true->((lose f S d).t.at_ b).wear=(S.t.at_ b).wear/\((lose f S d).t.at_ b).held=(S.t.at_ b).held/\((lose f S d).t.at_ b).used=(S.t.at_ b).used)/\L.set (lose f S d).t.dead=true/\(∀e:Int,L.has S.t.dead e=true->L.has (lose f S d).t.dead e=true)/\(lose f S d).t.d=S.t.d:=by
 unfold lose;split
 ·dsimp only;split
  ·unfold Tl.die;split
   ·rename_i hh;simp only[Tl.hasDie,i4,d7]at hh;refine⟨λb _=>⟨rfl,rfl,rfl⟩,L.set_with hs (by omega),λe he=>?_,rfl⟩;show L.has (L.with_ S.t.dead d) e=true;rw[L.with_has hs (by omega),he];rfl
   ·exact⟨λb _=>⟨rfl,rfl,rfl⟩,hs,λe he=>he,rfl⟩
  ·unfold Tl.bad;split
   ·cases hop:S.t.has S.op with
    | false=>rw[Tl.set_no _ hop];exact⟨λb _=>⟨rfl,rfl,rfl⟩,hs,λe he=>he,rfl⟩
    | true=>
     refine⟨λb hb=>?_,by rw[Tl.set_dead];exact hs,λe he=>by rw[Tl.set_dead];exact he,Tl.set_d _ _ _⟩;rw[Tl.at_set hF.len _ hop hb];split
     ·rename_i e;subst e;exact⟨rfl,rfl,rfl⟩
     ·exact⟨rfl,rfl,rfl⟩
   ·exact⟨λb _=>⟨rfl,rfl,rfl⟩,hs,λe he=>he,rfl⟩
 ·exact⟨λb _=>⟨rfl,rfl,rfl⟩,hs,λe he=>he,rfl⟩
theorem loses_sb {f:Int}:∀(q:List Nat) (S:Dv),S.t.Fit S.N->S.t.d<=8->L.set S.t.dead=true->(∀b,(q.foldl (lose f) S).t.has b=S.t.has b)/\(∀b,S.t.has b=true->((q.foldl (lose f) S).t.at_ b).wear=(S.t.at_ b).wear/\((q.foldl (lose f) S).t.at_ b).held=(S.t.at_ b).held/\((q.foldl (lose f) S).t.at_ b).used=(S.t.at_ b).used)/\(∀e:Int,L.has S.t.dead e=true->L.has (q.foldl (lose f) S).t.dead e=true)
 | [],S,_,_,_=>⟨λ_=>rfl,λ_ _=>⟨rfl,rfl,rfl⟩,λ_ h=>h⟩
 | d::q,S,hF,h8,hs=>by
  obtain⟨a1,a2,a3,a4⟩:=lose_sb hF h8 hs f d;have hN:=(lose_N f S d).1;have ih:=loses_sb (f:=f) q (lose f S d) (by rw[hN];exact(lose_t f S d hF).1) (by rw[a4];exact h8) a2;rw[x9];refine⟨λb=>by rw[ih.1,at_dead],λb hb=>?_,λe he=>ih.2.2 e (a3 e he)⟩;have:=ih.2.1 b (by rw[at_dead];exact hb);rw[this.1,this.2.1,this.2.2];exact a1 b hb
theorem lose_mask {S:Dv} {f:Int} {d:Nat} (hd:d<8) (hm:L.set S.mask=true):L.set (lose f S d).mask=true/\∀e:Int,L.has (lose f S d).mask e=(L.has S.mask e&& !(decide (e=d)&&L.has f (d:Nat))):=by
 unfold lose;cases h:L.has f (d:Nat)with
 | true=>
  rw[i3 rfl];refine⟨L.set_without hm (by omega),λe=>?_⟩;show L.has (L.without S.mask (d:Int)) e=_;rw[L.without_has hm (by omega),Bool.and_true]
 | false=>rw[g7 m6];exact⟨hm,λe=>by simp⟩
theorem loses_mask {f:Int}:∀(q:List Nat) (S:Dv),(∀d∈q,d<8)->L.set S.mask=true->L.set (q.foldl (lose f) S).mask=true/\∀e:Int,L.has (q.foldl (lose f) S).mask e=(L.has S.mask e&& !(q.any λd=>decide (e=(d:Nat))&&L.has f (d:Nat)))
 | [],S,_,hm=>⟨hm,λe=>by simp⟩
 | d::q,S,hq,hm=>by
  obtain⟨a1,a2⟩:=lose_mask (f:=f) (hq d (by simp)) hm;have ih:=loses_mask (f:=f) q (lose f S d) (λe he=>hq e (by simp[he])) a1;rw[x9];refine⟨ih.1,λe=>?_⟩;rw[ih.2,a2,List.any_cons,Bool.not_or,Bool.and_assoc]
end Dv
namespace Inv
variable {fd : Int} {S : Dv} {k m : Nat} {l : List En}
theorem std_same {S Q:Dv} (hN:Q.N=S.N) (hu:∀b,S.t.has b=true->(S.t.at_ b).used=true->(Q.t.at_ b).used=true) (hb:S.t.b=S.N.blocks) (hop:∀a:AtV,(a.block=S.op->a.row<S.row)->(a.block=Q.op->a.row<Q.row)\/(S.t.at_ a.block).used=false) (hn:S.next<=Q.next) {i:Int} {a:AtV} (h:Std fd S i a):Std fd Q i a:=by
 obtain⟨lr,g1,g2⟩:=h.row;have hhas:S.t.has a.block=true:=by
  have:=g1.is.blk;exact Tl.has_iff.2 (by omega)
 have hs:=h.seq;refine⟨⟨lr,by rw[hN];exact g1,g2⟩,hu _ hhas h.used,?_,by omega⟩;rcases hop a h.below with e | e
 ·exact e
 ·rw[h.used]at e;cases e
theorem opens (h:Inv fd S) (hO:S.Ok k m) (hl:S.left=false) (hp:¬S.pick<0):Went fd S S.opened 0/\S.opened.left=true/\S.opened.mask=S.t.mask S.pick:=by
 have hg:=hO.gd.ok.bd16;have hb:=hO.t.b;have hlen:=hO.t.len;rcases S.pick_spec with e | ⟨p1,p2,p3,p4⟩
 ·omega
 have hhas:S.t.has S.pick=true:=Tl.has_iff.2 ⟨p1,p2⟩;have hbl:=Dv.pick_blank hp;have hbl2:=Tl.blanks_open hlen hbl;have hunu:(S.t.at_ S.pick).used=false:=by simp only[Tl.blank,i4,i7]at hbl;exact hbl.2
 have hmk:∀j,(S.t.clean S.pick false).mask j=S.t.mask j:=λj=>Dv.mask_clean hlen _ _ _;have hmsk:=h.msk hO hhas;have hat:∀b,S.t.has b=true->(S.opened.t.at_ b)=if b=S.pick then {S.t.at_ S.pick with used:=true}else S.t.at_ b:=λb hb=>Tl.at_set hlen _ hhas hb
 have hleft:S.opened.left=true:=by
  have:=(hmsk.pos hg.1).1;unfold Dv.left;have e1:S.opened.op=S.pick:=rfl;have e2:S.opened.row=0:=rfl;have e3:S.opened.mask=S.t.mask S.pick:=hmk _;have e4:S.opened.N=S.N:=rfl;rw[e1,e2,e3,e4,i9 (by omega),i9 (by omega),i9 (by omega)];rfl
 have hdd:S.opened.t.dead=S.t.dead:=Tl.set_dead _ _ _;have hhs:∀b,S.opened.t.has b=S.t.has b:=λb=>Tl.has_set _ _ _ _;have hopn:Opn fd S.opened:=⟨⟨p1,by show S.pick<S.N.blocks;omega⟩,by show(S.opened.t.at_ S.pick).used=true;rw[hat _ hhas,i3 rfl],by show(0:Int)<=0/\(0:Int)<=S.N.pages;omega,by show Msk S.N.dies fd (Tl.mask _ _);rw[hmk];exact hmsk,λd hd=>by
  have hd:L.has (Tl.mask (S.t.clean S.pick false) S.pick) (d:Nat)=true:=hd;rw[hmk]at hd;have:=h.blank S.pick hhas hunu d hd;show((S.N.blk d S.pick.toNat).cells.length:Int)<=0/\(_->((S.N.blk d S.pick.toNat).cells.length:Int)=0);rw[this];simp⟩
 have hrow0:S.op>=0->S.N.pages<=S.row:=λh0=>by
  rcases h.op with e | e
  ·omega
  ·have hps:=(e.mask.pos hg.1).1;cases hh:decide (S.row<S.N.pages)with
   | false=>have:=of_decide_eq_false hh;omega
   | true=>
    have:S.left=true:=by
     unfold Dv.left;rw[i9 h0,hh,i9 (by omega)];rfl
    rw[hl]at this;cases this
 have hstd:∀i a,Std fd S i a->Std fd S.opened i a:=λi a ha=>std_same (S:=S) (Q:=S.opened) rfl (λb hb hu=>by
   rw[hat b hb];split
   ·rfl
   ·exact hu) hb (λa _=>by
   by_cases e:a.block=S.pick
   ·right;rw[e];exact hunu
   ·left;intro e2;exact absurd e2 e) (V6 _) ha
 refine⟨⟨⟨h.lit,h.dead,h.plan,h.flags,by rw[hdd];exact h.tdead,λb hb=>?_, .inr hopn,λb hb hu d hd=>?_,λi a ha=>hstd i a (h.st i a ha)⟩,rfl,⟨V6 _,by show S.next<=S.next+_;omega⟩,rfl,rfl,Nand.Like.refl _,λ_ h=>h,λ_ _=>⟨rfl,rfl,rfl⟩,?_,λ_ _ _=>rfl,hstd,λb hb=>?_,λd hd=>by rw[hdd];exact hd⟩,hleft,hmk _⟩
 ·have hb':S.t.has b=true:=by rw[<- hhs];exact hb
  rw[hat b hb'];split
  ·rename_i e;subst e;exact h.tbad _ hhas
  ·exact h.tbad b hb'
 ·have hb':S.t.has b=true:=by rw[<- hhs];exact hb
  have hd:L.has (Tl.mask (S.t.clean S.pick false) b) (d:Nat)=true:=hd;rw[hmk]at hd;rw[hat b hb']at hu;split at hu
  ·cases hu
  ·exact h.blank b hb' hu d hd
 ·unfold Dv.rows;have e1:S.opened.t.blanks=(S.t.clean S.pick false).blanks:=rfl;have e2:S.opened.N.pages=S.N.pages:=rfl;have e3:S.opened.op=S.pick:=rfl;have e4:S.opened.row=0:=rfl;rw[e1,e2,e3,e4,i3 (by omega)];have:S.N.pages*S.t.blanks=S.N.pages*(S.t.clean S.pick false).blanks+S.N.pages:=by rw[<- hbl2,E9]
  rw[this]
  by_cases h0:S.op>=0
  ·have:=hrow0 h0;rw[i3 h0];omega
  ·rw[g7 h0];omega
 ·rw[hat b hb];split
  ·rename_i e;subst e;exact⟨rfl,rfl,λ_=>rfl⟩
  ·exact⟨rfl,rfl,λh=>h⟩
theorem turn_std (h:Inv fd S) (ht:Turn fd S l) (hO:S.Ok k m) (hl:S.left=true) (hf:∀e∈l,FitR e) (hn:¬S.next>1099511627775-(S.fit l:Int)+1) {i:Int} {a:AtV} (ha:Std fd S i a):Std fd (S.wrote l) i a/\R.read (S.wrote l).N a.block a.row a.slot a.mask=R.read S.N a.block a.row a.slot a.mask:=by
 have ho:=h.opn hl;have hR:=h.rowIs hO hl hf hn;have hrdy:RdyW S.N S.op S.row S.mask:=⟨h.lit,λd hd ha=>(ho.cells d hd).2 ha⟩;have hq:=hrdy.rdy hR;have w3:WroteR S.N (S.wrote l).N S.op S.row (R.job S.op S.row S.mask (S.es l)):=(a2v hrdy hR).2.2;obtain⟨lr,g1,g2,g3,g4,g5,g6⟩:=ha.row;have hk:Full fd (S.wrote l).N a.block a.row a.mask lr:=g1.keep w3.like λx hx=>w3.page hq (g1.is.inn x hx).1 g1.is.blk.1 g1.is.row.1 (λe=>by have:=ha.below e;omega);have hs:=ha.seq;refine⟨⟨⟨lr,hk,g2,g3,g4,g5,g6⟩,ha.used,λe=>by have:=ha.below e;show a.row<S.row+1;omega,by show 1<=a.seq/\a.seq<S.next+(S.fit l:Int);omega⟩,?_⟩;have r1:=hk.read ht.inv.lit.off ht.inv.dead g3;have r2:=g1.read h.lit.off h.dead g3;rw[show((a.slot.toNat:Nat):Int)=a.slot from by omega]at r1 r2;rw[r1,r2]
theorem burn (h:Inv fd S) (hO:S.Ok (8+k) m) (hl:S.left=true) (hf:∀e∈l,FitR e) (hn:¬S.next>1099511627775-(S.fit l:Int)+1) (hb:(S.wr l).2.1≠0):Went fd S ((S.wrote l).loses (S.wr l).2.1) 1/\L.has ((S.wrote l).loses (S.wr l).2.1).mask fd=false/\L.has S.mask fd=true/\((S.wrote l).loses (S.wr l).2.1).row=S.row+1/\((S.wrote l).loses (S.wr l).2.1).op=S.op/\S.N.failB S.op S.row fd=true/\∀d:Int,L.has ((S.wrote l).loses (S.wr l).2.1).mask d=true->L.has S.mask d=true:=by
 have hg:=hO.gd.ok.bd16;have ho:=h.opn hl;have hs:=Dv.left_spec hl;have ht:=h.turn hO hl hf hn;have hd:∀s∈l,s.data.length=16:=λe he=>(hf e he).len;have hW:=hO.wrote hd hs.2.1 hn;obtain⟨l1,l2,l3,l4,l5,l6,l7⟩:=Dv.loses_same (S.wrote l) (S.wr l).2.1 hW.t;have hi:=ht.inv.loses hW (f:=(S.wr l).2.1) λd hd=>(ht.only _ hd).1;have hfit:=Dv.fit_le S l;have hq8:∀d∈List.range (S.wrote l).N.dies,d<8:=λd hd=>by
  have:=List.mem_range.1 hd;have:=ht.like.dies;omega
 obtain⟨b1,b2,b3⟩:=Dv.loses_sb (f:=(S.wr l).2.1) (List.range (S.wrote l).N.dies) (S.wrote l) hW.t (by have:=hO.t.d;show S.t.d<=8;omega) h.tdead.1;obtain⟨m1,m2⟩:=Dv.loses_mask (f:=(S.wr l).2.1) (List.range (S.wrote l).N.dies) (S.wrote l) hq8 ho.mask.set;have hex:∃d:Nat,L.has (S.wr l).2.1 (d:Nat)=true:=by
  refine H4 λhno=>hb (L.ext ht.set (by decide) λd _=>?_);rw[L.has_zero];cases hh:L.has (S.wr l).2.1 (d:Nat)with
  | false=>rfl
  | true=>exact absurd ⟨d,hh⟩ hno
 obtain⟨d0,hd0⟩:=hex;obtain⟨o1,o2⟩:=ht.only _ hd0;have hfdlt:=ho.mask.lt _ o2;have hstay:∀i a,Std fd S i a->Std fd ((S.wrote l).loses (S.wr l).2.1) i a:=λi a ha=>by
  have h1:=(h.turn_std ht hO hl hf hn ha).1;refine std_same (S:=S.wrote l) l1 (λb hb hu=>(b2 b hb).2.2.trans hu) hW.t.b (λa ha=> .inl (by rw[l3,l4];exact ha)) (by rw[l5];exact V6 _) h1
 refine⟨⟨hi,l2,?_,by rw[l1];exact ht.dead,by rw[l1];exact ht.broken,by rw[l1];exact ht.like,by rw[l1];exact ht.plan,by rw[l1];exact ht.flags,?_,λi a ha=>by rw[l1];exact(h.turn_std ht hO hl hf hn ha).2,hstay,λb hb=>?_,λd hd=>b3 d hd⟩,?_,o2,l4,l3,?_,λd hd=>?_⟩
 ·rw[l5];show S.next<=S.next+(S.fit l:Int)/\S.next+(S.fit l:Int)<=S.next+7*((1:Nat):Int);omega
 ·unfold Dv.rows;rw[l7,l1,l3,l4];have e1:(S.wrote l).N.pages=S.N.pages:=ht.like.pages;have e2:(S.wrote l).t.blanks=S.t.blanks:=rfl;have e3:(S.wrote l).op=S.op:=rfl;have e4:(S.wrote l).row=S.row+1:=rfl;rw[e1,e2,e3,e4,i3 (by omega),i3 (by omega)];have:=ho.row;omega
 ·have:=b2 b hb;exact⟨this.1,this.2.1,λhu=>this.2.2.trans hu⟩
 ·have e:=m2 fd;show L.has (((List.range (S.wrote l).N.dies).foldl (Dv.lose (S.wr l).2.1) (S.wrote l)).mask) fd=false;rw[e];have:((List.range (S.wrote l).N.dies).any λd=>decide (fd=(d:Nat))&&L.has (S.wr l).2.1 (d:Nat))=true:=by
   refine List.any_eq_true.2 ⟨d0,List.mem_range.2 ?_,by rw[hd0,i9 o1.symm];rfl⟩;have:=ht.like.dies;omega
  rw[this];simp
 ·have h2:=o2;rw[<- o1]at h2;have:=ht.fail d0 h2;rw[<- o1,<- this];exact hd0
 ·have e:=m2 d;have hd:L.has (((List.range (S.wrote l).N.dies).foldl (Dv.lose (S.wr l).2.1) (S.wrote l)).mask) d=true:=hd;rw[e]at hd;simp only[i4]at hd;exact hd.1
end Inv
structure TlMore (fd:Int) (t t':Tl):Prop where
 has:∀b,t'.has b=t.has b
 d:t'.d=t.d
 used:∀b,t.has b=true->(t'.at_ b).used=(t.at_ b).used
 held:∀b,t.has b=true->(t'.at_ b).held=(t.at_ b).held
 tdead:L.set t'.dead=true/\∀d:Int,L.has t'.dead d=true->d=fd
 tbad:∀b,t.has b=true->L.set (t'.at_ b).bad=true/\∀d:Int,L.has (t'.at_ b).bad d=true->d=fd
 mask:∀b,t.has b=true->∀e:Int,L.has (t'.mask b) e=true->L.has (t.mask b) e=true
 td:∀e:Int,L.has t.dead e=true->L.has t'.dead e=true
theorem TlMore.refl {fd:Int} {t:Tl} (h1:L.set t.dead=true/\∀d:Int,L.has t.dead d=true->d=fd) (h2:∀b,t.has b=true->L.set (t.at_ b).bad=true/\∀d:Int,L.has (t.at_ b).bad d=true->d=fd):TlMore fd t t:=
 ⟨λ_=>rfl,rfl,λ_ _=>rfl,λ_ _=>rfl,h1,h2,λ_ _ _ h=>h,λ_ h=>h⟩
theorem TlMore.trans {fd:Int} {a b c:Tl} (h:TlMore fd a b) (g:TlMore fd b c):TlMore fd a c:=
 ⟨λx=>(g.has x).trans (h.has x),g.d.trans h.d,λx hx=>(g.used x (by rw[h.has];exact hx)).trans (h.used x hx),λx hx=>(g.held x (by rw[h.has];exact hx)).trans (h.held x hx),g.tdead,λx hx=>g.tbad x (by rw[h.has];exact hx),λx hx e he=>h.mask x hx e (g.mask x (by rw[h.has];exact hx) e he),λe he=>g.td e (h.td e he)⟩
theorem b6B {fd:Int} {t:Tl} (h8:t.d<=8) (h1:L.set t.dead=true/\∀d:Int,L.has t.dead d=true->d=fd) (h2:∀b,t.has b=true->L.set (t.at_ b).bad=true/\∀d:Int,L.has (t.at_ b).bad d=true->d=fd) {d:Nat} (hd:d<8) (hfd:(d:Int)=fd):TlMore fd t (t.die d)/\(d<t.d->∀b,t.has b=true->L.has ((t.die d).mask b) fd=false):=by
 unfold Tl.die;split
 ·have hw:=L.set_with h1.1 (d:=(d:Int)) (by omega);have hwh:=L.with_has h1.1 (d:=(d:Int)) (by omega);have hmk:∀b,t.has b=true->∀e:Int,L.has (Tl.mask ⟨t.d,t.b,t.p,t.l,L.with_ t.dead d⟩ b) e=((decide (0<=e)&&decide (e<t.d))&& !L.has (L.with_ t.dead (d:Int)) e&& !L.has (t.at_ b).bad e):=λb hb e=>(R4 (t:=⟨t.d,t.b,t.p,t.l,L.with_ t.dead d⟩) (b:=b) h8 hb hw (h2 b hb).1).2 e;refine⟨⟨λb=>rfl,rfl,λb hb=>rfl,λb hb=>rfl,⟨hw,λe he=>?_⟩,h2,λb hb e he=>?_,λe he=>?_⟩,λ_ b hb=>?_⟩
  ·have he:L.has (L.with_ t.dead (d:Int)) e=true:=he;rw[hwh]at he;rcases j8 _ _▸he with he | he
   ·exact h1.2 e he
   ·simp only[d7]at he;omega
  ·rw[hmk b hb,hwh]at he;rw[(R4 h8 hb h1.1 (h2 b hb).1).2];simp only[i4,i7,E8]at he ⊢;exact⟨⟨he.1.1,he.1.2.1⟩,he.2⟩
  ·show L.has (L.with_ t.dead (d:Int)) e=true;rw[hwh,he];rfl
  ·rw[hmk b hb,hwh,i9 hfd.symm];simp
 ·rename_i hh;refine⟨TlMore.refl h1 h2,λhlt=>?_⟩;simp only[Tl.hasDie,i4,d7]at hh;omega
theorem b1h {fd:Int} {t:Tl} (hl:t.l.length=t.b) (h8:t.d<=8) (h1:L.set t.dead=true/\∀d:Int,L.has t.dead d=true->d=fd) (h2:∀b,t.has b=true->L.set (t.at_ b).bad=true/\∀d:Int,L.has (t.at_ b).bad d=true->d=fd) {d:Nat} (hd:d<8) (hfd:(d:Int)=fd) (k:Int):TlMore fd t (t.bad d k)/\(d<t.d->t.has k=true->L.has ((t.bad d k).mask k) fd=false):=by
 unfold Tl.bad;split
 ·cases hop:t.has k with
  | false=>
   rw[Tl.set_no _ hop];exact⟨TlMore.refl h1 h2,λ_ h=>by cases h⟩
  | true=>
   have hb0:=h2 k hop;have hw:=L.set_with hb0.1 (d:=(d:Int)) (by omega);have hwh:=L.with_has hb0.1 (d:=(d:Int)) (by omega);have hat:∀b,t.has b=true->(t.set k {t.at_ k with bad:=L.with_ (t.at_ k).bad d}).at_ b=if b=k then {t.at_ k with bad:=L.with_ (t.at_ k).bad d}else t.at_ b:=λb hb=>Tl.at_set hl _ hop hb
   have hbad:∀b,t.has b=true->L.set ((t.set k {t.at_ k with bad:=L.with_ (t.at_ k).bad d}).at_ b).bad=true/\(∀e:Int,L.has ((t.set k {t.at_ k with bad:=L.with_ (t.at_ k).bad d}).at_ b).bad e=true->e=fd)/\(∀e:Int,L.has (t.at_ b).bad e=true->L.has ((t.set k {t.at_ k with bad:=L.with_ (t.at_ k).bad d}).at_ b).bad e=true):=λb hb=>by
    rw[hat b hb];split
    ·rename_i e;subst e;dsimp only;refine⟨hw,λe he=>?_,λe he=>?_⟩
     ·rw[hwh]at he;rcases j8 _ _▸he with he | he
      ·exact hb0.2 e he
      ·simp only[d7]at he;omega
     ·rw[hwh,he];rfl
    ·exact⟨(h2 b hb).1,(h2 b hb).2,λe he=>he⟩
   have hmk:∀b,t.has b=true->∀e:Int,L.has ((t.set k {t.at_ k with bad:=L.with_ (t.at_ k).bad d}).mask b) e=((decide (0<=e)&&decide (e<t.d))&& !L.has t.dead e&& !L.has ((t.set k {t.at_ k with bad:=L.with_ (t.at_ k).bad d}).at_ b).bad e):=λb hb e=>by
    have:=(R4 (t:=t.set k {t.at_ k with bad:=L.with_ (t.at_ k).bad d}) (b:=b) (by rw[Tl.set_d];exact h8) (by rw[Tl.has_set];exact hb) (by rw[Tl.set_dead];exact h1.1) (hbad b hb).1).2 e
    rwa [Tl.set_d,Tl.set_dead]at this
   refine⟨⟨λb=>Tl.has_set _ _ _ _,Tl.set_d _ _ _,λb hb=>?_,λb hb=>?_,by rw[Tl.set_dead];exact h1,λb hb=>⟨(hbad b hb).1,(hbad b hb).2.1⟩,λb hb e he=>?_,λe he=>by rw[Tl.set_dead];exact he⟩,λ_ _=>?_⟩
   ·rw[hat b hb];split
    ·rename_i e;rw[e]
    ·rfl
   ·rw[hat b hb];split
    ·rename_i e;rw[e]
    ·rfl
   ·rw[hmk b hb]at he;rw[(R4 h8 hb h1.1 (h2 b hb).1).2];simp only[i4,i7]at he ⊢;refine⟨he.1,?_⟩;cases hx:L.has (t.at_ b).bad e with
    | false=>rfl
    | true=>rw[(hbad b hb).2.2 e hx]at he;exact absurd he.2 (by decide)
   ·rw[hmk k hop,hat k hop,i3 rfl,hwh,i9 hfd.symm];simp
 ·rename_i hh;refine⟨TlMore.refl h1 h2,λhlt=>?_⟩;simp only[Tl.hasDie,i4,d7]at hh;omega
theorem a7P {α:Type} {p q:α->Bool}:∀{K:List α},(∀x∈K,p x=true->q x=true)->∀{x:α},x∈K->p x=false->q x=true->K.countP p+1<=K.countP q
 | [],_,x,hx,_,_=>by cases hx
 | y::K,h,x,hx,hp,hq=>by
  rw[J2,J2];rcases List.mem_cons.1 hx with rfl | hx
  ·rw[hp,hq];have:=List.countP_mono_left (p:=p) (q:=q) (l:=K) λz hz=>h z (by simp[hz]);simp only[H2,V9,Y0];omega
  ·have ih:=a7P (K:=K) (λz hz=>h z (by simp[hz])) hx hp hq;have hy:=h y (by simp);cases h1:p y with
   | false=>simp only[H2,V9];omega
   | true=>rw[hy h1];simp only[Y0];omega
theorem b9c {t:Tl} (hl:t.l.length=t.b) (k:Int) (s:Sb) (hs:t.has k=true->s.bad=(t.at_ k).bad) (j:Int):(t.set k s).mask j=t.mask j:=by
 cases hk:t.has k with
 | false=>rw[Tl.set_no _ hk]
 | true=>
  unfold Tl.mask Tl.alive;rw[Tl.has_set,Tl.set_d,Tl.set_dead];split
  ·rename_i hj;congr 1;rw[Tl.at_set hl _ hk hj];split
   ·rename_i e;rw[hs hk,e]
   ·rfl
  ·rfl
theorem a7E (b r:Int):∀(q:List (Int×Sh)) (N:Nand) (f:Int),RdyR N b r q->N.plan.Nodup->∀x∈q,N.dead.getD x.1.toNat false=false->(x.1,b,r)∉(R.go b r q N f).1.plan
 | [],_,_,_,_,x,hx,_=>by cases hx
 | (d,s)::q,N,f,h,hp,x,hx,hxd=>by
  have hxi:=h.inn (d,s) (by simp);have hc:=h.cells (d,s) (by simp);dsimp only at hxi hc;have hr:=h.lit.refuses hxi h.blk h.row;have hnd:=List.nodup_cons.1 h.nodup;have hne:∀x∈q,x.1≠d:=λx hxq e=>hnd.1 (List.mem_map.2 ⟨x,hxq,e⟩);have hne2:∀x∈q,x.1.toNat≠d.toNat:=λx hxq e=>by
   have:=h.inn x (by simp[hxq]);exact hne x hxq (by omega)
  by_cases hdd:N.dead.getD d.toNat false=true
  ·rw[hdd,i3 rfl]at hr;have e1:N.progE d b r=8:=by unfold Nand.progE;rw[i3 (by rw[hr];decide),hr]
   have e2:N.progN d b r (U9 s)=N:=by unfold Nand.progN;rw[i3 (by rw[hr];decide)]
   have eg:R.go b r ((d,s)::q) N f=R.go b r q N (L.with_ f d):=by rw[R.go,g7 (by rw[e1];decide),g7 (by rw[e1];decide),e2]
   rw[eg];rcases List.mem_cons.1 hx with rfl | hx
   ·dsimp only at hxd;rw[hdd]at hxd;cases hxd
   ·exact a7E b r q N (L.with_ f d) ⟨h.lit,hnd.2,λx hxq=>h.inn x (by simp[hxq]),h.blk,h.row,λx hxq=>h.cells x (by simp[hxq])⟩ hp x hx hxd
  ·have hdd:N.dead.getD d.toNat false=false:=by simpa using hdd
   have hc:=hc hdd;rw[hdd,g7 (by decide)]at hr;have e1:=a4x hr hc.symm h.lit.cutB;have e2:=a4w (pg:=U9 s) hr hc.symm h.lit.cutB;obtain⟨N1,hN1⟩:∃N1,N.progN d b r (U9 s)=N1:=⟨_,rfl⟩;rw[hN1]at e2;have hb:∀i j,N1.blk i j=if i=d.toNat/\j=b.toNat then {N.blk d.toNat b.toNat with cells:=(N.blk d.toNat b.toNat).cells++[⟨U9 s,N.fails d b r,false⟩]}else N.blk i j:=λi j=>by rw[e2];rfl
   have hlike:N.Like N1:=by rw[e2];exact⟨rfl,rfl,rfl⟩
   have hlit:N1.Lit:=by rw[<- hN1];exact h.lit.prog _ _ _ _
   have hdead:N1.dead=N.dead:=by rw[e2];rfl
   have hplan:N1.plan=N.plan.erase (d,b,r):=by rw[e2];rfl
   have hq:∀x∈q,N1.blk x.1.toNat b.toNat=N.blk x.1.toNat b.toNat:=λx hxq=>by rw[hb,g7 (by have:=hne2 x hxq;omega)]
   obtain⟨f1,hf1⟩:∃f1,(if N.fails d b r then L.with_ f d else f)=f1:=⟨_,rfl⟩;have eg:R.go b r ((d,s)::q) N f=R.go b r q N1 f1:=by
    rw[R.go,e1,hN1,<- hf1];cases N.fails d b r with
    | true=>rw[i3 rfl,g7 (by decide),g7 (by decide),i3 rfl]
    | false=>rw[g7 m6,i3 rfl,g7 m6]
   have hR1:RdyR N1 b r q:=⟨hlit,hnd.2,λx hxq=>by rw[hlike.dies];exact h.inn x (by simp[hxq]),by rw[hlike.blocks];exact h.blk,by rw[hlike.pages];exact h.row,λx hxq hd=>by rw[hq x hxq];exact h.cells x (by simp[hxq]) (by rw[<- hdead];exact hd)⟩;rw[eg];rcases List.mem_cons.1 hx with rfl | hx
   ·intro hm;have:=(b9r b r q N1 f1 hR1).2.2.plan _ hm;rw[hplan]at this;exact(hp.mem_erase_iff.1 this).1 rfl
   ·exact a7E b r q N1 f1 hR1 (by rw[hplan];exact hp.erase _) x hx (by rw[hdead];exact hxd)
theorem b0F {N:Nand} {b r m:Int} {l:List En} (h:RdyW N b r m) (hR:RowIs N b r m l) (hp:N.plan.Nodup) {d:Nat} (hd:L.has m (d:Nat)=true) (ha:N.dead.getD d false=false):((d:Int),b,r)∉(R.write N b r m l).1.plan:=by
 obtain⟨x,hx,hxd⟩:=hR.on hd;have:=a7E b r _ N 0 (h.rdy hR) hp x hx (by rw[hxd,j4];exact ha);rw[hxd]at this;unfold R.write;rw[hR.par,i3 rfl];exact this
def a7c (N:Nand) (fd b:Int):Bool:=N.plan.any λa=>a.1==fd&&a.2.1==b
theorem planB_iff {N:Nand} {fd b:Int}:a7c N fd b=true↔∃a∈N.plan,a.1=fd/\a.2.1=b:=by
 unfold a7c;simp only[a0c,i4,y6]
theorem a1p {N N':Nand} (h:∀a∈N'.plan,a∈N.plan) {fd b:Int} (hb:a7c N' fd b=true):a7c N fd b=true:=by
 obtain⟨a,h1,h2⟩:=planB_iff.1 hb;exact planB_iff.2 ⟨a,h a h1,h2⟩
def b7j (fd:Int) (S:Dv) (b:Nat):Bool:=a7c S.N fd (b:Int)&&L.has (S.t.mask (b:Int)) fd
def b2C (fd:Int) (S:Dv):Nat:=(List.range S.t.b).countP (b7j fd S)
structure Brn (fd:Int) (S:Dv) (β:Nat):Prop where
 pos:0<=fd
 dead:∀i:Nat,S.N.dead.getD i false=false
 met:∀i j:Nat,(S.N.blk i j).met=false
 fl:∀i j:Nat,(S.N.blk i j).fails=false
 rng:∀a∈S.N.plan,0<=a.2.2/\a.2.2<S.N.pages
 cnt:b2C fd S<=β
 at_:∀b:Int,S.t.has b=true->L.has (S.t.mask b) fd=true->a7c S.N fd b=true->b=S.op\/(S.t.at_ b).used=false
 opn:S.op>=0->L.has S.mask fd=L.has (S.t.mask S.op) fd/\(L.has S.mask fd=true->∀a∈S.N.plan,a.1=fd->a.2.1=S.op->S.row<=a.2.2)
theorem a5w {fd:Int} {S V:Dv} (hb:V.t.b=S.t.b) (hp:∀a∈V.N.plan,a∈S.N.plan) (hm:∀b:Int,S.t.has b=true->L.has (V.t.mask b) fd=true->L.has (S.t.mask b) fd=true):b2C fd V<=b2C fd S:=by
 unfold b2C;rw[hb];refine List.countP_mono_left λb hbm h=>?_;unfold b7j at h ⊢;rw[i4]at h ⊢;exact⟨a1p hp h.1,hm _ (Tl.has_iff.2 (by have:=List.mem_range.1 hbm;omega)) h.2⟩
theorem b1n {f:Int} {d:Nat}:∀(q:List Nat) (S:Dv),q.Nodup->(∀e∈q,e≠d->L.has f (e:Nat)=false)->q.foldl (Dv.lose f) S=if d∈q then Dv.lose f S d else S
 | [],S,_,_=>rfl
 | e::q,S,hnd,h=>by
  have hn:=List.nodup_cons.1 hnd;rw[x9,b1n q _ hn.2 λx hx=>h x (by simp[hx])]
  by_cases he:e=d
  ·subst he;rw[g7 hn.1,i3 (by simp)]
  ·have h1:Dv.lose f S e=S:=by unfold Dv.lose;rw[h e (by simp) he,g7 m6]
   rw[h1]
   by_cases hq:d∈q
   ·rw[i3 hq,i3 (by simp[hq])]
   ·rw[g7 hq,g7 (by simp[hq];exactλe2=>he e2.symm)]
theorem a8Y {fd:Int} {S:Dv} {k m:Nat} {l:List En} (hi:Inv fd S) (hO:S.Ok (8+k) m) (hl:S.left=true) (hf:∀e∈l,FitR e) (hn:¬S.next>1099511627775-(S.fit l:Int)+1) (hb:(S.wr l).2.1≠0):∃d:Nat,fd=(d:Int)/\d<S.N.dies/\(S.wrote l).loses (S.wr l).2.1=Dv.lose (S.wr l).2.1 (S.wrote l) d/\L.has (S.wr l).2.1 (d:Nat)=true:=by
 have ht:=hi.turn hO hl hf hn;obtain⟨_,b2,b3,b4,b5,b6,b7⟩:=hi.burn hO hl hf hn hb;obtain⟨d,hd,_⟩:=L.has_rng b3;have hdD:d<S.N.dies:=by have:=(hi.opn hl).mask.lt _ b3;omega
 refine⟨d,hd,hdD,?_,by rw[ht.fail d (by rw[<- hd];exact b3),<- hd];exact b6⟩;unfold Dv.loses;rw[b1n (d:=d) _ _ a2Y λe _ he=>?_,i3 (List.mem_range.2 (by rw[ht.like.dies];exact hdD))];cases hh:L.has (S.wr l).2.1 (e:Nat)with
 | false=>rfl
 | true=>have:=(ht.only _ hh).1;omega
theorem b4n {fd:Int} {S:Dv} {k m:Nat} {l:List En} (hi:Inv fd S) (hO:S.Ok (8+k) m) (hl:S.left=true) (hf:∀e∈l,FitR e) (hn:¬S.next>1099511627775-(S.fit l:Int)+1) (hb:(S.wr l).2.1≠0) (hdd:S.N.dead.getD fd.toNat false=true):L.has ((S.wrote l).loses (S.wr l).2.1).t.dead fd=true:=by
 have hg:=hO.gd.ok.bd16;have ht:=hi.turn hO hl hf hn;obtain⟨d,rfl,hd,e,hh⟩:=a8Y hi hO hl hf hn hb;rw[j4]at hdd;rw[e];unfold Dv.lose;rw[i3 hh];have h1:(S.wrote l).N.deadAt (d:Nat)=true:=by
  unfold Nand.deadAt;rw[j4,ht.dead,hdd,ht.like.dies,i9 (by omega),i9 (by omega)];rfl
 have h2:(S.wrote l).t.hasDie (d:Nat)=true:=by
  have:=hO.t.d;show S.t.hasDie (d:Nat)=true;simp only[Tl.hasDie,i4,d7];omega
 dsimp only;rw[i3 h1];unfold Tl.die;rw[i3 h2];show L.has (L.with_ S.t.dead (d:Nat)) (d:Nat)=true;rw[L.with_has hi.tdead.1 (by omega),i9 rfl,Bool.or_true]
namespace Brn
variable {fd : Int} {S : Dv} {β k m : Nat} {l : List En}
theorem tab (h:Brn fd S β) (T:Tb):Brn fd {S with T:=T} β:=⟨h.pos,h.dead,h.met,h.fl,h.rng,h.cnt,h.at_,h.opn⟩
theorem opened (h:Brn fd S β) (hi:Inv fd S) (hO:S.Ok k m) (hl:S.left=false) (hp:¬S.pick<0):Brn fd S.opened β:=by
 have hg:=hO.gd.ok.bd16;have hlen:=hO.t.len;rcases S.pick_spec with e | ⟨p1,p2,p3,p4⟩
 ·omega
 have hhas:S.t.has S.pick=true:=Tl.has_iff.2 ⟨p1,p2⟩;have hmk:∀j,S.opened.t.mask j=S.t.mask j:=λj=>Dv.mask_clean hlen _ _ _;have hat:∀b,S.t.has b=true->(S.opened.t.at_ b)=if b=S.pick then {S.t.at_ S.pick with used:=true}else S.t.at_ b:=λb hb=>Tl.at_set hlen _ hhas hb
 have hhs:∀b,S.opened.t.has b=S.t.has b:=λb=>Tl.has_set _ _ _ _;have hrow0:S.op>=0->S.N.pages<=S.row:=λh0=>by
  rcases hi.op with e | e
  ·omega
  ·have hps:=(e.mask.pos hg.1).1;cases hh:decide (S.row<S.N.pages)with
   | false=>have:=of_decide_eq_false hh;omega
   | true=>
    have:S.left=true:=by
     unfold Dv.left;rw[i9 h0,hh,i9 (by omega)];rfl
    rw[hl]at this;cases this
 refine⟨h.pos,h.dead,h.met,h.fl,h.rng,G9 (a5w (S:=S) (V:=S.opened) (by show(S.t.clean S.pick false).b=S.t.b;exact Tl.set_b _ _ _) (λa ha=>ha) λb _ hb=>by rw[<- hmk];exact hb) h.cnt,λb hb hm hpb=>?_,λ_=>⟨?_,λ_ a ha _ _=>(h.rng a ha).1⟩⟩
 ·rw[hhs]at hb;rw[hmk]at hm;rcases h.at_ b hb hm hpb with e | e
  ·have h0:=(Tl.has_iff.1 hb).1;have hop:=h.opn (by omega);obtain⟨a,a1,a2,a3⟩:=planB_iff.1 hpb;have h1:=hop.2 (by rw[hop.1,<- e];exact hm) a a1 a2 (a3.trans e);have h2:=(h.rng a a1).2;have h3:=hrow0 (by omega);omega
  ·by_cases e2:b=S.pick
   ·exact .inl e2
   ·rw[hat b hb,g7 e2];exact .inr e
 ·show L.has ((S.t.clean S.pick false).mask S.pick) fd=L.has (S.opened.t.mask S.pick) fd;rfl
theorem wrote (h:Brn fd S β) (hi:Inv fd S) (hO:S.Ok k m) (hl:S.left=true) (hf:∀e∈l,FitR e) (hn:¬S.next>1099511627775-(S.fit l:Int)+1):Brn fd (S.wrote l) β:=by
 have ht:=hi.turn hO hl hf hn;have ho:=hi.opn hl;have hR:=hi.rowIs hO hl hf hn;have hrdy:RdyW S.N S.op S.row S.mask:=⟨hi.lit,λd hd ha=>(ho.cells d hd).2 ha⟩;refine⟨h.pos,λi=>by rw[ht.dead];exact h.dead i,λi j=>by rw[(ht.flags i j).1];exact h.met i j,λi j=>by rw[(ht.flags i j).2.1];exact h.fl i j,λa ha=>by rw[ht.like.pages];exact h.rng a (ht.plan a ha),G9 (a5w (S:=S) (V:=S.wrote l) rfl ht.plan λb _ hb=>hb) h.cnt,λb hb hm hp=>h.at_ b hb hm (a1p ht.plan hp),λh0=>?_⟩;have hop:=h.opn h0;refine⟨hop.1,λhm a ha a1 a2=>?_⟩;have hm:L.has S.mask fd=true:=hm;have h1:=hop.2 hm a (ht.plan a ha) a1 a2;have h2:a≠(fd,S.op,S.row):=λe=>by
  obtain⟨d,hd⟩:=i6 h.pos;have:=b0F (d:=d) hrdy hR hO.gd.nodup (by rw[<- hd];exact hm) (h.dead d);rw[<- hd,<- e]at this;exact this ha
 show S.row+1<=a.2.2;have:a.2.2≠S.row:=λe=>h2 (by
  obtain⟨x,y,z⟩:=a;have a2:y=S.op:=a2;dsimp only at a1 e;rw[a1,a2,e])
 omega
theorem burnt (h:Brn fd S β) (hi:Inv fd S) (hO:S.Ok (8+k) m) (hl:S.left=true) (hf:∀e∈l,FitR e) (hn:¬S.next>1099511627775-(S.fit l:Int)+1) (hb:(S.wr l).2.1≠0):1<=β/\Brn fd ((S.wrote l).loses (S.wr l).2.1) (β-1):=by
 have hg:=hO.gd.ok.bd16;have hs:=Dv.left_spec hl;have ht:=hi.turn hO hl hf hn;have hw:=h.wrote hi hO hl hf hn;obtain⟨_,b2,b3,b4,b5,b6,b7⟩:=hi.burn hO hl hf hn hb;obtain⟨d,hd,hdD,hone,hfb⟩:=a8Y hi hO hl hf hn hb;have hlose:Dv.lose (S.wr l).2.1 (S.wrote l) d={S.wrote l with t:=S.t.bad d S.op,mask:=L.without S.mask d}:=by
  unfold Dv.lose;rw[i3 hfb,g7]
  ·rfl
  ·unfold Nand.deadAt;rw[j4,hw.dead];simp
 have hlen:=hO.t.len;have hhas:S.t.has S.op=true:=Tl.has_iff.2 ⟨hs.1,by have:=(hi.opn hl).blk;have:=hO.t.b;omega⟩;obtain⟨m1,m2⟩:=b1h (fd:=fd) hlen (by have:=hO.t.d;omega) hi.tdead hi.tbad (d:=d) (by omega) hd.symm S.op;have m2:=m2 (by have:=hO.t.d;omega) hhas;have hmsk:L.has (L.without S.mask (d:Int)) fd=false:=by
  rw[L.without_has (hi.opn hl).mask.set (by omega),hd];simp
 rw[hone,hlose];have hplan:a7c S.N fd S.op=true:=by
  unfold Nand.failB Nand.fails at b6;rw[hd,j4,h.dead,h.met,C0,a6G,d7]at b6;exact planB_iff.2 ⟨_,b6,hd.symm,rfl⟩
 have hbt:(S.t.bad d S.op).b=S.t.b:=by unfold Tl.bad;split;(· exact Tl.set_b _ _ _);rfl
 have hcnt:b2C fd {S.wrote l with t:=S.t.bad d S.op,mask:=L.without S.mask d}+1<=b2C fd S:=by
  unfold b2C;show List.countP _ (List.range (S.t.bad d S.op).b)+1<=_;rw[hbt];refine a7P (x:=S.op.toNat) (λb hbm hh=>?_) (List.mem_range.2 (by have:=(Tl.has_iff.1 hhas).2;omega)) ?_ ?_
  ·unfold b7j at hh ⊢;rw[i4]at hh ⊢;exact⟨a1p ht.plan hh.1,m1.mask _ (Tl.has_iff.2 (by have:=List.mem_range.1 hbm;omega)) _ hh.2⟩
  ·unfold b7j;rw[show((S.op.toNat:Nat):Int)=S.op from by omega];show(_&&L.has ((S.t.bad d S.op).mask S.op) fd)=false;rw[m2];simp
  ·unfold b7j;rw[show((S.op.toNat:Nat):Int)=S.op from by omega,hplan,<- (h.opn hs.1).1,b3];rfl
 have hcnt0:=h.cnt;refine⟨by omega,⟨h.pos,hw.dead,hw.met,hw.fl,hw.rng,by omega,λb hb2 hm hp=>?_,λh0=>⟨?_,λhm=>?_⟩⟩⟩
 ·have hb2:(S.t.bad d S.op).has b=true:=hb2;rw[m1.has]at hb2;have hm:L.has ((S.t.bad d S.op).mask b) fd=true:=hm;rcases h.at_ b hb2 (m1.mask b hb2 _ hm) (a1p ht.plan hp)with e | e
  ·exact .inl e
  ·right;show((S.t.bad d S.op).at_ b).used=false;rw[m1.used b hb2];exact e
 ·show L.has (L.without S.mask (d:Int)) fd=L.has ((S.t.bad d S.op).mask S.op) fd;rw[hmsk,m2]
 ·have hm:L.has (L.without S.mask (d:Int)) fd=true:=hm;rw[hmsk]at hm;cases hm
end Brn
def NBlock.ers (B:NBlock):NBlock:=if B.fails then {B with met:=true}else {B with cells:=[],worn:=B.worn+1}
theorem c0P {N:Nand} (hl:N.Lit) {d:Nat} {b:Int} (hd:d<N.dies) (hb:0<=b/\b<N.blocks) (hp:0<N.pages) (ha:N.dead.getD d false=false):
  N.eraseE d b=(if(N.blk d b.toNat).fails then 7 else 0)/\(N.eraseN d b).Lit/\N.Like (N.eraseN d b)/\(N.eraseN d b).dead=N.dead/\(N.plan=[]->(N.eraseN d b).plan=[])/\∀i j,(N.eraseN d b).blk i j=if i=d/\j=b.toNat then(N.blk d b.toNat).ers else N.blk i j:=by
 have hr:=hl.refuses (x:=(d:Int)) (y:=b) (z:=0) (by omega) hb (by omega);rw[j4,ha]at hr;have hr:N.refuses d b 0=0:=hr;refine⟨?_,hl.erase _ _,Nand.like_erase _ _ _,?_,λh=>?_,λi j=>?_⟩
 ·unfold Nand.eraseE;rw[hr,hl.cutB,j4];rfl
 ·unfold Nand.eraseN;dsimp only;rw[g7 (by rw[hr];decide),g7 (by rw[hl.cutB];decide)];split<;>rfl
 ·unfold Nand.eraseN;dsimp only;rw[g7 (by rw[hr];decide),g7 (by rw[hl.cutB];decide)];split
  ·exact h
  ·show N.plan.filter _=[];rw[h];rfl
 ·unfold Nand.eraseN NBlock.ers;dsimp only;rw[g7 (by rw[hr];decide),g7 (by rw[hl.cutB];decide),j4];cases(N.blk d b.toNat).fails with
  | true=>rfl
  | false=>rfl
theorem a7M {fd:Nat} {b mk:Int}:∀(q:List Nat) (N:Nand) (t:Tl),N.Lit->(∀i:Nat,N.dead.getD i false=false)->0<=b/\b<N.blocks->0<N.pages->(∀d∈q,d<N.dies)->q.Nodup->(∀i j:Nat,i≠fd->(N.blk i j).fails=false)->
  ∃N' t',q.foldl (Dv.eraseD b mk) (N,t,0)=(N',t',0)/\N'.Lit/\N.Like N'/\N'.dead=N.dead/\(N.plan=[]->N'.plan=[])/\(∀i j:Nat,i≠fd->(N'.blk i j).fails=false)/\(∀j,N'.blk fd j=if fd∈q/\L.has mk (fd:Nat)=true/\j=b.toNat then(N.blk fd j).ers else N.blk fd j)/\t'=if fd∈q/\L.has mk (fd:Nat)=true/\(N.blk fd b.toNat).fails=true then t.bad fd b else t
 | [],N,t,hl,_,_,_,_,_,hf=>⟨N,t,rfl,hl,Nand.Like.refl N,rfl,λh=>h,hf,λj=>by rw[g7 (by simp)],by rw[g7 (by simp)]⟩
 | d::q,N,t,hl,ha,hb,hp,hq,hn,hf=>by
  have hd:=hq d (by simp);obtain⟨hn1,hn2⟩:=List.nodup_cons.1 hn;rw[x9];cases hh:L.has mk (d:Nat)with
  | false=>
   have e:Dv.eraseD b mk (N,t,0) d=(N,t,0):=by unfold Dv.eraseD;rw[g7 (by simp),i3 hh]
   rw[e];obtain⟨N',t',f1,f2,f3,f4,f5,f6,f7,f8⟩:=a7M (fd:=fd) (b:=b) (mk:=mk) q N t hl ha hb hp (λx hx=>hq x (by simp[hx])) hn2 hf;have hiff:∀p:Prop,(fd∈d::q/\L.has mk (fd:Nat)=true/\p)↔(fd∈q/\L.has mk (fd:Nat)=true/\p):=λp=>by
    constructor
    ·rintro⟨h1,h2,h3⟩;rcases List.mem_cons.1 h1 with rfl | h1
     ·rw[hh]at h2;cases h2
     ·exact⟨h1,h2,h3⟩
    ·rintro⟨h1,h2,h3⟩;exact⟨C3 _ h1,h2,h3⟩
   refine⟨N',t',f1,f2,f3,f4,f5,f6,λj=>?_,?_⟩
   ·rw[f7];simp only[hiff]
   ·rw[f8];simp only[hiff]
  | true=>
   obtain⟨e1,e2,e3,e4,e5,e6⟩:=c0P hl hd hb hp (ha d);have e:Dv.eraseD b mk (N,t,0) d=(N.eraseN d b,if(N.blk d b.toNat).fails=true then t.bad d b else t,0):=by
    unfold Dv.eraseD;rw[g7 (by simp),g7 (by rw[hh];decide)];dsimp only;rw[e1];cases(N.blk d b.toNat).fails with
    | true=>rfl
    | false=>rfl
   rw[e];have hf1:∀i j:Nat,i≠fd->((N.eraseN d b).blk i j).fails=false:=λi j hi=>by
    rw[e6];split
    ·rename_i h;rw[<- h.1,<- h.2];unfold NBlock.ers;split<;>exact hf i j hi
    ·exact hf i j hi
   obtain⟨N',t',f1,f2,f3,f4,f5,f6,f7,f8⟩:=a7M (fd:=fd) (b:=b) (mk:=mk) q (N.eraseN d b) (if(N.blk d b.toNat).fails=true then t.bad d b else t) e2 (λi=>by rw[e4];exact ha i) (by rw[e3.blocks];exact hb) (by rw[e3.pages];exact hp) (λx hx=>by rw[e3.dies];exact hq x (by simp[hx])) hn2 hf1;refine⟨N',t',f1,f2,e3.trans f3,f4.trans e4,λh=>f5 (e5 h),f6,λj=>?_,?_⟩
   ·by_cases hfd:fd=d
    ·have hnq:fd∉q:=by rw[hfd];exact hn1
     rw[f7,g7 (λh=>hnq h.1),e6,hfd]
     by_cases hj:j=b.toNat
     ·rw[i3 ⟨rfl,hj⟩,i3 ⟨by simp,hh,hj⟩,hj]
     ·rw[g7 (λh=>hj h.2),g7 (λh=>hj h.2.2)]
    ·have e7:(N.eraseN d b).blk fd j=N.blk fd j:=by rw[e6,g7 (λh=>hfd h.1)]
     rw[f7,e7];have hiff:(fd∈d::q)↔(fd∈q):=by
      constructor
      ·intro h;rcases List.mem_cons.1 h with e | h
       ·exact absurd e hfd
       ·exact h
      ·exact C3 _
     simp only[hiff]
   ·by_cases hfd:fd=d
    ·have hnq:fd∉q:=by rw[hfd];exact hn1
     rw[f8,g7 (λh=>hnq h.1),hfd]
     by_cases hx:(N.blk d b.toNat).fails=true
     ·rw[i3 hx,i3 ⟨by simp,hh,hx⟩]
     ·rw[g7 hx,g7 (λh=>hx h.2.2)]
    ·have e7:(N.eraseN d b).blk fd b.toNat=N.blk fd b.toNat:=by rw[e6,g7 (λh=>hfd h.1)]
     have e8:(N.blk d b.toNat).fails=false:=hf d _ (λh=>hfd h.symm);have hX:(if(N.blk d b.toNat).fails=true then t.bad d b else t)=t:=by rw[e8];rfl
     rw[f8,hX,e7];have hiff:(fd∈d::q)↔(fd∈q):=by
      constructor
      ·intro h;rcases List.mem_cons.1 h with e | h
       ·exact absurd e hfd
       ·exact h
      ·exact C3 _
     simp only[hiff]
structure Ers (fd:Int) (S:Dv):Prop where
 pos:0<=fd
 dead:∀i:Nat,S.N.dead.getD i false=false
 plan:S.N.plan=[]
 fl:∀j:Nat,(S.N.blk fd.toNat j).met=true->(S.N.blk fd.toNat j).fails=true/\(S.N.blk fd.toNat j).cells≠[]
 td:L.has S.t.dead fd=false
 bad:∀b:Int,S.t.has b=true->L.has (S.t.at_ b).bad fd=true->(S.N.blk fd.toNat b.toNat).met=true
 used:∀b:Int,S.t.has b=true->(S.t.at_ b).used=true->b≠S.op->L.has (S.t.mask b) fd=true->(S.N.blk fd.toNat b.toNat).cells≠[]
 opn:S.op>=0->L.has S.mask fd=L.has (S.t.mask S.op) fd/\(L.has S.mask fd=true->(S.N.blk fd.toNat S.op.toNat).met=false)
theorem WroteR.grow {N N':Nand} {b r:Int} {q:List (Int×Sh)} (w:WroteR N N' b r q) (i j:Nat):(N'.blk i j).cells=(N.blk i j).cells\/∃c,(N'.blk i j).cells=(N.blk i j).cells++[c]:=by
 by_cases h:j=b.toNat/\∃x∈q,x.1.toNat=i
 ·obtain⟨h1,x,hx,h2⟩:=h;have:=w.cells x hx;rw[h2,<- h1]at this;rw[this];split
  ·exact .inl rfl
  ·exact .inr ⟨_,rfl⟩
 ·rw[w.rest i j (by
   by_cases h1:j=b.toNat
   ·exact .inr λx hx e=>h ⟨h1,x,hx,e⟩
   ·exact .inl h1)]
  exact .inl rfl
namespace Ers
variable {fd : Int} {S : Dv} {k m : Nat} {l : List En}
theorem nofail (h:Ers fd S) (hI:Inv fd S) (hl:S.left=true) {d:Nat} (hd:L.has S.mask (d:Nat)=true):S.N.failB S.op S.row d=false:=by
 have hs:=(Dv.left_spec hl).1
 by_cases e:(d:Int)=fd
 ·unfold Nand.failB;rw[h.dead,C0];unfold Nand.fails;rw[h.plan];have:=(h.opn hs).2 (by rw[<- e];exact hd);rw[e,this];simp
 ·exact(hI.fails_no e).1
theorem opened (h:Ers fd S) (hI:Inv fd S) (hO:S.Ok k m) (hl:S.left=false) (hp:¬S.pick<0):Ers fd S.opened:=by
 have hg:=hO.gd.ok.bd16;have hbl:=Dv.pick_blank hp;have hpk:S.t.has S.pick=true:=by unfold Tl.blank at hbl;simp only[i4]at hbl;exact hbl.1
 have hun:(S.t.at_ S.pick).used=false:=by unfold Tl.blank at hbl;simp only[i4,i7]at hbl;exact hbl.2
 have hmask:∀b,(S.t.clean S.pick false).mask b=S.t.mask b:=λb=>Dv.mask_clean hO.t.len _ _ _;have hdd:(S.t.clean S.pick false).dead=S.t.dead:=Tl.set_dead _ _ _;have hhas:∀b,(S.t.clean S.pick false).has b=S.t.has b:=λb=>Tl.has_set _ _ _ _;have hat:∀b,S.t.has b=true->((S.t.clean S.pick false).at_ b).bad=(S.t.at_ b).bad/\(((S.t.clean S.pick false).at_ b).used=true->b≠S.pick->(S.t.at_ b).used=true):=λb hb=>by
  unfold Tl.clean;rw[Tl.at_set hO.t.len _ hpk hb];split
  ·rename_i e;rw[e];exact⟨rfl,λ_ hne=>absurd rfl hne⟩
  ·exact⟨rfl,λh _=>h⟩
 have hcell:L.has (S.t.mask S.pick) fd=true->(S.N.blk fd.toNat S.pick.toNat).cells=[]:=λhh=>by
  have:=hI.blank S.pick hpk hun fd.toNat (by rw[M5 h.pos];exact hh);exact this
 refine⟨h.pos,h.dead,h.plan,h.fl,by show L.has (S.t.clean S.pick false).dead fd=false;rw[hdd];exact h.td,λb hb hbad=>?_,λb hb hu hne hm=>?_,λ_=>⟨rfl,λhm=>?_⟩⟩
 ·have hb:(S.t.clean S.pick false).has b=true:=hb;rw[hhas]at hb;have hbad:L.has ((S.t.clean S.pick false).at_ b).bad fd=true:=hbad;rw[(hat b hb).1]at hbad;exact h.bad b hb hbad
 ·have hb:(S.t.clean S.pick false).has b=true:=hb;rw[hhas]at hb;have hm:L.has ((S.t.clean S.pick false).mask b) fd=true:=hm;rw[hmask]at hm;have hu:=(hat b hb).2 hu hne
  by_cases e:b=S.op
  ·have hb2:=Tl.has_iff.1 hb;have ho:=hI.op.resolve_left (by omega);have h1:=(h.opn (by omega)).1;rw[<- e,hm]at h1;have hs:=ho.mask.slots hg.1;have hrow:¬S.row<S.N.pages:=λhr=>by
    have hp:=ho.mask.pos hg.1;have:S.left=true:=by
     unfold Dv.left;rw[i9 (show S.op>=0 by omega),i9 hr,i9 (show G.slots S.mask>0 by omega)];rfl
    rw[hl]at this;cases this
   have hc:=(ho.cells fd.toNat (by rw[M5 h.pos];exact h1)).2 (h.dead _);rw[e];intro hnil;have hnil:(S.N.blk fd.toNat S.op.toNat).cells=[]:=hnil;rw[hnil]at hc;simp at hc;omega
  ·exact h.used b hb hu e hm
 ·have hm:L.has ((S.t.clean S.pick false).mask S.pick) fd=true:=hm;rw[hmask]at hm;have hc:=hcell hm;show(S.N.blk fd.toNat S.pick.toNat).met=false;cases hmet:(S.N.blk fd.toNat S.pick.toNat).met with
  | false=>rfl
  | true=>exact absurd hc (h.fl _ hmet).2
theorem at1 (h:Ers fd S) (hI:Inv fd S) (hO:S.Ok k m) (h0:¬(S.left=false/\S.pick<0)):Ers fd S.at1:=by
 unfold Dv.at1;cases hl:S.left with
 | true=>rw[i3 rfl];exact h
 | false=>rw[g7 m6];exact h.opened hI hO hl λe=>h0 ⟨hl,e⟩
theorem wrote (h:Ers fd S) (hI:Inv fd S) (hl:S.left=true) (hR:RowIs S.N S.op S.row S.mask (S.es l)):Ers fd (S.wrote l):=by
 have ho:=hI.opn hl;have hrdy:RdyW S.N S.op S.row S.mask:=⟨hI.lit,λd hd ha=>(ho.cells d hd).2 ha⟩;have w:WroteR S.N (S.wrote l).N S.op S.row (R.job S.op S.row S.mask (S.es l)):=(a2v hrdy hR).2.2;have hc:∀j:Nat,(S.N.blk fd.toNat j).cells≠[]->((S.wrote l).N.blk fd.toNat j).cells≠[]:=λj hj=>by
  rcases w.grow fd.toNat j with e | ⟨c,e⟩
  ·rw[e];exact hj
  ·rw[e];simp
 refine⟨h.pos,λi=>by rw[w.dead];exact h.dead i,List.eq_nil_iff_forall_not_mem.2 λa ha=>(by have:=w.plan a ha;rw[h.plan]at this;cases this),λj hj=>?_,h.td,λb hb hbad=>?_,λb hb hu hne hm=>hc _ (h.used b hb hu hne hm),λh0=>⟨(h.opn h0).1,λhm=>?_⟩⟩
 ·rw[(w.flags _ _).1]at hj;obtain⟨f1,f2⟩:=h.fl j hj;exact⟨by rw[(w.flags _ _).2.1];exact f1,hc j f2⟩
 ·rw[(w.flags _ _).1];exact h.bad b hb hbad
 ·show((S.wrote l).N.blk fd.toNat S.op.toNat).met=false;rw[(w.flags _ _).1];exact(h.opn h0).2 hm
theorem tab (h:Ers fd S) (T:Tb):Ers fd {S with T:=T}:=⟨h.pos,h.dead,h.plan,h.fl,h.td,h.bad,h.used,h.opn⟩
end Ers
theorem Went.refl {fd:Int} {S:Dv} (h:Inv fd S):Went fd S S 0:=
 ⟨h,rfl,by omega,rfl,rfl,Nand.Like.refl _,λ_ h=>h,λ_ _=>⟨rfl,rfl,rfl⟩,rfl,λ_ _ _=>rfl,λ_ _ h=>h,λ_ _=>⟨rfl,rfl,λh=>h⟩,λ_ h=>h⟩
theorem Went.trans {fd:Int} {S Q P:Dv} {β γ:Nat} (h:Went fd S Q β) (hh:∀b,Q.t.has b=S.t.has b) (g:Went fd Q P γ):Went fd S P (β+γ):=by
 have h1:=h.next;have h2:=g.next;have h3:=h.rows;have h4:=g.rows;refine⟨g.inv,g.T.trans h.T,by omega,g.dead.trans h.dead,g.broken.trans h.broken,h.like.trans g.like,λa ha=>h.plan a (g.plan a ha),λi j=>?_,by omega,λi a ha=>(g.reads i a (h.stay i a ha)).trans (h.reads i a ha),λi a ha=>g.stay i a (h.stay i a ha),λb hb=>?_,λd hd=>g.td d (h.td d hd)⟩
 ·have a1:=h.flags i j;have a2:=g.flags i j;exact⟨a2.1.trans a1.1,a2.2.1.trans a1.2.1,a2.2.2.trans a1.2.2⟩
 ·have a1:=h.sb b hb;have a2:=g.sb b (by rw[hh];exact hb);exact⟨a2.1.trans a1.1,a2.2.1.trans a1.2.1,λhu=>a2.2.2 (a1.2.2 hu)⟩
inductive Hot (fd:Int) (S:Dv):Nat->Prop
 | calm:NoF S->Hot fd S 0
 | cold:L.has S.t.dead fd=true->L.has S.mask fd=false->Hot fd S 0
 | there:S.left=true->L.has S.mask fd=false->Hot fd S 0
 | once:L.has S.t.dead fd=true->Hot fd S 1
 | burnt:L.has S.mask fd=false->Hot fd S 1
 | any:Hot fd S 2
 | brn {β:Nat}:Brn fd S β->Hot fd S β
 | dead:S.N.dead.getD fd.toNat false=true->Hot fd S 1
 | ers:Ers fd S->Hot fd S 0
structure Last (fd:Int) (Q:Dv) (l:List En):Prop where
 left:Q.left=true
 err:(Q.wr l).2.1=0
 bd:¬Q.next>1099511627775-(Q.fit l:Int)+1
 turn:Inv.Turn fd Q l
def M6 (Q:Dv) (l:List En):Dv:={Q.wrote l with T:=Dv.puts Q.T Q.op Q.row Q.mask (Q.es l) (Q.fit l)}
namespace Inv
variable {fd : Int} {S : Dv} {k m : Nat} {l : List En}
theorem has_same {Q:Dv} (hO:S.t.Fit S.N) (hQ:Q.t.Fit Q.N) (hl:S.N.Like Q.N) (b:Int):Q.t.has b=S.t.has b:=by
 unfold Tl.has;rw[show Q.t.b=S.t.b from by rw[hQ.b,hO.b,hl.blocks]]
theorem rows_pos (h:Inv fd S) (hO:S.Ok k m) (hr:0<S.rows):S.left=true\/¬S.pick<0:=by
 have hg:=hO.gd.ok.bd16
 by_cases hb:S.t.blanks=0
 ·left;unfold Dv.rows at hr;rw[hb,Nat.mul_zero,H8]at hr;split at hr
  ·rename_i h0;rcases h.op with e | e
   ·omega
   ·have:=(e.mask.pos hg.1).1;unfold Dv.left;rw[i9 h0,i9 (by omega),i9 (by omega)];rfl
  ·omega
 ·right;obtain⟨s,hs,hu⟩:=List.countP_pos_iff.1 (show 0<S.t.l.countP λs=>!s.used by unfold Tl.blanks at hb;omega);obtain⟨j,hj,rfl⟩:=List.mem_iff_getElem.1 hs;have hlen:=hO.t.len;have hhas:S.t.has (j:Nat)=true:=Tl.has_iff.2 (by omega);have hat:S.t.at_ (j:Nat)=S.t.l[j]:=by unfold Tl.at_;rw[j4,f9,d6 hj,j6]
  have hunu:(S.t.at_ (j:Nat)).used=false:=by rw[hat];simpa using hu
  have hcnt:S.T.count (j:Nat)=0:=by
   rw[hO.T.cnt];unfold Tb.cntB;congr 1;rw[a4i];intro x hx hxb;simp only[y6]at hxb;have hlk:Tb.look S.T.at_ x.1=some x.2:=by
    cases hh:Tb.look S.T.at_ x.1 with
    | none=>rw[Tb.look_none]at hh;exact absurd (List.mem_map.2 ⟨x,hx,rfl⟩) hh
    | some a=>
     have hm:=Tb.look_mem hh;have hn:=hO.T.keys;obtain⟨i1,g1,e1⟩:=List.mem_iff_getElem.1 hm;obtain⟨i2,g2,e2⟩:=List.mem_iff_getElem.1 hx;have:i1=i2:=(R5 (by rw[n5];exact g1) hn).1 (by rw[j5,j5,d6 g1,d6 g2,e1,e2];rfl);subst this;rw[e1]at e2;rw[<- e2]
   have:=(h.st _ _ hlk).used;rw[hxb,hunu]at this;cases this
  have hop:(j:Int)≠S.op:=λe=>by
   rcases h.op with e2 | e2
   ·omega
   ·have:=e2.used;rw[<- e,hunu]at this;cases this
  have hmem:((j:Nat):Int)∈y5 (R3 S.t S.T) S.op S.t.b:=mem_pkSome.2 ⟨by omega,by omega,hop,by
   unfold R3;rw[h.usable hO hhas,hcnt];simp only[Tl.blank,hhas,hunu];rfl⟩
  intro hp;rcases a8P (λx y=>Q0 (S.t.wear x) (S.t.wear y)) (R3 S.t S.T) S.op S.t.b with e | e
  ·rw[e.2]at hmem;cases hmem
  ·have:=e.2;unfold Dv.pick at hp;omega
theorem write_go:∀(β f:Nat) (S:Dv) (k:Nat),Inv fd S->S.Ok (8*(f+β+1)+k) m->Hot fd S β->β<S.rows->(∀e∈l,FitR e)->l.length≠0->S.next+7*(β:Int)<=1099511627775-7->
  ∃γ Q,γ<=β/\Went fd S Q γ/\Q.Ok (8+k) m/\Last fd Q l/\Dv.write (f+β+1) S l=(M6 Q l,(Q.fit l:Int),(0:Int))/\(NoF S->Q=S.at1/\γ=0)/\(0<γ->L.has S.t.dead fd=true->L.has Q.mask fd=false)/\(∀d:Int,L.has S.t.dead d=true->L.has S.mask d=false->L.has Q.mask d=false)/\(γ=0->Q=S.at1)/\(∀β2,Brn fd S β2->γ<=β2/\Brn fd Q (β2-γ))/\(0<γ->S.N.dead.getD fd.toNat false=true->L.has Q.t.dead fd=true/\L.has Q.mask fd=false)
 | β,f,S,k,h,hO,hH,hr,hf,hl0,hnx=>by
  have hg:=hO.gd.ok.bd16;have h8:S.t.d<=8:=by have:=hO.t.d;omega
  have hd:∀s∈l,s.data.length=16:=λe he=>(hf e he).len;have hns:¬(S.left=false/\S.pick<0):=λe=>by
   rcases h.rows_pos hO (by omega)with e2 | e2
   ·rw[e.1]at e2;cases e2
   ·exact e2 e.2
  --the one that is written
  obtain⟨Q,hQ⟩:∃Q,S.at1=Q:=⟨_,rfl⟩;have hW:Went fd S Q 0/\Q.left=true/\((Q=S)\/(Q=S.opened/\Q.mask=S.t.mask S.pick/\S.t.has S.pick=true))/\∀β2,Brn fd S β2->Brn fd Q β2:=by
   cases hl:S.left with
   | true=>
    have:S.at1=S:=by unfold Dv.at1;rw[hl,i3 rfl]
    rw[<- hQ,this];exact⟨Went.refl h,hl, .inl rfl,λ_ hb=>hb⟩
   | false=>
    have hp:¬S.pick<0:=λe=>hns ⟨hl,e⟩;have e1:S.at1=S.opened:=by unfold Dv.at1;rw[hl,g7 m6]
    have:=h.opens hO hl hp;rw[<- hQ,e1];rcases S.pick_spec with e | ⟨p1,p2,_,_⟩
    ·omega
    ·exact⟨this.1,this.2.1, .inr ⟨rfl,this.2.2,Tl.has_iff.2 ⟨p1,p2⟩⟩,λ_ hb=>hb.opened h hO hl hp⟩
  obtain⟨w1,w2,w3,w4⟩:=hW;have hQO:Q.Ok (8*(f+β+1)+k) m:=by rw[<- hQ];exact hO.at1
  have hfit:=Dv.fit_le Q l;have hn:¬Q.next>1099511627775-(Q.fit l:Int)+1:=by have:=w1.next;omega
  have ht:=w1.inv.turn hQO w2 hf hn;have hmaskd:∀d:Int,L.has S.t.dead d=true->L.has S.mask d=false->L.has Q.mask d=false:=λd h1 h2=>by
   rcases w3 with e | ⟨e,e2,e3⟩
   ·rw[e];exact h2
   ·rw[e2];have:=(R4 h8 e3 h.tdead.1 (h.tbad _ e3).1).2 d;rw[this,h1];simp
  have hmaskd2:Q≠S->∀d:Int,L.has S.t.dead d=true->L.has Q.mask d=false:=λhne d h1=>by
   rcases w3 with e | ⟨e,e2,e3⟩
   ·exact absurd e hne
   ·rw[e2];have:=(R4 h8 e3 h.tdead.1 (h.tbad _ e3).1).2 d;rw[this,h1];simp
  by_cases he:(Q.wr l).2.1=0
  ·refine⟨0,Q,by omega,w1,hQO.less (by omega),⟨w2,he,hn,ht⟩,?_,λ_=>⟨hQ.symm,rfl⟩,λh0=>by omega,hmaskd,λ_=>hQ.symm,λb2 hb2=>⟨l8 _,w4 b2 hb2⟩,λh0=>by omega⟩;have herr:=ht.err;rw[i3 he]at herr;rw[Dv.write_succ,g7 hl0,g7 hns,hQ,g7 hn,g7 (by rw[herr];decide),i3 herr];rfl
  ·have herr:=ht.err;rw[g7 he]at herr;have hQO8:Q.Ok (8+(8*(f+β)+k)) m:=hQO.less (by omega);obtain⟨b1,b2,b3,b4,b5,b6,b7⟩:=w1.inv.burn hQO8 w2 hf hn he;have hWO:=(hQO8.wrote hd (Dv.left_spec w2).2.1 hn).loses (Q.wr l).2.1;have hwr:Dv.write (f+β+1) S l=Dv.write (f+β) ((Q.wrote l).loses (Q.wr l).2.1) l:=by
    rw[Dv.write_succ,g7 hl0,g7 hns,hQ,g7 hn,g7 (by rw[herr];decide),g7 (by rw[herr];decide),g7 (by rw[herr];decide)]
   have hnof:¬NoF S:=λhno=>by
    have:NoF Q:=⟨λi=>by rw[w1.dead];exact hno.dead i,List.eq_nil_iff_forall_not_mem.2 λa ha=>(by have:=w1.plan a ha;rw[hno.plan]at this;cases this),λi j=>by rw[(w1.flags i j).1];exact hno.met i j,λi j=>by rw[(w1.flags i j).2.1];exact hno.fl i j⟩;have hfl:=this.fails Q.op Q.row fd.toNat
    obtain⟨x,hx,_⟩:=L.has_rng b3;rw[hx,j4]at hfl;rw[hx,hfl]at b6;cases b6
   have hBS:∀β2,Brn fd S β2->1<=β2/\Brn fd ((Q.wrote l).loses (Q.wr l).2.1) (β2-1):=λb2 hb2=>(w4 b2 hb2).burnt w1.inv hQO8 w2 hf hn he;have hDS:S.N.dead.getD fd.toNat false=true->L.has ((Q.wrote l).loses (Q.wr l).2.1).t.dead fd=true:=λhdd=>b4n w1.inv hQO8 w2 hf hn he (by rw[w1.dead];exact hdd);generalize hS2:(Q.wrote l).loses (Q.wr l).2.1=S2 at b1 b2 b4 b5 b7 hWO hwr hBS hDS;have hW2:Went fd S S2 1:=by
    have:=w1.trans (has_same hO.t hQO.t w1.like) b1
    rwa [H8]at this
   obtain⟨β',hβ,hH'⟩:∃β',β=β'+1/\Hot fd S2 β':=by
    cases hH with
    | calm hno=>exact absurd hno hnof
    | cold h1 h2=>rw[hmaskd fd h1 h2]at b3;cases b3
    | there h1 h2=>
     rcases w3 with e | ⟨e,_⟩
     ·rw[e,h2]at b3;cases b3
     ·have:S.at1=S:=by unfold Dv.at1;rw[h1,i3 rfl]
      rw[<- hQ,this,h2]at b3;cases b3
    | once h1=>exact⟨0,rfl, .cold (hW2.td fd h1) b2⟩
    | burnt h1=>
     refine⟨0,rfl, .there ?_ b2⟩;rcases w3 with e | ⟨e,_⟩
     ·rw[e,h1]at b3;cases b3
     ·have hi:=b1.inv;have hQop:=(w1.inv.opn w2).blk;have e0:Q.row=0:=by rw[e];rfl
      have hpg:S2.N.pages=Q.N.pages:=b1.like.pages;have hpg2:Q.N.pages=S.N.pages:=w1.like.pages;have hop2:Opn fd S2:=by
       rcases hi.op with e2 | e2
       ·omega
       ·exact e2
      have:=(hop2.mask.pos (hWO.gd.ok.bd16.1)).1;unfold Dv.left;rw[i9 (by omega),i9 (by omega),i9 (by omega)];rfl
    | any=>exact⟨1,rfl, .burnt b2⟩
    | brn hb=>
     obtain⟨x1,x2⟩:=hBS _ hb;exact⟨β-1,by omega, .brn x2⟩
    | dead hdd=>exact⟨0,rfl, .cold (hDS hdd) b2⟩
    | ers hE=>
     have hEQ:Ers fd Q:=by rw[<- hQ];exact hE.at1 h hO hns
     obtain⟨x,hx,_⟩:=L.has_rng b3;have hfl:=hEQ.nofail w1.inv w2 (d:=x) (by rw[<- hx];exact b3);rw[hx,hfl]at b6;cases b6
   subst hβ;have hrows:=hW2.rows;have hnx2:=hW2.next;obtain⟨γ,P,c1,c2,c3,c4,c5,c6,c7,c8,_,c10,_⟩:=write_go β' f S2 k hW2.inv (by rw[show f+β'+1=f+(β'+1)from by omega];exact hWO) hH' (by omega) hf hl0 (by omega);refine⟨1+γ,P,by omega,hW2.trans (has_same hO.t hWO.t hW2.like) c2,c3,c4,?_,λhno=>absurd hno hnof,λ_ hdd=>c8 fd (hW2.td fd hdd) b2,λd h1 h2=>c8 d (hW2.td d h1) ?_,λe=>absurd e (by omega),λb3 hb3=>?_,λ_ hdd=>⟨c2.td fd (hDS hdd),c8 fd (hDS hdd) b2⟩⟩
   ·rw[hwr,show f+(β'+1)=f+β'+1 from by omega,c5]
   ·cases hh:L.has S2.mask d with
    | false=>rfl
    | true=>have:=b7 d hh;rw[hmaskd d h1 h2]at this;cases this
   ·obtain⟨x1,x2⟩:=hBS b3 hb3;obtain⟨y1,y2⟩:=c10 _ x2;exact⟨by omega,by rw[show b3-(1+γ)=b3-1-γ from by omega];exact y2⟩
end Inv
theorem a4C {T:Tb} (h:T.Ok) {x:Int×AtV} (hx:x∈T.at_):Tb.look T.at_ x.1=some x.2:=by
 cases hh:Tb.look T.at_ x.1 with
 | none=>rw[Tb.look_none]at hh;exact absurd (List.mem_map.2 ⟨x,hx,rfl⟩) hh
 | some a=>
  have hm:=Tb.look_mem hh;obtain⟨i1,g1,e1⟩:=List.mem_iff_getElem.1 hm;obtain⟨i2,g2,e2⟩:=List.mem_iff_getElem.1 hx;have:i1=i2:=(R5 (by rw[n5];exact g1) h.keys).1 (by rw[j5,j5,d6 g1,d6 g2,e1,e2];rfl);subst this;rw[e1]at e2;rw[<- e2]
theorem a5n {T:Tb} {b r mk:Int} {es:List En}:∀n:Nat,(∀j,j<n->Tb.ok T (es.getD j En.zero)=true)->(∀j,j<n->∀a,Tb.look T.at_ (es.getD j En.zero).lpn=some a->a.seq<=(es.getD j En.zero).seq)->(∀i j,i<j->j<n->(es.getD i En.zero).lpn≠(es.getD j En.zero).lpn)->
  (∀j,j<n->Tb.look (Dv.puts T b r mk es n).at_ (es.getD j En.zero).lpn=some ⟨b,r,j,mk,(es.getD j En.zero).seq,(es.getD j En.zero).role⟩)/\(∀i,(∀j,j<n->(es.getD j En.zero).lpn≠i)->Tb.look (Dv.puts T b r mk es n).at_ i=Tb.look T.at_ i)
 | 0,_,_,_=>⟨λj hj=>by omega,λi _=>rfl⟩
 | n+1,h1,h2,h3=>by
  obtain⟨i1,i2⟩:=a5n n (λj hj=>h1 j (by omega)) (λj hj=>h2 j (by omega)) (λi j hij hj=>h3 i j hij (by omega));have hlog:(Dv.puts T b r mk es n).logical=T.logical:=by
   clear i1 i2 h1 h2 h3
   induction n with
   | zero=>rfl
   | succ n ih=>rw[Dv.puts_succ,Tb.put_logical];exact ih
  have hlk:Tb.look (Dv.puts T b r mk es n).at_ (es.getD n En.zero).lpn=Tb.look T.at_ (es.getD n En.zero).lpn:=i2 _ λj hj=>h3 j n hj (by omega);have hp:Tb.putB (Dv.puts T b r mk es n) (es.getD n En.zero)=true:=by
   unfold Tb.putB;have e1:Tb.ok (Dv.puts T b r mk es n) (es.getD n En.zero)=Tb.ok T (es.getD n En.zero):=by unfold Tb.ok;rw[hlog]
   have e2:Tb.elder (Dv.puts T b r mk es n) (es.getD n En.zero)=false:=by
    unfold Tb.elder;rw[hlk];cases hh:Tb.look T.at_ (es.getD n En.zero).lpn with
    | none=>rfl
    | some a=>have:=h2 n (by omega) a hh;exact s8 (by omega)
   rw[e1,e2,h1 n (by omega)];rfl
  rw[Dv.puts_succ];refine⟨λj hj=>?_,λi hi=>?_⟩
  ·rw[V.look_put]
   by_cases e:j=n
   ·subst e;rw[i3 ⟨hp,rfl⟩]
   ·rw[g7 (λhh=>h3 j n (by omega) (by omega) hh.2)];exact i1 j (by omega)
  ·rw[V.look_put,g7 (λhh=>hi n (by omega) hh.2.symm)];exact i2 i λj hj=>hi j (by omega)
namespace Last
variable {fd : Int} {Q : Dv} {l : List En} {k m : Nat}
theorem opn (h:Last fd Q l) (hQ:Inv fd Q):Opn fd Q:=hQ.opn h.left
theorem seqs (_h:Last fd Q l) (hO:Q.Ok k m) {i:Nat} (hi:i<Q.fit l):i<l.length/\(Q.es l).getD i En.zero={l.getD i En.zero with seq:=Q.next+i}/\i<(Q.es l).length:=by
 have:=Dv.fit_le Q l;have hs:=Dv.slots_le Q.mask;have hi2:i<(G.slots Q.mask).toNat:=by omega
 refine⟨by omega,?_,by rw[Dv.es_len];exact hi2⟩;unfold Dv.es;rw[b8U hi2];unfold Dv.numAt;rw[i3 (by omega)]
theorem inv (h:Last fd Q l) (hQ:Inv fd Q) (hO:Q.Ok k m):Inv fd (M6 Q l):=by
 have ho:=h.opn hQ;have hnx:=hO.next;have hf:=Dv.fit_le Q l;have he:=Dv.es_len Q l;have:=h.turn.inv.puts h.turn.full (show((Q.wrote l).t.at_ Q.op).used=true from ho.used) (λ_=>by show Q.row<Q.row+1;omega) Q.T rfl (Q.fit l) (by omega) (λi hi=>by
  obtain⟨_,e2,_⟩:=h.seqs hO hi;rw[e2];show 1<=Q.next+(i:Int)/\Q.next+(i:Int)<Q.next+(Q.fit l:Int);omega)
 exact this
theorem look (h:Last fd Q l) (hQ:Inv fd Q) (hO:Q.Ok k m) (hf:∀e∈l,FitR e) (hlg:∀e∈l,e.lpn<Q.T.logical) (hnd:(l.map (·.lpn)).Nodup):
  (∀j,j<Q.fit l->Tb.look (M6 Q l).T.at_ (l.getD j En.zero).lpn=some ⟨Q.op,Q.row,j,Q.mask,Q.next+j,(l.getD j En.zero).role⟩)/\(∀i,(∀j,j<Q.fit l->(l.getD j En.zero).lpn≠i)->Tb.look (M6 Q l).T.at_ i=Tb.look Q.T.at_ i):=by
 have hes:=λj (hj:j<Q.fit l)=>h.seqs hO hj;have hmem:∀j,j<Q.fit l->l.getD j En.zero∈l:=λj hj=>X3 (hes j hj).1;obtain⟨a1,a2⟩:=a5n (T:=Q.T) (b:=Q.op) (r:=Q.row) (mk:=Q.mask) (es:=Q.es l) (Q.fit l) (λj hj=>by
   rw[(hes j hj).2.1];have hfe:=hf _ (hmem j hj);have:=hlg _ (hmem j hj);unfold Tb.ok;have e1:decide (({l.getD j En.zero with seq:=Q.next+(j:Int)}:En).lpn<0)=false:=s8 (by have:=hfe.lpn;show¬(l.getD j En.zero).lpn<0;omega);have e2:decide (({l.getD j En.zero with seq:=Q.next+(j:Int)}:En).lpn>=Q.T.logical)=false:=s8 (by show¬(l.getD j En.zero).lpn>=Q.T.logical;omega);rw[e1,e2];show(!(false||false||((l.getD j En.zero).role !=1&&(l.getD j En.zero).role !=2&&(l.getD j En.zero).role !=4)))=true;rcases hfe.role with e | ⟨e | e,_⟩<;>rw[e]<;>rfl)
  (λj hj a ha=>by
   rw[(hes j hj).2.1]at ha ⊢;have:=(hQ.st _ a ha).seq;show a.seq<=Q.next+(j:Int);omega)
  (λi j hij hj=>by
   rw[(hes j hj).2.1,(hes i (by omega)).2.1];show(l.getD i En.zero).lpn≠(l.getD j En.zero).lpn;intro e;have g1:=(hes j hj).1;have g2:=(hes i (by omega)).1;have:(l.map (·.lpn))[i]? =(l.map (·.lpn))[j]?:=by
    rw[j5,j5,d6 g1,d6 g2];rw[f9,f9,d6 g1,d6 g2]at e;exact congrArg some e
   have:=(R5 (by rw[n5];exact g2) hnd).1 this;omega)
 refine⟨λj hj=>?_,λi hi=>?_⟩
 ·have:=a1 j hj;rw[(hes j hj).2.1]at this;exact this
 ·refine a2 i λj hj=>?_;rw[(hes j hj).2.1];exact hi j hj
theorem stay (h:Last fd Q l) (hQ:Inv fd Q) (hO:Q.Ok k m) (hf:∀e∈l,FitR e) {i:Int} {a:AtV} (ha:Std fd Q i a):R.read (M6 Q l).N a.block a.row a.slot a.mask=R.read Q.N a.block a.row a.slot a.mask:=
 (hQ.turn_std h.turn hO h.left hf h.bd ha).2
theorem reads (h:Last fd Q l) (hQ:Inv fd Q) (hO:Q.Ok k m) {j:Nat} (hj:j<Q.fit l):R.read (M6 Q l).N Q.op Q.row j Q.mask=({l.getD j En.zero with seq:=Q.next+j},0):=by
 obtain⟨_,e2,e3⟩:=h.seqs hO hj;rw[<- e2];exact h.turn.full.read h.turn.inv.lit.off h.turn.inv.dead e3
theorem rows (h:Last fd Q l) (hQ:Inv fd Q):(M6 Q l).rows+1=Q.rows:=by
 have ho:=h.opn hQ;have hs:=Dv.left_spec h.left;unfold Dv.rows;have e1:(M6 Q l).N.pages=Q.N.pages:=h.turn.like.pages;have e2:(M6 Q l).t=Q.t:=rfl;have e3:(M6 Q l).op=Q.op:=rfl;have e4:(M6 Q l).row=Q.row+1:=rfl;rw[e1,e2,e3,e4,i3 (by omega),i3 (by omega)];have:=ho.row;omega
end Last
theorem NoF.went {fd:Int} {S Q:Dv} {β:Nat} (h:NoF S) (w:Went fd S Q β):NoF Q:=
 ⟨λi=>by rw[w.dead];exact h.dead i,List.eq_nil_iff_forall_not_mem.2 λa ha=>(by have:=w.plan a ha;rw[h.plan]at this;cases this),λi j=>by rw[(w.flags i j).1];exact h.met i j,λi j=>by rw[(w.flags i j).2.1];exact h.fl i j⟩
theorem NoF.wrote {fd:Int} {Q:Dv} {l:List En} (h:NoF Q) (w:Last fd Q l):NoF (M6 Q l):=
 ⟨λi=>by show(Q.wrote l).N.dead.getD i false=false;rw[w.turn.dead];exact h.dead i,List.eq_nil_iff_forall_not_mem.2 λa ha=>(by have:=w.turn.plan a ha;rw[h.plan]at this;cases this),λi j=>by show((Q.wrote l).N.blk i j).met=false;rw[(w.turn.flags i j).1];exact h.met i j,λi j=>by show((Q.wrote l).N.blk i j).fails=false;rw[(w.turn.flags i j).2.1];exact h.fl i j⟩
theorem NoF.new (d b p:Nat) (lg:Int):NoF (Dv.mk (Nand.new d b p) (Tl.new d b p) (Tb.new lg) (-1) 0 0 1):=
 ⟨λi=>by
  show(List.replicate d false).getD i false=false;rw[f9,D8];split<;>rfl,rfl,λ_ _=>rfl,λ_ _=>rfl⟩
theorem Inv.new (fd:Int) (d b p:Nat) (lg:Int):Inv fd (Dv.mk (Nand.new d b p) (Tl.new d b p) (Tb.new lg) (-1) 0 0 1):=by
 refine⟨Nand.Lit.new d b p,λi _=>(NoF.new d b p lg).dead i,λa ha=>(by cases ha),λ_ _ _=>⟨rfl,rfl⟩,⟨by show L.set 0=true;decide,λd hd=>(by have:L.has 0 d=true:=hd;rw[L.has_zero]at this;cases this)⟩,λbb hb=>?_, .inl rfl,λbb hb hu e he=>rfl,λi a ha=>(by cases ha)⟩;have:(Tl.new d b p).at_ bb=Sb.zero:=by
  unfold Tl.new Tl.at_;dsimp only;rw[f9,D8];split<;>rfl
 show L.set ((Tl.new d b p).at_ bb).bad=true/\_;rw[this];refine⟨by decide,λe he=>?_⟩;have he:L.has 0 e=true:=he;rw[L.has_zero]at he;cases he
theorem b4o {N:Nand} {d b r:Int} (h:N.readE d b r≠0):(M.look N d b r).2≠1:=by
 unfold M.look;simp only;rw[g7 h];split
 ·decide
 ·split<;>decide
theorem V.standOf_true:∀(l:List Fnd),l≠[]->(V.standOf l).2=true:=by
 intro l hl;obtain⟨l',x,rfl⟩:∃l' x,l=l'++[x]:=⟨l.dropLast,l.getLast hl,(a0x hl).symm⟩;rw[V.standOf_snoc];split
 ·rfl
 ·rename_i h;rcases Bool.eq_false_or_eq_true (V.standOf l').2 with e | e
  ·exact e
  ·exact absurd (.inl e) h
theorem a6M (q:Nat) (t:Tl) (hb:t.b<=1000) (hl:t.l.length=t.b) (k:Int) (on:Bool):FP 153 [pp q,iI k, .bool on] [TlA q t] (Ps (.tuple #[]) [TlA q (t.clean k on)]):=by
 refine FE [2,0,0] Tryz.func153 λX F hX=>?_;refine J.o (α:=Nat) 1 λg=>?_;refine J.qp (a5I q t hb g k) [1,2] λ_=>?_;cases hh:t.has k with
 | false=>
  rw[Tl.adr,hh,g7 (by simp)];refine J.qF λ_=>?_;refine J.q λ_=>?_;refine J.cl (λg:Nat=>TlP q t g) g [1,2] ?_;refine J.q λ_=>?_;refine J.f [1] ?_;exact⟨rfl,by rw[Tl.clean,Tl.set,hh];rfl⟩
 | true=>
  rw[Tl.adr,hh,i3 rfl];refine J.qT λ_=>?_;refine J.q λ_=>?_;refine J.s1 2 ((t.clean k on).l.flatMap sbL) ?_ ?_ ?_
  ·rw[t.len_l,hl];simp only[Tl.has,i4,d7]at hh;omega
  ·exact t.set_at hl hh 2 (by omega) _ _ rfl
  refine J.close (f:=λg:Nat=>TlP q (t.clean k on) g) g [1,2] rfl (by simp only[TlP,Tl.clean,Tl.set_d,Tl.set_b,Tl.set_p,Tl.set_dead];rfl) rfl ?_;refine J.q λ_=>?_;refine J.f [1] ?_;exact⟨rfl,rfl⟩
theorem a4q (q:Nat) (t:Tl) (d:Int):FP 104 [pp q,iI d] [TlA q t] (Ps (.tuple #[]) [TlA q (t.die d)]):=by
 refine FE [2,0] Tryz.func104 λX F hX=>?_;refine J.o (α:=Nat) 1 λg=>?_;refine J.qp (b5E q t g d) [1,2] λ_=>?_;refine J.qd (λ_ h1=>?_) λ_ h1=>?_
 ·refine J.qp (b0c t.dead d) [] λ_=>?_;have he:t.die d=⟨t.d,t.b,t.p,t.l,L.with_ t.dead d⟩:=by rw[Tl.die,i3 h1]
  refine J.q λ_=>?_;refine J.close (f:=λg:Nat=>TlP q (t.die d) g) g [1,2] rfl (by rw[he];rfl) rfl ?_;refine J.q λ_=>?_;refine J.f [1] ?_;exact⟨rfl,rfl⟩
 ·refine J.q λ_=>?_;refine J.cl (λg:Nat=>TlP q t g) g [1,2] ?_;refine J.q λ_=>?_;refine J.f [1] ?_;exact⟨rfl,by rw[Tl.die,g7 (by rw[h1];simp)];rfl⟩
theorem c0s (a b:Int):(if b>a then b else a)=max a b:=by split<;>omega
def a1F (p n t l:Nat) (S:Dv):Atom:= .pt p 221 [pp n,pp t,pp l,iI S.op,iI S.row,iI S.mask,iI S.next]
def DvP (p n t l:Nat) (S:Dv):List Atom:=[a1F p n t l S,B1 n S.N,TlA t S.t,TbA l S.T]
theorem b6h (n t l:Nat) (next:Int) (h: -9223372036854775808<=next/\next<=9223372036854775807) (N:Nand) (tl:Tl) (T:Tb):FP 89 [pp n,pp t,pp l,iI next] [] (λv As=>∃p,v=pp p/\As=[a1F p n t l ⟨N,tl,T,-1,0,0,max next 1⟩]):=by
 refine FE [0,0,0,0] Tryz.func89 λX F hX=>?_;refine J.q λbb=>?_;rw[c0s];refine J.qr [1] λ_=>?_;exact⟨bb 0,rfl,rfl⟩
theorem a2w (p n t l:Nat) (S:Dv):FP 93 [pp p] [a1F p n t l S] (Ps (iI S.op) [a1F p n t l S]):=by
 refine FE [2] Tryz.func93 λX F hX=>?_;refine J.qF λ_=>?_;exact J.qx [1]
theorem b3e (p n t l:Nat) (S:Dv):FP 217 [pp p] (DvP p n t l S) (Ps (.bool S.left) (DvP p n t l S)):=by
 refine FE [2] Tryz.func217 λX F hX=>?_;refine J.pn 6 (.of [0,4,8,13,16,20,24,28,32,37,40,44,48,53,58,60,64,68,72,76,80,84,89,94,96,100,104]) [26] [1,2,3,4] λ_ _=>?_;cases h1:decide (S.op>=0)with
 | false=>
  refine J.q λ_=>?_;refine J.val hX (.agg #[iI 0,iI 0,iI 0]) 0 rfl rfl (λhg a w he hs=>absurd hg (by simp[G.on])) rfl stq ?_;refine J.q λ_=>?_;refine J.val hX (iI 0) 0 rfl rfl (λhg a w he hs=>absurd hg (by simp[G.on])) rfl stq ?_;refine J.qr [1,2,3,4] λ_=>?_;exact⟨by unfold Dv.left;rw[h1];rfl,rfl⟩
 | true=>
  refine J.qp (a1s n S.N) [2] λ_=>?_;refine J.qn 2 λ_=>?_;cases h2:decide (S.row<(S.N.pages:Int))with
  | false=>
   refine J.q λ_=>?_;refine J.val hX (iI 0) 0 rfl rfl (λhg a w he hs=>absurd hg (by simp[G.on])) rfl stq ?_;refine J.qr [1,2,3,4] λ_=>?_;exact⟨by unfold Dv.left;rw[h1,h2];rfl,rfl⟩
  | true=>
   refine J.qp (a0N S.mask) [] λ_=>?_;refine J.qr [1,2,3,4] λ_=>?_;exact⟨by unfold Dv.left;rw[h1,h2],rfl⟩
theorem b1a (p n t l:Nat) (S:Dv) (hb:S.t.b<=1000) (hl:S.t.l.length=S.t.b):FP 169 [pp p] (DvP p n t l S) (Ps (iI S.slots) (DvP p n t l S)):=by
 refine FE [2] Tryz.func169 λX F hX=>?_;refine J.qF λ_=>?_;refine J.qp (b3e p n t l S) [1,2,3,4] λ_=>?_;refine J.qd (λ_ h1=>?_) λ_ h1=>?_
 ·refine J.qp (a0N S.mask) [] λ_=>?_;refine J.qr [1,2,3,4] λ_=>?_;exact⟨by unfold Dv.slots;rw[i3 h1],rfl⟩
 refine J.p (.of [0,4,8,13,16,20,24,29,32,36,40,45,48,52,56,61,66,70,74,76]) [19] [1,2,3,4] λ_=>?_;refine J.qp (b2l t S.t hb hl l S.T S.op) [3,4] λ_=>?_;refine J.qp (a1M t S.t hb hl S.pick) [3] λ_=>?_;refine J.qp (a0N (S.t.mask S.pick)) [] λ_=>?_;refine J.qr [1,2,3,4] λ_=>?_;exact⟨by unfold Dv.slots;rw[g7 (by rw[h1];decide)],rfl⟩
theorem b0Y (p n t l:Nat) (S:Dv) (hb:S.t.b<=1000) (hl:S.t.l.length=S.t.b):FP 218 [pp p] (DvP p n t l S) (Ps (iI (if S.pick<0 then 11 else 0)) (DvP p n t l (if S.pick<0 then S else S.opened))):=by
 refine FE [2] Tryz.func218 λX F hX=>?_;refine J.p (.of [0,4,8,13,16,20,24,29,32,36,40,45,51,52]) [12,13] [1,2,3,4] λ_=>?_;refine J.qp (b2l t S.t hb hl l S.T S.op) [3,4] λ_=>?_;refine J.qd (λ_ h1=>?_) λ_ h1=>?_
 ·simp only[d7]at h1;have h1:S.pick<0:=h1;refine J.qr [1,2,3,4] λ_=>?_;rw[i3 h1,i3 h1];exact⟨rfl,rfl⟩
 simp only[c9]at h1;have h1:¬S.pick<0:=h1;refine J.qp (a6M t S.t hb hl S.pick false) [3] λ_=>?_;refine J.qp (a1M t (S.t.clean S.pick false) (by unfold Tl.clean;rw[Tl.set_b];exact hb) (by unfold Tl.clean;rw[Tl.set_len,Tl.set_b];exact hl) S.pick) [3] λ_=>?_;refine J.qr [1,2,3,4] λ_=>?_;rw[g7 h1,g7 h1];exact⟨rfl,rfl⟩
theorem b6g (p n t l:Nat) (S:Dv) (hN:S.N.Ok) (hF:S.t.Fit S.N) (f:Int):FP 220 [pp p,iI f] (DvP p n t l S) (Ps (.tuple #[]) (DvP p n t l (S.loses f))):=by
 have hbd:=hN.bd16;refine FE [2,0] Tryz.func220 λX F hX=>?_;refine J.qp (a1s n S.N) [2] λ_=>?_;refine J.q λ_=>?_;refine J.l (α:=(Nat×Dv)) (λz=>z.1<=S.N.dies/\z.2=(List.range z.1).foldl (Dv.lose f) S) (λz=>[si 11 z.1,si 10 S.N.dies,⟨0,pp p,2, .tt⟩,si 1 f]) [1,2,3,4] (λz=>DvP p n t l z.2) (λz=>S.N.dies-z.1) ((0,S)) (⟨l8 _,rfl⟩) λz hI=>?_;obtain⟨k,Q⟩:=z;dsimp only at hI ⊢;obtain⟨hk,hQ⟩:=hI;obtain⟨q1,q2,q3,q4,q5,q6,q7⟩:=Dv.foldl_lose f (List.range k) S hF;rw[<- hQ]at q1 q2 q3 q4 q5 q6 q7;have hlb:Q.t.l.length=Q.t.b:=q6.len;have hbb:Q.t.b<=1000:=by have:=q6.b;omega
 refine J.qd (λ_ h1=>?_) λ_ h1=>?_
 ·simp only[d7,j3]at h1;have hs:(List.range (k+1)).foldl (Dv.lose f) S=Dv.lose f Q k:=by rw[x6,A7,<- hQ];rfl
  refine J.qp (a9b f k) [] λ_=>?_;refine J.qd (λ_ h2=>?_) λ_ h2=>?_
  ·simp only[i7]at h2;have hz:Dv.lose f Q k=Q:=by unfold Dv.lose;rw[g7 (by rw[h2];decide)]
   refine J.q λ_=>?_;refine J.n ((k+1,Q)) (⟨by dsimp only;omega,by dsimp only;rw[hs,hz]⟩) (by dsimp only;omega) [0,1,2,3,4]
  simp only[A5]at h2;refine J.qp (a7o n Q.N (by rw[q1];exact hN) k) [2] λ_=>?_;refine J.qd (λ_ h3=>?_) λ_ h3=>?_
  ·have hz:Dv.lose f Q k={Q with t:=Q.t.die k,mask:=L.without Q.mask k}:=by unfold Dv.lose;rw[i3 h2,i3 h3]
   refine J.qp (a4q t Q.t k) [3] λ_=>?_;refine J.qp (a3E Q.mask k) [] λ_=>?_;refine J.q λ_=>?_;refine J.n ((k+1,{Q with t:=Q.t.die k,mask:=L.without Q.mask k})) (⟨by dsimp only;omega,by dsimp only;rw[hs,hz]⟩) (by dsimp only;omega) [0,1,2,3,4]
  ·have hz:Dv.lose f Q k={Q with t:=Q.t.bad k Q.op,mask:=L.without Q.mask k}:=by unfold Dv.lose;rw[i3 h2,g7 (by rw[h3];decide)]
   refine J.p (.of [0,4,8,13,16,20,24,28,33,38]) [] [1,2,4] λ_=>?_;refine J.qp (b2b t Q.t hbb hlb k Q.op) [3] λ_=>?_;refine J.qp (a3E Q.mask k) [] λ_=>?_;refine J.q λ_=>?_;refine J.n ((k+1,{Q with t:=Q.t.bad k Q.op,mask:=L.without Q.mask k})) (⟨by dsimp only;omega,by dsimp only;rw[hs,hz]⟩) (by dsimp only;omega) [0,1,2,3,4]
 ·simp only[c9,j3]at h1;obtain rfl:k=S.N.dies:=by omega
  refine J.q λ_=>?_;refine J.f [1,2,3,4] ?_;exact⟨rfl,by rw[hQ];rfl⟩
end Go.Proofs.YtpakpgkdpofbhaaGreat
