/- Helpers. No condition. -/
import Derived.Test.YtmafiplddapokaaGreatU10
set_option maxRecDepth 20000
set_option linter.all false
namespace Go.Proofs.YtmafiplddapokaaGreat
open Go Go.RowKit
theorem b3J {l:List En} {next:Int} {n:Nat} {e:En} (h:e∈Dv.num l next n):(∃i,i<l.length/\i<n/\e={l.getD i En.zero with seq:=next+i})\/e=En.pad:=by
 simp only[Dv.num,P9,J5]at h;obtain⟨i,hi,rfl⟩:=h;unfold Dv.numAt;split
 ·rename_i h;exact .inl ⟨i,h,hi,rfl⟩
 ·exact .inr rfl
theorem a7c {l:List En} {next:Int} {n k:Nat} (hk:k<n):(Dv.num l next n).getD k En.zero=Dv.numAt l next k:=by
 unfold Dv.num;rw[d7,i9,I4 hk];rfl
theorem U9 {l:List En} {i:Nat} (h:i<l.length):l.getD i En.zero∈l:=by
 rw[d7,c9 h];exact H6 _
namespace Inv
variable {fd : Int} {S : Dv} {k m : Nat} {l : List En}
theorem opn (h:Inv fd S) (hl:S.left=true):Opn fd S:=by
 rcases h.op with e | e
 ·have:=Dv.left_spec hl;omega
 ·exact e
theorem rowIs (h:Inv fd S) (hO:S.Ok k m) (hl:S.left=true) (hf:∀e∈l,FitR e) (hn:¬S.next>1099511627775-(S.fit l:Int)+1):RowIs S.N S.op S.row S.mask (S.es l):=by
 have ho:=h.opn hl;have hs:=Dv.left_spec hl;have hg:=hO.gd.ok.bd16;have hx:=hO.next;obtain⟨m1,m2,m3,m4⟩:=ho.mask.slots hg.1;have hrow:=ho.row;have hblk:=ho.blk;refine⟨hg.1.2,ho.blk,⟨hrow.1,hs.2.1⟩,⟨m3,m4⟩,Dv.num_data (λe he=>(hf e he).len) _ _,?_⟩;unfold W.parB;have h1:decide (((S.es l).length:Int)=G.slots S.mask)=true:=by rw[Dv.es_len];exact i6 (by omega)
 have h2:(!(S.es l).isEmpty)=true:=by
  cases he:S.es l with
  | nil=>have:=Dv.es_len S l;rw[he]at this;simp at this;omega
  | cons x y=>rfl
 rw[h1,h2,q9,q9,D9];intro e he;rcases b3J he with⟨i,hi,hin,rfl⟩ | rfl
 ·have hfe:=hf _ (U9 hi);refine c0n ⟨hblk.1,by omega⟩ ⟨hrow.1,by omega⟩ m2 ⟨?_,?_⟩ (.inl ⟨hfe.lpn,hfe.role,hfe.len⟩)
  ·show 0<=S.next+(i:Int);omega
  ·show S.next+(i:Int)<=1099511627775;have:i<S.fit l:=by unfold Dv.fit;omega
   omega
 ·exact c0n ⟨hblk.1,by omega⟩ ⟨hrow.1,by omega⟩ m2 ⟨by decide,by decide⟩ (.inr rfl)
theorem fails_no (h:Inv fd S) {b r:Int} {d:Nat} (hd:(d:Int)≠fd):S.N.failB b r d=false/\S.N.fails d b r=false:=by
 have e1:=h.dead d hd;have e2:=(h.flags d b.toNat hd).1;have e3:S.N.fails d b r=false:=by
  unfold Nand.fails;rw[j4,e2,Bool.or_false];refine n8 λhm=>?_;exact hd (h.plan _ hm)
 refine⟨?_,e3⟩;unfold Nand.failB;rw[e3,Bool.or_false,j4,e1]
structure Turn (fd:Int) (S:Dv) (l:List En):Prop where
 inv:Inv fd (S.wrote l)
 full:Full fd (S.wrote l).N S.op S.row S.mask (S.es l)
 err:(S.wr l).2.2=if(S.wr l).2.1=0 then 0 else 7
 set:L.set (S.wr l).2.1=true
 only:∀d:Int,L.has (S.wr l).2.1 d=true->d=fd/\L.has S.mask fd=true
 fail:∀d:Nat,L.has S.mask (d:Nat)=true->L.has (S.wr l).2.1 (d:Nat)=S.N.failB S.op S.row d
 dead:(S.wrote l).N.dead=S.N.dead
 broken:(S.wrote l).N.broken=S.N.broken
 like:S.N.Like (S.wrote l).N
 plan:∀a∈(S.wrote l).N.plan,a∈S.N.plan
 rest:∀i j,j≠S.op.toNat->(S.wrote l).N.blk i j=S.N.blk i j
 flags:∀i j,((S.wrote l).N.blk i j).met=(S.N.blk i j).met/\((S.wrote l).N.blk i j).fails=(S.N.blk i j).fails/\((S.wrote l).N.blk i j).worn=(S.N.blk i j).worn
 ops:(S.wrote l).N.ops=S.N.ops+(((R.job S.op S.row S.mask (S.es l)).filter λx=>!S.N.dead.getD x.1.toNat false).length:Int)
theorem turn (h:Inv fd S) (hO:S.Ok k m) (hl:S.left=true) (hf:∀e∈l,FitR e) (hn:¬S.next>1099511627775-(S.fit l:Int)+1):Turn fd S l:=by
 have ho:=h.opn hl;have hs:=Dv.left_spec hl;have hg:=hO.gd.ok.bd16;have hR:=h.rowIs hO hl hf hn;have hrdy:RdyW S.N S.op S.row S.mask:=⟨h.lit,λd hd ha=>(ho.cells d hd).2 ha⟩;have hq:=hrdy.rdy hR;obtain⟨w1,w2,w3⟩:=a3X hrdy hR;have hin:=hR.inn;have hq8:∀x∈R.job S.op S.row S.mask (S.es l),0<=x.1/\x.1<8:=λx hx=>by have:=hin x hx;omega
 obtain⟨f1,f2⟩:=a6e (N:=S.N) (b:=S.op) (r:=S.row) _ 0 (by decide) hq8;have w3:WroteR S.N (S.wrote l).N S.op S.row (R.job S.op S.row S.mask (S.es l)):=w3;have w1:(S.wr l).2.1=a0m S.N S.op S.row (R.job S.op S.row S.mask (S.es l)) 0:=w1;have w2:(S.wr l).2.2=if a0m S.N S.op S.row (R.job S.op S.row S.mask (S.es l)) 0=0 then 0 else 7:=w2
 have hfail:∀d:Nat,L.has S.mask (d:Nat)=true->L.has (S.wr l).2.1 (d:Nat)=S.N.failB S.op S.row d:=λd hd=>by
  rw[w1,f2,L.has_zero,D2,a2d,a1A];constructor
  ·rintro⟨x,hx,hh⟩;simp only[f7,d5]at hh;rw[<- hh.1];exact hh.2
  ·intro hh;obtain⟨x,hx,hxd⟩:=hR.on hd;exact⟨x,hx,by rw[hxd,hh];simp⟩
 have honly:∀d:Int,L.has (S.wr l).2.1 d=true->d=fd/\L.has S.mask fd=true:=λd hd=>by
  rw[w1,f2,L.has_zero,D2,a1A]at hd;obtain⟨x,hx,hh⟩:=hd;simp only[f7,d5]at hh;have hxi:=hin x hx;obtain⟨e,he⟩:=f9 hxi.1
  by_cases hne:(e:Int)=fd
  ·rw[<- hne,<- he];exact⟨hh.1.symm,hxi.2.2⟩
  ·have:=(h.fails_no (b:=S.op) (r:=S.row) hne).1;rw[<- he,hh.2]at this;cases this
 have hrow:=ho.row;have hblk:=ho.blk;have hcells:∀d:Nat,L.has S.mask (d:Nat)=true->(((S.wrote l).N.blk d S.op.toNat).cells.length:Int)<=S.row+1/\(S.N.dead.getD d false=false->(((S.wrote l).N.blk d S.op.toNat).cells.length:Int)=S.row+1):=λd hd=>by
  obtain⟨x,hx,hxd⟩:=hR.on hd;have hc:=w3.cells x hx;have ho2:=ho.cells d hd;rw[hxd,j4]at hc;rw[hc];cases hdd:S.N.dead.getD d false with
  | true=>rw[d8 rfl];exact⟨by omega,λe=>by cases e⟩
  | false=>
   rw[d6 l9,f8];have:=ho2.2 hdd;simp only[l5,a0P];exact⟨by omega,λ_=>by omega⟩
 have hfull:Full fd (S.wrote l).N S.op S.row S.mask (S.es l):=by
  refine⟨hR.like w3.like,λx hx hne=>?_,λx hx c hc=>?_⟩
  ·have hxi:=hin x hx;obtain⟨e,he⟩:=f9 hxi.1;have hc:=w3.cells x hx;have hne':(e:Int)≠fd:=by rw[<- he];exact hne
   have hxm:=hxi.2.2;rw[he]at hxm;have hlen:=(ho.cells e hxm).2 (h.dead e hne');rw[he,j4,h.dead e hne',d6 l9,(h.fails_no (b:=S.op) (r:=S.row) hne').2]at hc;refine⟨⟨O9 x.2,false,false⟩,?_,rfl,a5Z (hR.sh x hx).1⟩;unfold Nand.pageAt;rw[he,j4,hc,B2 (by omega),show S.row.toNat-(S.N.blk e S.op.toNat).cells.length=0 from by omega];rfl
  ·have hxi:=hin x hx;obtain⟨e,he⟩:=f9 hxi.1;have hxm:=hxi.2.2;have hcc:=w3.cells x hx;unfold Nand.pageAt at hc;rw[hcc]at hc;rw[he]at hxm;have hlen:=ho.cells e hxm;rw[he,j4]at hc;cases hdd:S.N.dead.getD e false with
   | true=>
    rw[hdd,d8 rfl,j5 (by omega)]at hc;cases hc
   | false=>
    have:=hlen.2 hdd;rw[hdd,d6 l9,B2 (by omega),show S.row.toNat-(S.N.blk e S.op.toNat).cells.length=0 from by omega]at hc;simp only[M2,l6]at hc;subst hc;exact .inr (.inl rfl)
 refine⟨⟨w3.lit,λi hi=>by rw[w3.dead];exact h.dead i hi,λa ha=>h.plan a (w3.plan a ha),λi j hi=>by have:=w3.flags i j;rw[this.1,this.2.1];exact h.flags i j hi,h.tdead,h.tbad, .inr ⟨by rw[show(S.wrote l).N.blocks=S.N.blocks from w3.like.blocks];exact ho.blk,ho.used,by rw[show(S.wrote l).N.pages=S.N.pages from w3.like.pages];show 0<=S.row+1/\S.row+1<=_;omega,by rw[show(S.wrote l).N.dies=S.N.dies from w3.like.dies];exact ho.mask,λd hd=>by rw[w3.dead];exact hcells d hd⟩,λb hb hu d hd=>?_,λi a ha=>?_⟩,hfull,by rw[w2,w1],by rw[w1];exact f1,honly,hfail,w3.dead,w3.broken,w3.like,w3.plan,λi j hj=>w3.rest i j (.inl hj),w3.flags,w3.ops⟩
 ·have hbi:=Tl.has_iff.1 hb;have hne:b≠S.op:=λe=>by rw[e]at hu;have:=ho.used;rw[show(S.wrote l).t=S.t from rfl]at hu;rw[hu]at this;cases this
  rw[w3.rest _ _ (.inl (by omega))];exact h.blank b hb hu d hd
 ·have hst:=h.st i a ha;obtain⟨lr,g1,g2,g3,g4,g5,g6⟩:=hst.row;refine⟨⟨lr,g1.keep w3.like λx hx=>w3.page hq (g1.is.inn x hx).1 g1.is.blk.1 g1.is.row.1 (λe=>by have:=hst.below e;omega),g2,g3,g4,g5,g6⟩,hst.used,λe=>by have:=hst.below e;show a.row<S.row+1;omega,?_⟩;have:=hst.seq;show 1<=a.seq/\a.seq<S.next+(S.fit l:Int);omega
theorem put (h:Inv fd S) {b r mk:Int} {es:List En} (hfull:Full fd S.N b r mk es) (hu:(S.t.at_ b).used=true) (hbel:b=S.op->r<S.row) {n:Nat} (hn:n<es.length) (hs:1<=(es.getD n En.zero).seq/\(es.getD n En.zero).seq<S.next):Inv fd {S with T:=S.T.put (es.getD n En.zero) b r n mk}:=by
 refine⟨h.lit,h.dead,h.plan,h.flags,h.tdead,h.tbad,?_,h.blank,λi a ha=>?_⟩
 ·rcases h.op with e | e
  ·exact .inl e
  ·exact .inr ⟨e.blk,e.used,e.row,e.mask,e.cells⟩
 ·have ha:Tb.look (S.T.put (es.getD n En.zero) b r n mk).at_ i=some a:=ha;rw[V.look_put]at ha;split at ha
  ·rename_i hc;injection ha with ha;subst ha;refine⟨⟨es,hfull.w _,K9 n,by show((n:Nat):Int).toNat<_;omega,by show(es.getD ((n:Nat):Int).toNat En.zero).lpn=i;rw[j4];exact hc.2.symm,by show(es.getD ((n:Nat):Int).toNat En.zero).seq=_;rw[j4],by show(es.getD ((n:Nat):Int).toNat En.zero).role=_;rw[j4]⟩,hu,hbel,hs⟩
  ·have:=h.st i a ha;exact⟨this.row,this.used,this.below,this.seq⟩
theorem puts (h:Inv fd S) {b r mk:Int} {es:List En} (hfull:Full fd S.N b r mk es) (hu:(S.t.at_ b).used=true) (hbel:b=S.op->r<S.row) (T:Tb) (hT:S.T=T):∀n,n<=es.length->(∀i,i<n->1<=(es.getD i En.zero).seq/\(es.getD i En.zero).seq<S.next)->Inv fd {S with T:=Dv.puts T b r mk es n}
 | 0,_,_=>by subst hT;exact h
 | n+1,hn,hs=>by
  have ih:=h.puts hfull hu hbel T hT n (by omega) λi hi=>hs i (by omega);rw[Dv.puts_succ];exact put (S:={S with T:=Dv.puts T b r mk es n}) ih hfull hu hbel (by omega) (hs n (by omega))
end Inv
def Dv.rows (S:Dv):Nat:=S.N.pages*S.t.blanks+(if S.op>=0 then(S.N.pages-S.row).toNat else 0)
structure NoF (S:Dv):Prop where
 dead:∀i:Nat,S.N.dead.getD i false=false
 plan:S.N.plan=[]
 met:∀i j:Nat,(S.N.blk i j).met=false
 fl:∀i j:Nat,(S.N.blk i j).fails=false
theorem NoF.fails {S:Dv} (h:NoF S) (b r:Int) (d:Nat):S.N.failB b r d=false:=by
 unfold Nand.failB Nand.fails;rw[j4,h.dead,h.plan,h.met];rfl
structure Went (fd:Int) (S Q:Dv) (β:Nat):Prop where
 inv:Inv fd Q
 T:Q.T=S.T
 next:S.next<=Q.next/\Q.next<=S.next+7*(β:Int)
 dead:Q.N.dead=S.N.dead
 broken:Q.N.broken=S.N.broken
 like:S.N.Like Q.N
 plan:∀a∈Q.N.plan,a∈S.N.plan
 flags:∀i j,(Q.N.blk i j).met=(S.N.blk i j).met/\(Q.N.blk i j).fails=(S.N.blk i j).fails/\(Q.N.blk i j).worn=(S.N.blk i j).worn
 rows:Q.rows+β=S.rows
 reads:∀i a,Std fd S i a->R.read Q.N a.block a.row a.slot a.mask=R.read S.N a.block a.row a.slot a.mask
 stay:∀i a,Std fd S i a->Std fd Q i a
 sb:∀b,S.t.has b=true->(Q.t.at_ b).wear=(S.t.at_ b).wear/\(Q.t.at_ b).held=(S.t.at_ b).held/\((S.t.at_ b).used=true->(Q.t.at_ b).used=true)
 td:∀d:Int,L.has S.t.dead d=true->L.has Q.t.dead d=true
namespace Inv
variable {fd : Int} {S : Dv} {k m : Nat} {l : List En}
theorem std_same {S Q:Dv} (hN:Q.N=S.N) (hu:∀b,S.t.has b=true->(S.t.at_ b).used=true->(Q.t.at_ b).used=true) (hb:S.t.b=S.N.blocks) (hop:∀a:AtV,(a.block=S.op->a.row<S.row)->(a.block=Q.op->a.row<Q.row)\/(S.t.at_ a.block).used=false) (hn:S.next<=Q.next) {i:Int} {a:AtV} (h:Std fd S i a):Std fd Q i a:=by
 obtain⟨lr,g1,g2⟩:=h.row;have hhas:S.t.has a.block=true:=by
  have:=g1.is.blk;exact Tl.has_iff.2 (by omega)
 have hs:=h.seq;refine⟨⟨lr,by rw[hN];exact g1,g2⟩,hu _ hhas h.used,?_,by omega⟩;rcases hop a h.below with e | e
 ·exact e
 ·rw[h.used]at e;cases e
theorem opens (h:Inv fd S) (hO:S.Ok k m) (hl:S.left=false) (hp:¬S.pick<0):Went fd S S.opened 0/\S.opened.left=true/\S.opened.mask=S.t.mask S.pick:=by
 have hg:=hO.gd.ok.bd16;have hb:=hO.t.b;have hlen:=hO.t.len;rcases S.pick_spec with e | ⟨p1,p2,p3,p4⟩
 ·omega
 have hhas:S.t.has S.pick=true:=Tl.has_iff.2 ⟨p1,p2⟩;have hbl:=Dv.pick_blank hp;have hbl2:=Tl.blanks_open hlen hbl;have hunu:(S.t.at_ S.pick).used=false:=by simp only[Tl.blank,f7,i4]at hbl;exact hbl.2
 have hmk:∀j,(S.t.clean S.pick false).mask j=S.t.mask j:=λj=>Dv.mask_clean hlen _ _ _;have hmsk:=h.msk hO hhas;have hat:∀b,S.t.has b=true->(S.opened.t.at_ b)=if b=S.pick then {S.t.at_ S.pick with used:=true}else S.t.at_ b:=λb hb=>Tl.at_set hlen _ hhas hb
 have hleft:S.opened.left=true:=by
  have:=(hmsk.pos hg.1).1;unfold Dv.left;have e1:S.opened.op=S.pick:=rfl;have e2:S.opened.row=0:=rfl;have e3:S.opened.mask=S.t.mask S.pick:=hmk _;have e4:S.opened.N=S.N:=rfl;rw[e1,e2,e3,e4,i6 (by omega),i6 (by omega),i6 (by omega)];rfl
 have hdd:S.opened.t.dead=S.t.dead:=Tl.set_dead _ _ _;have hhs:∀b,S.opened.t.has b=S.t.has b:=λb=>Tl.has_set _ _ _ _;have hopn:Opn fd S.opened:=⟨⟨p1,by show S.pick<S.N.blocks;omega⟩,by show(S.opened.t.at_ S.pick).used=true;rw[hat _ hhas,d8 rfl],by show(0:Int)<=0/\(0:Int)<=S.N.pages;omega,by show Msk S.N.dies fd (Tl.mask _ _);rw[hmk];exact hmsk,λd hd=>by
  have hd:L.has (Tl.mask (S.t.clean S.pick false) S.pick) (d:Nat)=true:=hd;rw[hmk]at hd;have:=h.blank S.pick hhas hunu d hd;show((S.N.blk d S.pick.toNat).cells.length:Int)<=0/\(_->((S.N.blk d S.pick.toNat).cells.length:Int)=0);rw[this];simp⟩
 have hrow0:S.op>=0->S.N.pages<=S.row:=λh0=>by
  rcases h.op with e | e
  ·omega
  ·have hps:=(e.mask.pos hg.1).1;cases hh:decide (S.row<S.N.pages)with
   | false=>have:=of_decide_eq_false hh;omega
   | true=>
    have:S.left=true:=by
     unfold Dv.left;rw[i6 h0,hh,i6 (by omega)];rfl
    rw[hl]at this;cases this
 have hstd:∀i a,Std fd S i a->Std fd S.opened i a:=λi a ha=>std_same (S:=S) (Q:=S.opened) rfl (λb hb hu=>by
   rw[hat b hb];split
   ·rfl
   ·exact hu) hb (λa _=>by
   by_cases e:a.block=S.pick
   ·right;rw[e];exact hunu
   ·left;intro e2;exact absurd e2 e) (J7 _) ha
 refine⟨⟨⟨h.lit,h.dead,h.plan,h.flags,by rw[hdd];exact h.tdead,λb hb=>?_, .inr hopn,λb hb hu d hd=>?_,λi a ha=>hstd i a (h.st i a ha)⟩,rfl,⟨J7 _,by show S.next<=S.next+_;omega⟩,rfl,rfl,Nand.Like.refl _,λ_ h=>h,λ_ _=>⟨rfl,rfl,rfl⟩,?_,λ_ _ _=>rfl,hstd,λb hb=>?_,λd hd=>by rw[hdd];exact hd⟩,hleft,hmk _⟩
 ·have hb':S.t.has b=true:=by rw[<- hhs];exact hb
  rw[hat b hb'];split
  ·rename_i e;subst e;exact h.tbad _ hhas
  ·exact h.tbad b hb'
 ·have hb':S.t.has b=true:=by rw[<- hhs];exact hb
  have hd:L.has (Tl.mask (S.t.clean S.pick false) b) (d:Nat)=true:=hd;rw[hmk]at hd;rw[hat b hb']at hu;split at hu
  ·cases hu
  ·exact h.blank b hb' hu d hd
 ·unfold Dv.rows;have e1:S.opened.t.blanks=(S.t.clean S.pick false).blanks:=rfl;have e2:S.opened.N.pages=S.N.pages:=rfl;have e3:S.opened.op=S.pick:=rfl;have e4:S.opened.row=0:=rfl;rw[e1,e2,e3,e4,d8 (by omega)];have:S.N.pages*S.t.blanks=S.N.pages*(S.t.clean S.pick false).blanks+S.N.pages:=by rw[<- hbl2,H3]
  rw[this]
  by_cases h0:S.op>=0
  ·have:=hrow0 h0;rw[d8 h0];omega
  ·rw[d6 h0];omega
 ·rw[hat b hb];split
  ·rename_i e;subst e;exact⟨rfl,rfl,λ_=>rfl⟩
  ·exact⟨rfl,rfl,λh=>h⟩
theorem turn_std (h:Inv fd S) (ht:Turn fd S l) (hO:S.Ok k m) (hl:S.left=true) (hf:∀e∈l,FitR e) (hn:¬S.next>1099511627775-(S.fit l:Int)+1) {i:Int} {a:AtV} (ha:Std fd S i a):Std fd (S.wrote l) i a/\R.read (S.wrote l).N a.block a.row a.slot a.mask=R.read S.N a.block a.row a.slot a.mask:=by
 have ho:=h.opn hl;have hR:=h.rowIs hO hl hf hn;have hrdy:RdyW S.N S.op S.row S.mask:=⟨h.lit,λd hd ha=>(ho.cells d hd).2 ha⟩;have hq:=hrdy.rdy hR;have w3:WroteR S.N (S.wrote l).N S.op S.row (R.job S.op S.row S.mask (S.es l)):=(a3X hrdy hR).2.2;obtain⟨lr,g1,g2,g3,g4,g5,g6⟩:=ha.row;have hk:FullW fd (S.wrote l).N a.block a.row a.mask lr a.slot.toNat:=g1.keep w3.like λx hx=>w3.page hq (g1.is.inn x hx).1 g1.is.blk.1 g1.is.row.1 (λe=>by have:=ha.below e;omega);have hs:=ha.seq;refine⟨⟨⟨lr,hk,g2,g3,g4,g5,g6⟩,ha.used,λe=>by have:=ha.below e;show a.row<S.row+1;omega,by show 1<=a.seq/\a.seq<S.next+(S.fit l:Int);omega⟩,?_⟩;have r1:=hk.read ht.inv.lit.off ht.inv.dead g3;have r2:=g1.read h.lit.off h.dead g3;rw[show((a.slot.toNat:Nat):Int)=a.slot from by omega]at r1 r2;rw[r1,r2]
end Inv
structure TlMore (fd:Int) (t t':Tl):Prop where
 has:∀b,t'.has b=t.has b
 d:t'.d=t.d
 used:∀b,t.has b=true->(t'.at_ b).used=(t.at_ b).used
 held:∀b,t.has b=true->(t'.at_ b).held=(t.at_ b).held
 tdead:L.set t'.dead=true/\∀d:Int,L.has t'.dead d=true->d=fd
 tbad:∀b,t.has b=true->L.set (t'.at_ b).bad=true/\∀d:Int,L.has (t'.at_ b).bad d=true->d=fd
 mask:∀b,t.has b=true->∀e:Int,L.has (t'.mask b) e=true->L.has (t.mask b) e=true
 td:∀e:Int,L.has t.dead e=true->L.has t'.dead e=true
theorem TlMore.refl {fd:Int} {t:Tl} (h1:L.set t.dead=true/\∀d:Int,L.has t.dead d=true->d=fd) (h2:∀b,t.has b=true->L.set (t.at_ b).bad=true/\∀d:Int,L.has (t.at_ b).bad d=true->d=fd):TlMore fd t t:=
 ⟨λ_=>rfl,rfl,λ_ _=>rfl,λ_ _=>rfl,h1,h2,λ_ _ _ h=>h,λ_ h=>h⟩
theorem TlMore.trans {fd:Int} {a b c:Tl} (h:TlMore fd a b) (g:TlMore fd b c):TlMore fd a c:=
 ⟨λx=>(g.has x).trans (h.has x),g.d.trans h.d,λx hx=>(g.used x (by rw[h.has];exact hx)).trans (h.used x hx),λx hx=>(g.held x (by rw[h.has];exact hx)).trans (h.held x hx),g.tdead,λx hx=>g.tbad x (by rw[h.has];exact hx),λx hx e he=>h.mask x hx e (g.mask x (by rw[h.has];exact hx) e he),λe he=>g.td e (h.td e he)⟩
theorem b7a {fd:Int} {t:Tl} (h8:t.d<=8) (h1:L.set t.dead=true/\∀d:Int,L.has t.dead d=true->d=fd) (h2:∀b,t.has b=true->L.set (t.at_ b).bad=true/\∀d:Int,L.has (t.at_ b).bad d=true->d=fd) {d:Nat} (hd:d<8) (hfd:(d:Int)=fd):TlMore fd t (t.die d)/\(d<t.d->∀b,t.has b=true->L.has ((t.die d).mask b) fd=false):=by
 unfold Tl.die;split
 ·have hw:=L.set_with h1.1 (d:=(d:Int)) (by omega);have hwh:=L.with_has h1.1 (d:=(d:Int)) (by omega);have hmk:∀b,t.has b=true->∀e:Int,L.has (Tl.mask ⟨t.d,t.b,t.p,t.l,L.with_ t.dead d⟩ b) e=((decide (0<=e)&&decide (e<t.d))&& !L.has (L.with_ t.dead (d:Int)) e&& !L.has (t.at_ b).bad e):=λb hb e=>(a0l (t:=⟨t.d,t.b,t.p,t.l,L.with_ t.dead d⟩) (b:=b) h8 hb hw (h2 b hb).1).2 e;refine⟨⟨λb=>rfl,rfl,λb hb=>rfl,λb hb=>rfl,⟨hw,λe he=>?_⟩,h2,λb hb e he=>?_,λe he=>?_⟩,λ_ b hb=>?_⟩
  ·have he:L.has (L.with_ t.dead (d:Int)) e=true:=he;rw[hwh]at he;rcases j6 _ _▸he with he | he
   ·exact h1.2 e he
   ·simp only[d5]at he;omega
  ·rw[hmk b hb,hwh]at he;rw[(a0l h8 hb h1.1 (h2 b hb).1).2];simp only[f7,i4,E5]at he ⊢;exact⟨⟨he.1.1,he.1.2.1⟩,he.2⟩
  ·show L.has (L.with_ t.dead (d:Int)) e=true;rw[hwh,he];rfl
  ·rw[hmk b hb,hwh,i6 hfd.symm];simp
 ·rename_i hh;refine⟨TlMore.refl h1 h2,λhlt=>?_⟩;simp only[Tl.hasDie,f7,d5]at hh;omega
theorem b7b {fd:Int} {t:Tl} (hl:t.l.length=t.b) (h8:t.d<=8) (h1:L.set t.dead=true/\∀d:Int,L.has t.dead d=true->d=fd) (h2:∀b,t.has b=true->L.set (t.at_ b).bad=true/\∀d:Int,L.has (t.at_ b).bad d=true->d=fd) {d:Nat} (hd:d<8) (hfd:(d:Int)=fd) (k:Int):TlMore fd t (t.bad d k)/\(d<t.d->t.has k=true->L.has ((t.bad d k).mask k) fd=false):=by
 unfold Tl.bad;split
 ·cases hop:t.has k with
  | false=>
   rw[Tl.set_no _ hop];exact⟨TlMore.refl h1 h2,λ_ h=>by cases h⟩
  | true=>
   have hb0:=h2 k hop;have hw:=L.set_with hb0.1 (d:=(d:Int)) (by omega);have hwh:=L.with_has hb0.1 (d:=(d:Int)) (by omega);have hat:∀b,t.has b=true->(t.set k {t.at_ k with bad:=L.with_ (t.at_ k).bad d}).at_ b=if b=k then {t.at_ k with bad:=L.with_ (t.at_ k).bad d}else t.at_ b:=λb hb=>Tl.at_set hl _ hop hb
   have hbad:∀b,t.has b=true->L.set ((t.set k {t.at_ k with bad:=L.with_ (t.at_ k).bad d}).at_ b).bad=true/\(∀e:Int,L.has ((t.set k {t.at_ k with bad:=L.with_ (t.at_ k).bad d}).at_ b).bad e=true->e=fd)/\(∀e:Int,L.has (t.at_ b).bad e=true->L.has ((t.set k {t.at_ k with bad:=L.with_ (t.at_ k).bad d}).at_ b).bad e=true):=λb hb=>by
    rw[hat b hb];split
    ·rename_i e;subst e;dsimp only;refine⟨hw,λe he=>?_,λe he=>?_⟩
     ·rw[hwh]at he;rcases j6 _ _▸he with he | he
      ·exact hb0.2 e he
      ·simp only[d5]at he;omega
     ·rw[hwh,he];rfl
    ·exact⟨(h2 b hb).1,(h2 b hb).2,λe he=>he⟩
   have hmk:∀b,t.has b=true->∀e:Int,L.has ((t.set k {t.at_ k with bad:=L.with_ (t.at_ k).bad d}).mask b) e=((decide (0<=e)&&decide (e<t.d))&& !L.has t.dead e&& !L.has ((t.set k {t.at_ k with bad:=L.with_ (t.at_ k).bad d}).at_ b).bad e):=λb hb e=>by
    have:=(a0l (t:=t.set k {t.at_ k with bad:=L.with_ (t.at_ k).bad d}) (b:=b) (by rw[Tl.set_d];exact h8) (by rw[Tl.has_set];exact hb) (by rw[Tl.set_dead];exact h1.1) (hbad b hb).1).2 e
    rwa [Tl.set_d,Tl.set_dead]at this
   refine⟨⟨λb=>Tl.has_set _ _ _ _,Tl.set_d _ _ _,λb hb=>?_,λb hb=>?_,by rw[Tl.set_dead];exact h1,λb hb=>⟨(hbad b hb).1,(hbad b hb).2.1⟩,λb hb e he=>?_,λe he=>by rw[Tl.set_dead];exact he⟩,λ_ _=>?_⟩
   ·rw[hat b hb];split
    ·rename_i e;rw[e]
    ·rfl
   ·rw[hat b hb];split
    ·rename_i e;rw[e]
    ·rfl
   ·rw[hmk b hb]at he;rw[(a0l h8 hb h1.1 (h2 b hb).1).2];simp only[f7,i4]at he ⊢;refine⟨he.1,?_⟩;cases hx:L.has (t.at_ b).bad e with
    | false=>rfl
    | true=>rw[(hbad b hb).2.2 e hx]at he;exact absurd he.2 (by decide)
   ·rw[hmk k hop,hat k hop,d8 rfl,hwh,i6 hfd.symm];simp
 ·rename_i hh;refine⟨TlMore.refl h1 h2,λhlt=>?_⟩;simp only[Tl.hasDie,f7,d5]at hh;omega
theorem b9w {t:Tl} (hl:t.l.length=t.b) (k:Int) (s:Sb) (hs:t.has k=true->s.bad=(t.at_ k).bad) (j:Int):(t.set k s).mask j=t.mask j:=by
 cases hk:t.has k with
 | false=>rw[Tl.set_no _ hk]
 | true=>
  unfold Tl.mask Tl.alive;rw[Tl.has_set,Tl.set_d,Tl.set_dead];split
  ·rename_i hj;congr 1;rw[Tl.at_set hl _ hk hj];split
   ·rename_i e;rw[hs hk,e]
   ·rfl
  ·rfl
theorem Went.refl {fd:Int} {S:Dv} (h:Inv fd S):Went fd S S 0:=
 ⟨h,rfl,by omega,rfl,rfl,Nand.Like.refl _,λ_ h=>h,λ_ _=>⟨rfl,rfl,rfl⟩,rfl,λ_ _ _=>rfl,λ_ _ h=>h,λ_ _=>⟨rfl,rfl,λh=>h⟩,λ_ h=>h⟩
structure Last (fd:Int) (Q:Dv) (l:List En):Prop where
 left:Q.left=true
 err:(Q.wr l).2.1=0
 bd:¬Q.next>1099511627775-(Q.fit l:Int)+1
 turn:Inv.Turn fd Q l
def M6 (Q:Dv) (l:List En):Dv:={Q.wrote l with T:=Dv.puts Q.T Q.op Q.row Q.mask (Q.es l) (Q.fit l)}
namespace Inv
variable {fd : Int} {S : Dv} {k m : Nat} {l : List En}
theorem has_same {Q:Dv} (hO:S.t.Fit S.N) (hQ:Q.t.Fit Q.N) (hl:S.N.Like Q.N) (b:Int):Q.t.has b=S.t.has b:=by
 unfold Tl.has;rw[show Q.t.b=S.t.b from by rw[hQ.b,hO.b,hl.blocks]]
theorem rows_pos (h:Inv fd S) (hO:S.Ok k m) (hr:0<S.rows):S.left=true\/¬S.pick<0:=by
 have hg:=hO.gd.ok.bd16
 by_cases hb:S.t.blanks=0
 ·left;unfold Dv.rows at hr;rw[hb,Nat.mul_zero,J6]at hr;split at hr
  ·rename_i h0;rcases h.op with e | e
   ·omega
   ·have:=(e.mask.pos hg.1).1;unfold Dv.left;rw[i6 h0,i6 (by omega),i6 (by omega)];rfl
  ·omega
 ·right;obtain⟨s,hs,hu⟩:=List.countP_pos_iff.1 (show 0<S.t.l.countP λs=>!s.used by unfold Tl.blanks at hb;omega);obtain⟨j,hj,rfl⟩:=List.mem_iff_getElem.1 hs;have hlen:=hO.t.len;have hhas:S.t.has (j:Nat)=true:=Tl.has_iff.2 (by omega);have hat:S.t.at_ (j:Nat)=S.t.l[j]:=by unfold Tl.at_;rw[j4,d7,c9 hj,j3]
  have hunu:(S.t.at_ (j:Nat)).used=false:=by rw[hat];simpa using hu
  have hcnt:S.T.count (j:Nat)=0:=by
   rw[hO.T.cnt];unfold Tb.cntB;congr 1;rw[a4K];intro x hx hxb;simp only[A4]at hxb;have hlk:Tb.look S.T.at_ x.1=some x.2:=by
    cases hh:Tb.look S.T.at_ x.1 with
    | none=>rw[Tb.look_none]at hh;exact absurd (List.mem_map.2 ⟨x,hx,rfl⟩) hh
    | some a=>
     have hm:=Tb.look_mem hh;have hn:=hO.T.keys;obtain⟨i1,g1,e1⟩:=List.mem_iff_getElem.1 hm;obtain⟨i2,g2,e2⟩:=List.mem_iff_getElem.1 hx;have:i1=i2:=(V4 (by rw[l7];exact g1) hn).1 (by rw[i9,i9,c9 g1,c9 g2,e1,e2];rfl);subst this;rw[e1]at e2;rw[<- e2]
   have:=(h.st _ _ hlk).used;rw[hxb,hunu]at this;cases this
  have hop:(j:Int)≠S.op:=λe=>by
   rcases h.op with e2 | e2
   ·omega
   ·have:=e2.used;rw[<- e,hunu]at this;cases this
  have hmem:((j:Nat):Int)∈o0 (T4 S.t S.T) S.op S.t.b:=mem_pkSome.2 ⟨by omega,by omega,hop,by
   unfold T4;rw[h.usable hO hhas,hcnt];simp only[Tl.blank,hhas,hunu];rfl⟩
  intro hp;rcases a5S (λx y=>Q9 (S.t.wear x) (S.t.wear y)) (T4 S.t S.T) S.op S.t.b with e | e
  ·rw[e.2]at hmem;cases hmem
  ·have:=e.2;unfold Dv.pick at hp;omega
end Inv
theorem a5e {T:Tb} (h:T.Ok) {x:Int×AtV} (hx:x∈T.at_):Tb.look T.at_ x.1=some x.2:=by
 cases hh:Tb.look T.at_ x.1 with
 | none=>rw[Tb.look_none]at hh;exact absurd (List.mem_map.2 ⟨x,hx,rfl⟩) hh
 | some a=>
  have hm:=Tb.look_mem hh;obtain⟨i1,g1,e1⟩:=List.mem_iff_getElem.1 hm;obtain⟨i2,g2,e2⟩:=List.mem_iff_getElem.1 hx;have:i1=i2:=(V4 (by rw[l7];exact g1) h.keys).1 (by rw[i9,i9,c9 g1,c9 g2,e1,e2];rfl);subst this;rw[e1]at e2;rw[<- e2]
theorem a5R {T:Tb} {b r mk:Int} {es:List En}:∀n:Nat,(∀j,j<n->Tb.ok T (es.getD j En.zero)=true)->(∀j,j<n->∀a,Tb.look T.at_ (es.getD j En.zero).lpn=some a->a.seq<=(es.getD j En.zero).seq)->(∀i j,i<j->j<n->(es.getD i En.zero).lpn≠(es.getD j En.zero).lpn)->
  (∀j,j<n->Tb.look (Dv.puts T b r mk es n).at_ (es.getD j En.zero).lpn=some ⟨b,r,j,mk,(es.getD j En.zero).seq,(es.getD j En.zero).role⟩)/\(∀i,(∀j,j<n->(es.getD j En.zero).lpn≠i)->Tb.look (Dv.puts T b r mk es n).at_ i=Tb.look T.at_ i)
 | 0,_,_,_=>⟨λj hj=>by omega,λi _=>rfl⟩
 | n+1,h1,h2,h3=>by
  obtain⟨i1,i2⟩:=a5R n (λj hj=>h1 j (by omega)) (λj hj=>h2 j (by omega)) (λi j hij hj=>h3 i j hij (by omega));have hlog:(Dv.puts T b r mk es n).logical=T.logical:=by
   clear i1 i2 h1 h2 h3
   induction n with
   | zero=>rfl
   | succ n ih=>rw[Dv.puts_succ,Tb.put_logical];exact ih
  have hlk:Tb.look (Dv.puts T b r mk es n).at_ (es.getD n En.zero).lpn=Tb.look T.at_ (es.getD n En.zero).lpn:=i2 _ λj hj=>h3 j n hj (by omega);have hp:Tb.putB (Dv.puts T b r mk es n) (es.getD n En.zero)=true:=by
   unfold Tb.putB;have e1:Tb.ok (Dv.puts T b r mk es n) (es.getD n En.zero)=Tb.ok T (es.getD n En.zero):=by unfold Tb.ok;rw[hlog]
   have e2:Tb.elder (Dv.puts T b r mk es n) (es.getD n En.zero)=false:=by
    unfold Tb.elder;rw[hlk];cases hh:Tb.look T.at_ (es.getD n En.zero).lpn with
    | none=>rfl
    | some a=>have:=h2 n (by omega) a hh;exact n8 (by omega)
   rw[e1,e2,h1 n (by omega)];rfl
  rw[Dv.puts_succ];refine⟨λj hj=>?_,λi hi=>?_⟩
  ·rw[V.look_put]
   by_cases e:j=n
   ·subst e;rw[d8 ⟨hp,rfl⟩]
   ·rw[d6 (λhh=>h3 j n (by omega) (by omega) hh.2)];exact i1 j (by omega)
  ·rw[V.look_put,d6 (λhh=>hi n (by omega) hh.2.symm)];exact i2 i λj hj=>hi j (by omega)
namespace Last
variable {fd : Int} {Q : Dv} {l : List En} {k m : Nat}
theorem opn (h:Last fd Q l) (hQ:Inv fd Q):Opn fd Q:=hQ.opn h.left
theorem seqs (_h:Last fd Q l) (hO:Q.Ok k m) {i:Nat} (hi:i<Q.fit l):i<l.length/\(Q.es l).getD i En.zero={l.getD i En.zero with seq:=Q.next+i}/\i<(Q.es l).length:=by
 have:=Dv.fit_le Q l;have hs:=Dv.slots_le Q.mask;have hi2:i<(G.slots Q.mask).toNat:=by omega
 refine⟨by omega,?_,by rw[Dv.es_len];exact hi2⟩;unfold Dv.es;rw[a7c hi2];unfold Dv.numAt;rw[d8 (by omega)]
theorem inv (h:Last fd Q l) (hQ:Inv fd Q) (hO:Q.Ok k m):Inv fd (M6 Q l):=by
 have ho:=h.opn hQ;have hnx:=hO.next;have hf:=Dv.fit_le Q l;have he:=Dv.es_len Q l;have:=h.turn.inv.puts h.turn.full (show((Q.wrote l).t.at_ Q.op).used=true from ho.used) (λ_=>by show Q.row<Q.row+1;omega) Q.T rfl (Q.fit l) (by omega) (λi hi=>by
  obtain⟨_,e2,_⟩:=h.seqs hO hi;rw[e2];show 1<=Q.next+(i:Int)/\Q.next+(i:Int)<Q.next+(Q.fit l:Int);omega)
 exact this
theorem look (h:Last fd Q l) (hQ:Inv fd Q) (hO:Q.Ok k m) (hf:∀e∈l,FitR e) (hlg:∀e∈l,e.lpn<Q.T.logical) (hnd:(l.map (·.lpn)).Nodup):
  (∀j,j<Q.fit l->Tb.look (M6 Q l).T.at_ (l.getD j En.zero).lpn=some ⟨Q.op,Q.row,j,Q.mask,Q.next+j,(l.getD j En.zero).role⟩)/\(∀i,(∀j,j<Q.fit l->(l.getD j En.zero).lpn≠i)->Tb.look (M6 Q l).T.at_ i=Tb.look Q.T.at_ i):=by
 have hes:=λj (hj:j<Q.fit l)=>h.seqs hO hj;have hmem:∀j,j<Q.fit l->l.getD j En.zero∈l:=λj hj=>U9 (hes j hj).1;obtain⟨a1,a2⟩:=a5R (T:=Q.T) (b:=Q.op) (r:=Q.row) (mk:=Q.mask) (es:=Q.es l) (Q.fit l) (λj hj=>by
   rw[(hes j hj).2.1];have hfe:=hf _ (hmem j hj);have:=hlg _ (hmem j hj);unfold Tb.ok;have e1:decide (({l.getD j En.zero with seq:=Q.next+(j:Int)}:En).lpn<0)=false:=n8 (by have:=hfe.lpn;show¬(l.getD j En.zero).lpn<0;omega);have e2:decide (({l.getD j En.zero with seq:=Q.next+(j:Int)}:En).lpn>=Q.T.logical)=false:=n8 (by show¬(l.getD j En.zero).lpn>=Q.T.logical;omega);rw[e1,e2];show(!(false||false||((l.getD j En.zero).role !=1&&(l.getD j En.zero).role !=2&&(l.getD j En.zero).role !=4)))=true;rcases hfe.role with e | ⟨e | e,_⟩<;>rw[e]<;>rfl)
  (λj hj a ha=>by
   rw[(hes j hj).2.1]at ha ⊢;have:=(hQ.st _ a ha).seq;show a.seq<=Q.next+(j:Int);omega)
  (λi j hij hj=>by
   rw[(hes j hj).2.1,(hes i (by omega)).2.1];show(l.getD i En.zero).lpn≠(l.getD j En.zero).lpn;intro e;have g1:=(hes j hj).1;have g2:=(hes i (by omega)).1;have:(l.map (·.lpn))[i]? =(l.map (·.lpn))[j]?:=by
    rw[i9,i9,c9 g1,c9 g2];rw[d7,d7,c9 g1,c9 g2]at e;exact congrArg some e
   have:=(V4 (by rw[l7];exact g2) hnd).1 this;omega)
 refine⟨λj hj=>?_,λi hi=>?_⟩
 ·have:=a1 j hj;rw[(hes j hj).2.1]at this;exact this
 ·refine a2 i λj hj=>?_;rw[(hes j hj).2.1];exact hi j hj
theorem stay (h:Last fd Q l) (hQ:Inv fd Q) (hO:Q.Ok k m) (hf:∀e∈l,FitR e) {i:Int} {a:AtV} (ha:Std fd Q i a):R.read (M6 Q l).N a.block a.row a.slot a.mask=R.read Q.N a.block a.row a.slot a.mask:=
 (hQ.turn_std h.turn hO h.left hf h.bd ha).2
theorem reads (h:Last fd Q l) (hQ:Inv fd Q) (hO:Q.Ok k m) {j:Nat} (hj:j<Q.fit l):R.read (M6 Q l).N Q.op Q.row j Q.mask=({l.getD j En.zero with seq:=Q.next+j},0):=by
 obtain⟨_,e2,e3⟩:=h.seqs hO hj;rw[<- e2];exact h.turn.full.read h.turn.inv.lit.off h.turn.inv.dead e3
theorem rows (h:Last fd Q l) (hQ:Inv fd Q):(M6 Q l).rows+1=Q.rows:=by
 have ho:=h.opn hQ;have hs:=Dv.left_spec h.left;unfold Dv.rows;have e1:(M6 Q l).N.pages=Q.N.pages:=h.turn.like.pages;have e2:(M6 Q l).t=Q.t:=rfl;have e3:(M6 Q l).op=Q.op:=rfl;have e4:(M6 Q l).row=Q.row+1:=rfl;rw[e1,e2,e3,e4,d8 (by omega),d8 (by omega)];have:=ho.row;omega
end Last
theorem NoF.went {fd:Int} {S Q:Dv} {β:Nat} (h:NoF S) (w:Went fd S Q β):NoF Q:=
 ⟨λi=>by rw[w.dead];exact h.dead i,List.eq_nil_iff_forall_not_mem.2 λa ha=>(by have:=w.plan a ha;rw[h.plan]at this;cases this),λi j=>by rw[(w.flags i j).1];exact h.met i j,λi j=>by rw[(w.flags i j).2.1];exact h.fl i j⟩
theorem NoF.wrote {fd:Int} {Q:Dv} {l:List En} (h:NoF Q) (w:Last fd Q l):NoF (M6 Q l):=
 ⟨λi=>by show(Q.wrote l).N.dead.getD i false=false;rw[w.turn.dead];exact h.dead i,List.eq_nil_iff_forall_not_mem.2 λa ha=>(by have:=w.turn.plan a ha;rw[h.plan]at this;cases this),λi j=>by show((Q.wrote l).N.blk i j).met=false;rw[(w.turn.flags i j).1];exact h.met i j,λi j=>by show((Q.wrote l).N.blk i j).fails=false;rw[(w.turn.flags i j).2.1];exact h.fl i j⟩
theorem NoF.new (d b p:Nat) (lg:Int):NoF (Dv.mk (Nand.new d b p) (Tl.new d b p) (Tb.new lg) (-1) 0 0 1):=
 ⟨λi=>by
  show(List.replicate d false).getD i false=false;rw[d7,E9];split<;>rfl,rfl,λ_ _=>rfl,λ_ _=>rfl⟩
theorem Inv.new (fd:Int) (d b p:Nat) (lg:Int):Inv fd (Dv.mk (Nand.new d b p) (Tl.new d b p) (Tb.new lg) (-1) 0 0 1):=by
 refine⟨Nand.Lit.new d b p,λi _=>(NoF.new d b p lg).dead i,λa ha=>(by cases ha),λ_ _ _=>⟨rfl,rfl⟩,⟨by show L.set 0=true;decide,λd hd=>(by have:L.has 0 d=true:=hd;rw[L.has_zero]at this;cases this)⟩,λbb hb=>?_, .inl rfl,λbb hb hu e he=>rfl,λi a ha=>(by cases ha)⟩;have:(Tl.new d b p).at_ bb=Sb.zero:=by
  unfold Tl.new Tl.at_;dsimp only;rw[d7,E9];split<;>rfl
 show L.set ((Tl.new d b p).at_ bb).bad=true/\_;rw[this];refine⟨by decide,λe he=>?_⟩;have he:L.has 0 e=true:=he;rw[L.has_zero]at he;cases he
theorem V.standOf_true:∀(l:List Fnd),l≠[]->(V.standOf l).2=true:=by
 intro l hl;obtain⟨l',x,rfl⟩:∃l' x,l=l'++[x]:=⟨l.dropLast,l.getLast hl,(a0Q hl).symm⟩;rw[V.standOf_snoc];split
 ·rfl
 ·rename_i h;rcases Bool.eq_false_or_eq_true (V.standOf l').2 with e | e
  ·exact e
  ·exact absurd (.inl e) h
theorem a7s (q:Nat) (t:Tl) (hb:t.b<=1000) (hl:t.l.length=t.b) (k:Int) (on:Bool):FP 114 [pp q,iI k, .bool on] [TlA q t] (Ps (.tuple #[]) [TlA q (t.clean k on)]):=by
 refine FE [2,0,0] Tryz.func114 λX F hX=>?_;refine J.o (α:=Nat) 1 λg=>?_;refine J.qp (a6m q t hb g k) [1,2] λ_=>?_;cases hh:t.has k with
 | false=>
  rw[Tl.adr,hh,d6 (by simp)];refine J.qF λ_=>?_;refine J.q λ_=>?_;refine J.cl (λg:Nat=>TlP q t g) g [1,2] ?_;refine J.q λ_=>?_;refine J.f [1] ?_;exact⟨rfl,by rw[Tl.clean,Tl.set,hh];rfl⟩
 | true=>
  rw[Tl.adr,hh,d8 rfl];refine J.qT λ_=>?_;refine J.q λ_=>?_;refine J.s1 2 ((t.clean k on).l.flatMap sbL) ?_ ?_ ?_
  ·rw[t.len_l,hl];simp only[Tl.has,f7,d5]at hh;omega
  ·exact t.set_at hl hh 2 (by omega) _ _ rfl
  refine J.close (f:=λg:Nat=>TlP q (t.clean k on) g) g [1,2] rfl (by simp only[TlP,Tl.clean,Tl.set_d,Tl.set_b,Tl.set_p,Tl.set_dead];rfl) rfl ?_;refine J.q λ_=>?_;refine J.f [1] ?_;exact⟨rfl,rfl⟩
theorem a4S (q:Nat) (t:Tl) (d:Int):FP 79 [pp q,iI d] [TlA q t] (Ps (.tuple #[]) [TlA q (t.die d)]):=by
 refine FE [2,0] Tryz.func79 λX F hX=>?_;refine J.o (α:=Nat) 1 λg=>?_;refine J.qp (b6d q t g d) [1,2] λ_=>?_;refine J.qd (λ_ h1=>?_) λ_ h1=>?_
 ·refine J.qp (b0H t.dead d) [] λ_=>?_;have he:t.die d=⟨t.d,t.b,t.p,t.l,L.with_ t.dead d⟩:=by rw[Tl.die,d8 h1]
  refine J.q λ_=>?_;refine J.close (f:=λg:Nat=>TlP q (t.die d) g) g [1,2] rfl (by rw[he];rfl) rfl ?_;refine J.q λ_=>?_;refine J.f [1] ?_;exact⟨rfl,rfl⟩
 ·refine J.q λ_=>?_;refine J.cl (λg:Nat=>TlP q t g) g [1,2] ?_;refine J.q λ_=>?_;refine J.f [1] ?_;exact⟨rfl,by rw[Tl.die,d6 (by rw[h1];simp)];rfl⟩
theorem c0N (a b:Int):(if b>a then b else a)=max a b:=by split<;>omega
def a1W (p n t l:Nat) (S:Dv):Atom:= .pt p 195 [pp n,pp t,pp l,iI S.op,iI S.row,iI S.mask,iI S.next]
def DvP (p n t l:Nat) (S:Dv):List Atom:=[a1W p n t l S,B8 n S.N,TlA t S.t,TbA l S.T]
theorem b6G (n t l:Nat) (next:Int) (h: -9223372036854775808<=next/\next<=9223372036854775807) (N:Nand) (tl:Tl) (T:Tb):FP 60 [pp n,pp t,pp l,iI next] [] (λv As=>∃p,v=pp p/\As=[a1W p n t l ⟨N,tl,T,-1,0,0,max next 1⟩]):=by
 refine FE [0,0,0,0] Tryz.func60 λX F hX=>?_;refine J.q λbb=>?_;rw[c0N];refine J.qr [1] λ_=>?_;exact⟨bb 0,rfl,rfl⟩
theorem a2T (p n t l:Nat) (S:Dv):FP 64 [pp p] [a1W p n t l S] (Ps (iI S.op) [a1W p n t l S]):=by
 refine FE [2] Tryz.func64 λX F hX=>?_;refine J.qF λ_=>?_;exact J.qx [1]
theorem b3E (p n t l:Nat) (S:Dv):FP 142 [pp p] (DvP p n t l S) (Ps (.bool S.left) (DvP p n t l S)):=by
 refine FE [2] Tryz.func142 λX F hX=>?_;refine J.pn 6 (.of [0,4,8,13,16,20,24,28,32,37,40,44,48,53,58,60,64,68,72,76,80,84,89,94,96,100,104]) [26] [1,2,3,4] λ_ _=>?_;cases h1:decide (S.op>=0)with
 | false=>
  refine J.q λ_=>?_;refine J.val hX (.agg #[iI 0,iI 0,iI 0]) 0 rfl rfl (λhg a w he hs=>absurd hg (by simp[G.on])) rfl stq ?_;refine J.q λ_=>?_;refine J.val hX (iI 0) 0 rfl rfl (λhg a w he hs=>absurd hg (by simp[G.on])) rfl stq ?_;refine J.qr [1,2,3,4] λ_=>?_;exact⟨by unfold Dv.left;rw[h1];rfl,rfl⟩
 | true=>
  refine J.qp (a2B n S.N) [2] λ_=>?_;refine J.qn 2 λ_=>?_;cases h2:decide (S.row<(S.N.pages:Int))with
  | false=>
   refine J.q λ_=>?_;refine J.val hX (iI 0) 0 rfl rfl (λhg a w he hs=>absurd hg (by simp[G.on])) rfl stq ?_;refine J.qr [1,2,3,4] λ_=>?_;exact⟨by unfold Dv.left;rw[h1,h2];rfl,rfl⟩
  | true=>
   refine J.qp (a1i S.mask) [] λ_=>?_;refine J.qr [1,2,3,4] λ_=>?_;exact⟨by unfold Dv.left;rw[h1,h2],rfl⟩
theorem b1z (p n t l:Nat) (S:Dv) (hb:S.t.b<=1000) (hl:S.t.l.length=S.t.b):FP 91 [pp p] (DvP p n t l S) (Ps (iI S.slots) (DvP p n t l S)):=by
 refine FE [2] Tryz.func91 λX F hX=>?_;refine J.qF λ_=>?_;refine J.qp (b3E p n t l S) [1,2,3,4] λ_=>?_;refine J.qd (λ_ h1=>?_) λ_ h1=>?_
 ·refine J.qp (a1i S.mask) [] λ_=>?_;refine J.qr [1,2,3,4] λ_=>?_;exact⟨by unfold Dv.slots;rw[d8 h1],rfl⟩
 refine J.p (.of [0,4,8,13,16,20,24,29,32,36,40,45,48,52,56,61,66,70,74,76]) [19] [1,2,3,4] λ_=>?_;refine J.qp (b2J t S.t hb hl l S.T S.op) [3,4] λ_=>?_;refine J.qp (a2e t S.t hb hl S.pick) [3] λ_=>?_;refine J.qp (a1i (S.t.mask S.pick)) [] λ_=>?_;refine J.qr [1,2,3,4] λ_=>?_;exact⟨by unfold Dv.slots;rw[d6 (by rw[h1];decide)],rfl⟩
theorem b1x (p n t l:Nat) (S:Dv) (hb:S.t.b<=1000) (hl:S.t.l.length=S.t.b):FP 147 [pp p] (DvP p n t l S) (Ps (iI (if S.pick<0 then 11 else 0)) (DvP p n t l (if S.pick<0 then S else S.opened))):=by
 refine FE [2] Tryz.func147 λX F hX=>?_;refine J.p (.of [0,4,8,13,16,20,24,29,32,36,40,45,51,52]) [12,13] [1,2,3,4] λ_=>?_;refine J.qp (b2J t S.t hb hl l S.T S.op) [3,4] λ_=>?_;refine J.qd (λ_ h1=>?_) λ_ h1=>?_
 ·simp only[d5]at h1;have h1:S.pick<0:=h1;refine J.qr [1,2,3,4] λ_=>?_;rw[d8 h1,d8 h1];exact⟨rfl,rfl⟩
 simp only[c8]at h1;have h1:¬S.pick<0:=h1;refine J.qp (a7s t S.t hb hl S.pick false) [3] λ_=>?_;refine J.qp (a2e t (S.t.clean S.pick false) (by unfold Tl.clean;rw[Tl.set_b];exact hb) (by unfold Tl.clean;rw[Tl.set_len,Tl.set_b];exact hl) S.pick) [3] λ_=>?_;refine J.qr [1,2,3,4] λ_=>?_;rw[d6 h1,d6 h1];exact⟨rfl,rfl⟩
theorem b6F (p n t l:Nat) (S:Dv) (hN:S.N.Ok) (hF:S.t.Fit S.N) (f:Int):FP 150 [pp p,iI f] (DvP p n t l S) (Ps (.tuple #[]) (DvP p n t l (S.loses f))):=by
 have hbd:=hN.bd16;refine FE [2,0] Tryz.func150 λX F hX=>?_;refine J.qp (a2B n S.N) [2] λ_=>?_;refine J.q λ_=>?_;refine J.l (α:=(Nat×Dv)) (λz=>z.1<=S.N.dies/\z.2=(List.range z.1).foldl (Dv.lose f) S) (λz=>[si 11 z.1,si 10 S.N.dies,⟨0,pp p,2, .tt⟩,si 1 f]) [1,2,3,4] (λz=>DvP p n t l z.2) (λz=>S.N.dies-z.1) ((0,S)) (⟨j7 _,rfl⟩) λz hI=>?_;obtain⟨k,Q⟩:=z;dsimp only at hI ⊢;obtain⟨hk,hQ⟩:=hI;obtain⟨q1,q2,q3,q4,q5,q6,q7⟩:=Dv.foldl_lose f (List.range k) S hF;rw[<- hQ]at q1 q2 q3 q4 q5 q6 q7;have hlb:Q.t.l.length=Q.t.b:=q6.len;have hbb:Q.t.b<=1000:=by have:=q6.b;omega
 refine J.qd (λ_ h1=>?_) λ_ h1=>?_
 ·simp only[d5,i5]at h1;have hs:(List.range (k+1)).foldl (Dv.lose f) S=Dv.lose f Q k:=by rw[s9,B3,<- hQ];rfl
  refine J.qp (a9C f k) [] λ_=>?_;refine J.qd (λ_ h2=>?_) λ_ h2=>?_
  ·simp only[i4]at h2;have hz:Dv.lose f Q k=Q:=by unfold Dv.lose;rw[d6 (by rw[h2];decide)]
   refine J.q λ_=>?_;refine J.n ((k+1,Q)) (⟨by dsimp only;omega,by dsimp only;rw[hs,hz]⟩) (by dsimp only;omega) [0,1,2,3,4]
  simp only[A9]at h2;refine J.qp (a7S n Q.N (by rw[q1];exact hN) k) [2] λ_=>?_;refine J.qd (λ_ h3=>?_) λ_ h3=>?_
  ·have hz:Dv.lose f Q k={Q with t:=Q.t.die k,mask:=L.without Q.mask k}:=by unfold Dv.lose;rw[d8 h2,d8 h3]
   refine J.qp (a4S t Q.t k) [3] λ_=>?_;refine J.qp (a4e Q.mask k) [] λ_=>?_;refine J.q λ_=>?_;refine J.n ((k+1,{Q with t:=Q.t.die k,mask:=L.without Q.mask k})) (⟨by dsimp only;omega,by dsimp only;rw[hs,hz]⟩) (by dsimp only;omega) [0,1,2,3,4]
  ·have hz:Dv.lose f Q k={Q with t:=Q.t.bad k Q.op,mask:=L.without Q.mask k}:=by unfold Dv.lose;rw[d8 h2,d6 (by rw[h3];decide)]
   refine J.p (.of [0,4,8,13,16,20,24,28,33,38]) [] [1,2,4] λ_=>?_;refine J.qp (b2z t Q.t hbb hlb k Q.op) [3] λ_=>?_;refine J.qp (a4e Q.mask k) [] λ_=>?_;refine J.q λ_=>?_;refine J.n ((k+1,{Q with t:=Q.t.bad k Q.op,mask:=L.without Q.mask k})) (⟨by dsimp only;omega,by dsimp only;rw[hs,hz]⟩) (by dsimp only;omega) [0,1,2,3,4]
 ·simp only[c8,i5]at h1;obtain rfl:k=S.N.dies:=by omega
  refine J.q λ_=>?_;refine J.f [1,2,3,4] ?_;exact⟨rfl,by rw[hQ];rfl⟩
theorem a8w:∀(l:List En) (r:List Value) (k:Nat) (x:En),k<l.length->(n7 l++r).take (k*19)++enL x++(n7 l++r).drop (k*19+19)=n7 (l.set k x)++r
 | [],_,_,_,h=>by simp at h
 | y::l,r,0,x,h=>by simp[n7,enL]
 | y::l,r,k+1,x,h=>by
  have:=a8w l r k x (by simpa using h);have hy:(enL y).length=19:=rfl;have e1:n7 (y::l)++r=enL y++(n7 l++r):=by simp[n7]
  have e2:n7 ((y::l).set (k+1) x)++r=enL y++(n7 (l.set k x)++r):=by simp[n7]
  rw[e1,e2,<- this,show(k+1)*19=(enL y).length+k*19 from by omega,T3,show(enL y).length+k*19+19=(enL y).length+(k*19+19)from by omega,<- C0,T7 rfl];simp only[m7]
theorem Z5:∀l:List En,(n7 l).length=l.length*19
 | []=>rfl
 | x::l=>by
  have:=Z5 l;have e1:n7 (x::l)=enL x++n7 l:=by simp[n7]
  have hy:(enL x).length=19:=rfl;rw[e1,f8,this,hy,l5];omega
def a8Q (p:En->Bool) (l:List En):Int:=match l.findIdx? p with
 | some k=>k
 | none=> -1
theorem a9G {p:En->Bool} {l:List En} {k:Nat} {x:En} (h:l[k]? =some x) (h0:∀i<k,p (l.getD i En.zero)=false) (hp:p x=true):l.findIdx? p=some k:=by
 rw[n9];obtain⟨h1,h2⟩:=List.getElem?_eq_some_iff.1 h;refine⟨h1,by rw[h2];exact hp,λj hj=>?_⟩;have:=h0 j hj;rw[d7,c9 (by omega),j3]at this;simp[this]
theorem a9H {p:En->Bool} {l:List En} (h0:∀i<l.length,p (l.getD i En.zero)=false):l.findIdx? p=none:=by
 rw[D0];intro x hx;obtain⟨i,hi,rfl⟩:=List.mem_iff_getElem.1 hx;have:=h0 i hi
 rwa [d7,c9 hi,j3]at this
theorem b7H (p:En->Bool) (l:List En):decide (a8Q p l>=0)=l.any p:=by
 unfold a8Q;cases h:l.findIdx? p with
 | none=>
  rw[D0]at h;have:l.any p=false:=by rw[a0c];exactλx hx=>by simp[h x hx]
  rw[this];rfl
 | some k=>
  rw[n9]at h;obtain⟨h1,h2,_⟩:=h;have:l.any p=true:=List.any_eq_true.2 ⟨l[k],H6 _,h2⟩;rw[this];simp
theorem b1c (c:Nat) (cs:List Value) (p:En->Bool) (A:Atom) (hcal:K0 Tryz.prog c=true) (l:List En) (hf:∀x∈l,Fn Tryz.prog c (enV x::cs) [A] (λv As=>v= .bool (p x)/\As=[A]))
  (a:Option Nat) (n cap:Nat) (hl:l.length=n) (hn:n<=4611686018427387904):FP 122 [slv a n cap,fnC c cs] [m9 101 19 a n cap (n7 l),A]
  (λv As=>v=iI (a8Q p l)/\As=[m9 101 19 a n cap (n7 l),A]):=by
 refine FE [0,0] Tryz.func122 λX F hX=>?_;refine J.q λ_=>?_;refine J.l (α:=Nat) (λk=>k<=n/\∀i<k,p (l.getD i En.zero)=false) (λk=>[si 8 k,si 7 n,sv 0 (slv a n cap),⟨1,fnC c cs,0, .tt⟩]) [] (λk=>[]) (λk=>n-k) (0) (⟨by omega,by omega⟩) λk hI=>?_;refine J.qd (λ_ h1=>?_) λ_ h1=>?_
 ·simp only[d5,i5]at h1;cases a with
  | none=>
   refine J.know (λh' s=>(s.get (i:=1) rfl).2.1) λhn0=>?_;omega
  | some g=>
   have hk:l[k]? =some (l.getD k En.zero):=by rw[d7,c9 (by omega),j3]
   refine J.q λ_=>?_;refine J.v (enV (l.getD k En.zero)) rfl rfl (λhg a w he hs=>?_) ?_
   ·exact J8 tk rfl rfl he rfl rfl rfl (hs.get (i:=1) rfl) (by rw[show 0+(k:Int).toNat*19=k*19 from by omega];have:=a0e l [] k _ hk;rwa [m6]at this) rfl
   refine J.q λ_=>?_;refine J.call hX hcal (hf (l.getD k En.zero) (j8 hk)) [2] 0 rfl rfl rfl rfl (by(repeat' (first | exact Conj.nil | refine Conj.cons ?_ ?_ | omega | exact hq0 | (simpa using hq0) | (exactλh=>h) | exact rfl | (intro hq;have hq0:=hq;try simp only[f7,j6,d5,i4,c8]at hq) | (simp;done) | (simp;omega) | decide))) rfl rfl (λ_=>rfl) ?_;refine cpq ⟨_,rfl,trivial,?_⟩;refine J.qd (λ_ h2=>?_) λ_ h2=>?_
   ·refine J.qr [1,2] λ_=>?_;exact⟨by rw[a8Q,a9G hk hI.2 h2],rfl⟩
   ·refine J.q λ_=>?_;refine J.nx (k+1) (⟨by omega,λi hi=>by
     rcases Nat.lt_succ_iff_lt_or_eq.1 hi with h3 | h3
     ·exact hI.2 i h3
     ·rw[h3];exact h2⟩) (by omega) (λ_ s=>s)
 ·simp only[c8,i5]at h1;refine J.qr [1,2] λ_=>?_;exact⟨by rw[a8Q,a9H (λi hi=>hI.2 i (by omega))],rfl⟩
theorem a8x (l:List En):∀u∈n7 l,u.oneCell'=true:=by
 intro u hu;simp only[n7,K5]at hu;obtain⟨s,_,hu⟩:=hu;simp only[enL,H7,U5,a5A]at hu;rcases hu with rfl | rfl | rfl | rfl | rfl | rfl | rfl | rfl | rfl | rfl | rfl | rfl | rfl | rfl | rfl | rfl | rfl | rfl | rfl<;>rfl
def DelE (p:En->Bool) (l m:List En) (i j:Nat):Prop:=m.length=l.length/\i<j/\j<=l.length/\m.drop j=l.drop j/\m.take i++(l.drop j).filter (λx=>!p x)=l.filter (λx=>!p x)
theorem DelE.start {p:En->Bool} {l:List En} {k:Nat} (h:l.findIdx? p=some k):DelE p l l k (k+1):=by
 rw[n9]at h;obtain⟨h1,h2,h3⟩:=h;refine⟨rfl,by omega,by omega,rfl,?_⟩;have e:l=l.take k++l[k]::l.drop (k+1):=by rw[<- t6 h1,C9]
 have e2:(l.take k).filter (λx=>!p x)=l.take k:=by
  rw[W2];intro x hx;obtain⟨i,hi,rfl⟩:=List.mem_iff_getElem.1 hx;rw[a0a];have:=h3 i (by simp at hi;omega);simpa using this
 conv=>rhs;rw[e]
 rw[R7,e2,S9 (by simp[h2])]
theorem DelE.skip {p:En->Bool} {l m:List En} {i j:Nat} (h:DelE p l m i j) (hj:j<l.length) (hp:p (m.getD j En.zero)=true):DelE p l m i (j+1):=by
 obtain⟨h1,h2,h3,h4,h5⟩:=h;have e1:m[j]? =l[j]?:=by have:=congrArg (λz=>z[0]?) h4;simpa using this
 have hx:l[j]=m.getD j En.zero:=by rw[d7,e1,c9 hj,j3]
 refine⟨h1,by omega,by omega,?_,?_⟩
 ·have:=congrArg (List.drop 1) h4;simpa[C0]using this
 ·rw[<- h5,t6 hj,S9 (by rw[hx,hp];simp)]
theorem DelE.keep {p:En->Bool} {l m:List En} {i j:Nat} (h:DelE p l m i j) (hj:j<l.length) (hp:p (m.getD j En.zero)=false):DelE p l (m.set i (m.getD j En.zero)) (i+1) (j+1):=by
 obtain⟨h1,h2,h3,h4,h5⟩:=h;have e1:m[j]? =l[j]?:=by have:=congrArg (λz=>z[0]?) h4;simpa using this
 have hx:l[j]=m.getD j En.zero:=by rw[d7,e1,c9 hj,j3]
 refine⟨by simp[h1],by omega,by omega,?_,?_⟩
 ·rw[List.drop_set_of_lt (by omega)];have:=congrArg (List.drop 1) h4;simpa[C0]using this
 ·rw[<- h5,t6 hj,a2v (by rw[hx,hp];simp),hx,a3U,D3,c9 (by omega)];rw[R0 _ _ (by simp;omega)];simp[j9,L8 (show i<=m.length by omega)]
theorem a8W (c:Nat) (cs:List Value) (p:En->Bool) (A:Atom) (hcal:K0 Tryz.prog c=true) (hf:∀x,Fn Tryz.prog c (enV x::cs) [A] (λv As=>v= .bool (p x)/\As=[A]))
  (a:Option Nat) (n cap:Nat) (l:List En) (hl:l.length=n) (hn:n<=4611686018427387904):FP 144 [slv a n cap,fnC c cs] [m9 101 19 a n cap (n7 l),A]
  (λv As=>∃l',l'=l.filter (λx=>!p x)/\v=slv a l'.length cap/\As=[m9 101 19 a l'.length cap (n7 l'),A]):=by
 refine FE [0,0] Tryz.func144 λX F hX=>?_;refine J.qp (b1c c cs p A hcal l (λx _=>hf x) a n cap hl hn) [1,2] λ_=>?_;rw[a8Q];cases hx:l.findIdx? p with
 | none=>
  dsimp only;refine J.qT λ_=>?_;refine J.qr [1,2] λ_=>?_;have:l.filter (λx=>!p x)=l:=by
   rw[W2];intro x hm;rw[D0]at hx;simp[hx x hm]
  exact⟨l,this.symm,by rw[hl],by rw[hl];rfl⟩
 | some k=>
  dsimp only;refine J.qd (λ_ h0=>?_) λ_ h0=>?_
  ·simp only[A4]at h0;omega
  have hk:k<n:=by rw[n9]at hx;obtain⟨h1,_⟩:=hx;omega
  cases a with
  | none=>
   refine J.know (λh' s=>(s.get (i:=1) rfl).2.1) λhn0=>?_;omega
  | some g=>
   refine J.openOwn 1 rfl rfl (λ_=>rfl) λr q1 q2 q3 q4=>?_;refine J.q λ_=>?_;rw[show(k:Int)+1=((k+1:Nat):Int)from by omega];refine J.q λ_=>?_;refine J.l (α:=(Nat×Nat×List En)) (λx=>DelE p l x.2.2 x.1 x.2.1) (λx=>[si 6 x.2.1,si 5 x.1,sv 0 (slv (some g) n cap),⟨1,fnC c cs,0, .tt⟩]) [1] (λx=>[.pt g 101 (n7 x.2.2++r)]) (λx=>n-x.2.1) ((k,k+1,l)) (DelE.start hx) λx hI=>?_;obtain⟨i,j,m⟩:=x;dsimp only at hI ⊢;have hml:m.length=n:=hI.1.trans hl;have hij:i<j:=hI.2.1;have hjn:j<=n:=by have:=hI.2.2.1;omega
   refine J.qd (λ_ h1=>?_) λ_ h1=>?_
   ·simp only[d5,i5]at h1;have hget:m[j]? =some (m.getD j En.zero):=by rw[d7,c9 (by omega),j3]
    refine J.q λ_=>?_;refine J.v (enV (m.getD j En.zero)) rfl rfl (λhg a w he hs=>?_) ?_
    ·exact H9 tk rfl rfl he rfl rfl rfl (hs.get (i:=1) rfl) (by rw[show 0+(j:Int).toNat*19=j*19 from by omega];exact a0e m r _ _ hget) rfl
    refine J.q λ_=>?_;refine J.call hX hcal (hf (m.getD j En.zero)) [2] 0 rfl rfl rfl rfl (by(repeat' (first | exact Conj.nil | refine Conj.cons ?_ ?_ | omega | exact hq0 | (simpa using hq0) | (exactλh=>h) | exact rfl | (intro hq;have hq0:=hq;try simp only[f7,j6,d5,i4,c8]at hq) | (simp;done) | (simp;omega) | decide))) rfl rfl (λ_=>rfl) ?_;refine cpq ⟨_,rfl,trivial,?_⟩;refine J.qd (λ_ h2=>?_) λ_ h2=>?_
    ·simp only[i4]at h2;refine J.q λ_=>?_;refine J.storeN hX tk 1 rfl rfl rfl rfl rfl rfl rfl rfl rfl rfl rfl rfl rfl ?_ (n7 (m.set i (m.getD j En.zero))++r) ?_ rfl (λ_=>rfl) ⟨trivial,?_⟩
     ·rw[f8,Z5];show 0+(i:Int).toNat*19+19<=_;omega
     ·rw[show 0+(i:Int).toNat*19=i*19 from by omega];exact a8w m r i _ (by omega)
     refine J.q λ_=>?_;refine J.n ((i+1,j+1,m.set i (m.getD j En.zero))) (hI.keep (by omega) h2) (by dsimp only;omega) [0,1,2]
    ·simp only[A9]at h2;refine J.q λ_=>?_;refine J.n ((i,j+1,m)) (hI.skip (by omega) h2) (by dsimp only;omega) [0,1,2]
   ·simp only[c8,i5]at h1;obtain rfl:j=n:=by omega
    have hfil:m.take i=l.filter (λx=>!p x):=by
     have h5:=hI.2.2.2.2;rw[E7 (by omega)]at h5;simpa using h5
    refine J.q λ_=>?_;refine J.clear hX tk 1 rfl rfl rfl rfl rfl rfl rfl rfl rfl rfl rfl ?_ (λ_=>rfl) (λ_=>rfl) λcs' z1 z2=>⟨trivial,?_⟩
    ·rw[f8,Z5];rw[Z5]at q4;show 0+(i:Int).toNat*19+(j-(i:Int).toNat)*19<=_;have:(i:Int).toNat=i:=by omega
     rw[this];omega
    have hilen:(l.filter (λx=>!p x)).length=i:=by rw[<- hfil,j9];omega
    refine J.closeOwn (e:=101) (size:=19) (n:=i) (cap:=cap) (xs:=n7 (l.filter (λx=>!p x))) 1 rfl rfl (by rw[Z5,hilen]) (by omega) q3 (by rw[z1,f8,Z5,hml];rw[Z5,hl]at q4;exact q4) ?_ rfl ?_
    ·have z3:(0+(i:Int).toNat*19)=i*19:=by omega
     rw[z3]at z2;rw[z2,<- hfil];have e:n7 m=n7 (m.take i)++n7 (m.drop i):=by
      conv=>lhs;rw[<- C9 i m]
      simp only[n7,K1]
     rw[e,m7,D6 (by rw[Z5,j9,L8 (by omega)])]
    refine J.qr [1,2] λ_=>?_;exact⟨_,rfl,by rw[hilen];rfl,by rw[hilen];rfl⟩
theorem b8h {E:Env} {n:Nat} {ac:Act} {w:World} {o:Oper} {x y:Operand} {k1 k2 t1 t2:Nat} {g1 g2:G} {a:Option Addr} {m c h:Nat} {kk:IntKind} {hI:Int} (hop:o.op= .slice 116 x none (some y) none) (hx:ev E x=some ⟨k1, .slice a m c,t1,g1⟩) (hy:ev E y=some ⟨k2, .int kk hI,t2,g2⟩) (he:EnvOK n E ac) (v1:g1.on=true) (v2:g2.on=true) (hh:hI=(h:Int)) (hc:h<=c):
  (execOp ac.eval o).run Tryz.prog w= .ok (.value (.slice a h c)) w:=by
 subst hh;have e1:=C5 he hx;have e2:=C5 he hy;simp only[Slot.val,v1,v2]at e1 e2;obtain⟨d,f,zv,ok⟩:=B4 (tk.get (t:=116) rfl);obtain⟨fe,rfl,g1,g2⟩:=ok.slice rfl;have h0:∀ad:Addr,ad.add 0=ad:=λad=>by unfold Addr.add;rw[d8 rfl]
 cases a with
 | none=>
  simp only[execOp,hop,C6,O3,e1,e2,Instr.sliceAt,Instr.slice,Instr.sliceBounds,Instr.sliceBound,asIntOf,Sem.run_bind,Sem.run_pure,Result.andThen_ok,s8 ok.hd,J0 g1,g2];simp[hc,h0]
 | some ad=>
  simp only[execOp,hop,C6,O3,e1,e2,Instr.sliceAt,Instr.slice,Instr.sliceBounds,Instr.sliceBound,asIntOf,Sem.run_bind,Sem.run_pure,Result.andThen_ok,s8 ok.hd,J0 g1,g2];simp[hc,h0]
theorem a0M {e size:Nat} {a:Option Nat} {n cap:Nat} {xs:List Value} {h:Hl} (s:a0V e size a n cap xs h):n<=cap:=by
 obtain⟨_,s⟩:=s;cases a with
 | none=>obtain⟨rfl,rfl⟩:=s;exact i7 _
 | some g=>obtain⟨_,_,h,_⟩:=s;exact h
theorem a3i (l:List En):∀k,(n7 l).take (k*19)=n7 (l.take k):=by
 induction l with
 | nil=>intro k;simp[n7]
 | cons x l ih=>
  intro k;cases k with
  | zero=>simp[n7]
  | succ k=>
   have e1:n7 (x::l)=enL x++n7 l:=by simp[n7]
   have e2:n7 (x::l.take k)=enL x++n7 (l.take k):=by simp[n7]
   rw[e1,a4I,e2,<- ih k,show(k+1)*19=(enL x).length+k*19 from by show _=19+k*19;omega,T3]
theorem a0D (l:List En) (e:En):n7 l++enL e=n7 (l++[e]):=by simp[n7]
theorem b5O (a:Option Nat) (N cap cap2 k:Nat) (l:List En) (hl:l.length=N) (hk:k<=N) (hn:N<=1000000):FP 146 [slv a k cap2] [m9 101 19 a N cap (n7 l)]
  (λv As=>∃a' c',v=slv a' k c'/\As=[m9 101 19 a N cap (n7 l),m9 101 19 a' k c' (n7 (l.take k))]):=by
 refine FE [0] Tryz.func146 λX F hX=>?_;cases a with
 | none=>
  refine J.know (λh' s=>(s.get (i:=1) rfl).2) λhn0=>?_;obtain⟨rfl,rfl⟩:=hn0;obtain rfl:k=0:=by omega
  have:l=[]:=n5 hl;subst this;refine J.qT λ_=>?_;refine J.turn1 [] rfl (As:=[m9 101 19 none 0 0 (n7 [])]) (λh s=>Sep.one ⟨rfl,rfl,rfl⟩) rfl ?_;refine J.qr [1,2] λ_=>?_;exact⟨none,0,rfl,rfl⟩
 | some g=>
  refine J.qF λ_=>?_;refine J.qn 5 λbb=>?_;refine J.closeOwn (e:=101) (size:=19) (n:=0) (cap:=0) (xs:=[]) 2 rfl rfl rfl (i7 _) (j7 _) rfl rfl rfl ?_;refine J.q λ_=>?_;have hRd:Rd (m9 101 19 (some g) N cap (n7 l)) (some ⟨g,0,none⟩) 19 k (n7 (l.take k)):=by
   have:=(Y5 101 19 (some g) N cap (n7 l)).take k hk
   rwa [a3i]at this
  refine J.appendR hX tk (a:=some (bb 0)) (n:=0) (cap:=0) (xs:=[]) (oo:=0) (Ay:=m9 101 19 (some g) N cap (n7 l)) 2 1 0 rfl rfl rfl rfl rfl rfl rfl rfl rfl rfl hRd rfl rfl rfl rfl (a8x _) ?_ ?_ (λ_=>rfl) λa' c'=>⟨_,rfl,trivial,?_⟩
  ·simp only[maxLen];omega
  ·omega
  rw[J6 k,R4];refine J.qr [1,2] λ_=>?_;exact⟨a',c',rfl,rfl⟩
theorem b5K (c:Nat) (cs:List Value) (p:En->Bool) (A B:Atom) (hcal:K0 Tryz.prog c=true) (l:List En) (hf:∀x∈l,Fn Tryz.prog c (enV x::cs) [A] (Ps (.bool (p x)) [A]))
  (a:Option Addr) (n cap:Nat) (hB:Rd B a 19 n (n7 l)) (hl:l.length=n) (hn:n<=4611686018427387904):FP 122 [.slice a n cap,fnC c cs] [B,A]
  (Ps (iI (a8Q p l)) [B,A]):=by
 refine FE [0,0] Tryz.func122 λX F hX=>?_;refine J.q λ_=>?_;refine J.l (α:=Nat) (λk=>k<=n/\∀i<k,p (l.getD i En.zero)=false) (λk=>[si 8 k,si 7 n,sv 0 (.slice a n cap),⟨1,fnC c cs,0, .tt⟩]) [] (λk=>[]) (λk=>n-k) (0) (⟨by omega,by omega⟩) λk hI=>?_;refine J.qd (λ_ h1=>?_) λ_ h1=>?_
 ·simp only[d5,i5]at h1;refine J.know (p:=∃g o,a=some ⟨g,o,none⟩) (λh' s=>Rd.addr (hB _ (s.get (i:=1) rfl)) (by omega)) λhk=>?_;obtain⟨g,o,rfl⟩:=hk;have hk:l[k]? =some (l.getD k En.zero):=by rw[d7,c9 (by omega),j3]
  refine J.q λ_=>?_;refine J.v (enV (l.getD k En.zero)) rfl rfl (λhg a w he hs=>?_) ?_
  ·exact a3Z tk rfl rfl he rfl rfl rfl (hB _ (hs.get (i:=1) rfl)) (by omega) (j:=k*19) (by omega) (by have:=a0e l [] k _ hk;rwa [m6]at this) rfl
  refine J.q λ_=>?_;refine J.call hX hcal (hf (l.getD k En.zero) (j8 hk)) [2] 0 rfl rfl rfl rfl (by(repeat' (first | exact Conj.nil | refine Conj.cons ?_ ?_ | omega | exact hq0 | (simpa using hq0) | (exactλh=>h) | exact rfl | (intro hq;have hq0:=hq;try simp only[f7,j6,d5,i4,c8]at hq) | (simp;done) | (simp;omega) | decide))) rfl rfl (λ_=>rfl) ?_;refine cpq ⟨_,rfl,trivial,?_⟩;refine J.qd (λ_ h2=>?_) λ_ h2=>?_
  ·refine J.qr [1,2] λ_=>?_;exact⟨by rw[a8Q,a9G hk hI.2 h2],rfl⟩
  ·refine J.q λ_=>?_;refine J.nx (k+1) (⟨by omega,λi hi=>by
    rcases Nat.lt_succ_iff_lt_or_eq.1 hi with h3 | h3
    ·exact hI.2 i h3
    ·rw[h3];exact h2⟩) (by omega) (λ_ s=>s)
 ·simp only[c8,i5]at h1;refine J.qr [1,2] λ_=>?_;exact⟨by rw[a8Q,a9H (λi hi=>hI.2 i (by omega))],rfl⟩
theorem b1f (c:Nat) (cs:List Value) (p:En->Bool) (A B:Atom) (hcal:K0 Tryz.prog c=true) (l:List En) (hf:∀x∈l,Fn Tryz.prog c (enV x::cs) [A] (Ps (.bool (p x)) [A]))
  (a:Option Addr) (n cap:Nat) (hB:Rd B a 19 n (n7 l)) (hl:l.length=n) (hn:n<=4611686018427387904):FP 152 [.slice a n cap,fnC c cs] [B,A]
  (Ps (.bool (l.any p)) [B,A]):=by
 refine FE [0,0] Tryz.func152 λX F hX=>?_;refine J.qp (b5K c cs p A B hcal l hf a n cap hB hl hn) [1,2] λ_=>?_;refine J.qr [1,2] λ_=>?_;exact⟨by rw[<- b7H],rfl⟩
def a2q (d:Nat) (L:List En):Atom:=exA λx:Option Nat×Nat=>[.pt d 162 [slv x.1 L.length x.2],m9 101 19 x.1 L.length x.2 (n7 L)]
theorem c0r:FP 59 [] [] (λv As=>∃d,v=pp d/\As=[a2q d []]):=by
 refine FE [] Tryz.func59 λX F hX=>?_;refine J.q λbs=>?_;refine J.turn1 [] rfl (As:=[m9 101 19 none 0 0 (n7 [])]) (λh s=>Sep.one ⟨rfl,rfl,rfl⟩) rfl ?_;refine J.cl (λx:Option Nat×Nat=>[.pt (bs 0) 162 [slv x.1 ([]:List En).length x.2],m9 101 19 x.1 ([]:List En).length x.2 (n7 [])]) (none,0) [1,2] ?_;refine J.qr [1] λ_=>?_;exact⟨bs 0,rfl,rfl⟩
theorem b4b (d:Nat) (L:List En):FP 50 [pp d] [a2q d L] (Ps (iI L.length) [a2q d L]):=by
 refine FE [2] Tryz.func50 λX F hX=>?_;refine J.o (α:=(Option Nat×Nat)) 1 λx=>?_;refine J.qF λ_=>?_;refine J.q λ_=>?_;refine J.cl (λx:Option Nat×Nat=>[.pt d 162 [slv x.1 L.length x.2],m9 101 19 x.1 L.length x.2 (n7 L)]) x [1,2] ?_;exact J.qx [1]
theorem c1q (b:Nat) (e x:En):FP 145 [enV x,pp b] [.pt b 101 (enL e)] (Ps (.bool (x.lpn==e.lpn)) [.pt b 101 (enL e)]):=by
 refine FE [0,2] Tryz.func145 λX F hX=>?_;exact J.qx [1]
def a0B (L:List En) (e:En):List En:=(L.filter λx=>!(x.lpn==e.lpn))++[e]
theorem b4a (d:Nat) (L:List En) (hL:L.length<=100000) (e:En):FP 92 [pp d,enV e] [a2q d L] (Ps (.tuple #[]) [a2q d (a0B L e)]):=by
 refine FE [2,0] Tryz.func92 λX F hX=>?_;refine J.o (α:=(Option Nat×Nat)) 1 λx=>?_;obtain⟨a,c⟩:=x;refine J.q λbb=>?_;refine J.cF ?_;refine J.qc (a8W 145 [pp (bb 0)] (λx=>x.lpn==e.lpn) (.pt (bb 0) 101 (enL e)) (by kernel_rfl) (λx=>c1q (bb 0) e x) a L.length c L rfl (by omega)) [2,3] λ_=>?_;rintro v As ⟨l',hl',rfl,rfl⟩;refine⟨_,rfl,trivial,?_⟩;have hll:l'.length<=L.length:=by rw[hl'];exact H8 _ _
 have hput:a0B L e=l'++[e]:=by unfold a0B;rw[hl']
 refine J.pq (.of [0,4,8,12,17,21,26,30,32,36,43]) [8,9,10] [1,3] λ_ _=>?_;refine J.ap 2 4 0 (a0D l' e) λa2 c2=>?_;refine J.q λ_=>?_;rw[show l'.length+1=(a0B L e).length from by rw[hput];simp,<- hput];refine J.cl (λx:Option Nat×Nat=>[.pt d 162 [slv x.1 (a0B L e).length x.2],m9 101 19 x.1 (a0B L e).length x.2 (n7 (a0B L e))]) (a2,c2) [1,2] ?_;refine J.q λ_=>?_;refine J.f [1] ?_;exact⟨rfl,rfl⟩
theorem c1r (b:Nat) (k:Int) (x:En):FP 123 [enV x,pp b] [.pt b 3 [iI k]] (Ps (.bool (x.lpn==k)) [.pt b 3 [iI k]]):=by
 refine FE [0,2] Tryz.func123 λX F hX=>?_;exact J.qx [1]
def a2J (L:List En) (k:Int):En×Bool:=match L.find? (λx=>x.lpn==k)with
 | some e=>(e,true)
 | none=>(En.zero,false)
theorem b7X {p:En->Bool} {l:List En} {k:Nat} (h:l.findIdx? p=some k):l.find? p=some (l.getD k En.zero)/\l[k]? =some (l.getD k En.zero):=by
 rw[n9]at h;obtain⟨h1,h2,h3⟩:=h;have e:l[k]? =some (l.getD k En.zero):=by rw[d7,c9 h1,j3]
 refine⟨?_,e⟩;have e2:l.getD k En.zero=l[k]:=by rw[c9 h1]at e;injection e with e;exact e.symm
 rw[List.find?_eq_some_iff_getElem,e2];exact⟨h2,k,h1,rfl,λj hj=>by simpa using h3 j hj⟩
theorem c0s (d:Nat) (L:List En) (hL:L.length<=100000) (k:Int):FP 66 [pp d,iI k] [a2q d L] (Ps (.tuple #[enV (a2J L k).1, .bool (a2J L k).2]) [a2q d L]):=by
 refine FE [2,0] Tryz.func66 λX F hX=>?_;refine J.o (α:=(Option Nat×Nat)) 1 λx=>?_;obtain⟨a,c⟩:=x;refine J.q λbb=>?_;refine J.cF ?_;refine J.q λ_=>?_;refine J.ca hX (by kernel_rfl) (b1c 123 [pp (bb 0)] (λx=>x.lpn==k) (.pt (bb 0) 3 [iI k]) (by kernel_rfl) L (λx _=>c1r (bb 0) k x) a L.length c rfl (by omega)) [2,3] 0 rfl rfl rfl rfl rfl rfl (λ_=>rfl) ?_;refine cpq ⟨_,rfl,trivial,?_⟩;rw[a8Q];cases hx:L.findIdx? (λx=>x.lpn==k)with
 | none=>
  dsimp only;refine J.qT λ_=>?_;refine J.cl (λx:Option Nat×Nat=>[.pt d 162 [slv x.1 L.length x.2],m9 101 19 x.1 L.length x.2 (n7 L)]) (a,c) [1,2] ?_;refine J.qr [1] λ_=>?_;have:a2J L k=(En.zero,false):=by
   unfold a2J;rw[List.find?_eq_none.2 (λx hm=>by rw[D0]at hx;simp[hx x hm])]
  rw[this];exact⟨rfl,rfl⟩
 | some i=>
  dsimp only;obtain⟨f1,f2⟩:=b7X hx;have hi:i<L.length:=(List.getElem?_eq_some_iff.1 f2).1;refine J.qd (λ_ h0=>?_) λ_ h0=>?_
  ·simp only[d5]at h0;omega
  cases a with
  | none=>
   refine J.know (λh' s=>(s.get (i:=2) rfl).2.1) λhn0=>?_;omega
  | some g=>
   refine J.q λ_=>?_;refine J.v (enV (L.getD i En.zero)) rfl rfl (λhg a w he hs=>?_) ?_
   ·exact J8 tk rfl rfl he rfl rfl rfl (hs.get (i:=2) rfl) (by rw[show 0+(i:Int).toNat*19=i*19 from by omega];have:=a0e L [] i _ f2;rwa [m6]at this) rfl
   refine J.cl (λx:Option Nat×Nat=>[.pt d 162 [slv x.1 L.length x.2],m9 101 19 x.1 L.length x.2 (n7 L)]) (some g,c) [1,2] ?_;refine J.qr [1] λ_=>?_;have:a2J L k=(L.getD i En.zero,true):=by
    unfold a2J;rw[f1]
   rw[this];exact⟨rfl,rfl⟩
def dkN (L:List En) (n:Int):Nat:=min n.toNat L.length
theorem b4c (d:Nat) (L:List En) (hL:L.length<=100000) (n:Int):FP 93 [pp d,iI n] [a2q d L] (λv As=>∃a' c',v=slv a' (dkN L n) c'/\As=[a2q d L,m9 101 19 a' (dkN L n) c' (n7 (L.take (dkN L n)))]):=by
 refine FE [2,0] Tryz.func93 λX F hX=>?_;refine J.o (α:=(Option Nat×Nat)) 1 λx=>?_;obtain⟨a,c⟩:=x;refine J.qF λ_=>?_;refine J.know (λh' s=>a0M (s.get (i:=2) rfl)) λhcap=>?_;dsimp only at hcap;have hmin:(if(L.length:Int)<(if(0:Int)>n then 0 else n)then(L.length:Int)else(if(0:Int)>n then 0 else n))=(dkN L n:Int):=by
  unfold dkN
  by_cases h:(0:Int)>n
  ·simp only[d8 h];rw[d6 (by omega)];omega
  ·simp only[d6 h];split<;>omega
 have hk:dkN L n<=L.length:=Nat.min_le_right _ _;refine J.pn 12 (.of [0,4,8,13,16,20,24,28,32,37,40,44,48,54,56]) [14] [1,2] λ_ _=>?_;refine J.vT (slv a (dkN L n) c) rfl rfl (λhg aa w he hC=>?_) ?_
 ·exact b8h rfl rfl rfl he rfl rfl hmin (by omega)
 refine J.qc (b5O a L.length c c (dkN L n) L rfl hk (by omega)) [2] λ_=>?_;rintro v As ⟨a',c',rfl,rfl⟩;refine⟨_,rfl,⟨rfl,rfl,trivial⟩,?_⟩;refine J.q λ_=>?_;refine J.cl (λx:Option Nat×Nat=>[.pt d 162 [slv x.1 L.length x.2],m9 101 19 x.1 L.length x.2 (n7 L)]) (a,c) [1,2] ?_;refine J.qr [1,3] λ_=>?_;exact⟨a',c',rfl,rfl⟩
theorem b9X (b be:Nat) (x e:En):FP 153 [enV e,pp b] [.pt b 101 (enL x)] (Ps (.bool (e.lpn==x.lpn&&e.seq==x.seq)) [.pt b 101 (enL x)]):=by
 refine FE [0,2] Tryz.func153 λX F hX=>?_;exact J.qx [1]
theorem b9Y (b:Nat) (B:Atom) (al:Option Addr) (nl cl:Nat) (l:List En) (hB:Rd B al 19 nl (n7 l)) (hl:l.length=nl) (hn:nl<=4611686018427387904) (x:En):FP 151 [enV x,pp b] [.pt b 116 [.slice al nl cl],B] (λv As=>v= .bool (l.any λe=>e.lpn==x.lpn&&e.seq==x.seq)/\As=[.pt b 116 [.slice al nl cl],B]):=by
 refine FE [0,2] Tryz.func151 λX F hX=>?_;refine J.q λbb=>?_;refine J.ca hX (by kernel_rfl) (b1f 153 [pp (bb 0)] (λe=>e.lpn==x.lpn&&e.seq==x.seq) (.pt (bb 0) 101 (enL x)) B (by kernel_rfl) l (λe _=>b9X (bb 0) 0 x e) al nl cl hB hl hn) [2,3] 0 rfl rfl rfl rfl rfl rfl (λ_=>rfl) ?_;refine cpq ⟨_,rfl,trivial,?_⟩;exact J.qx [1,2]
def a0t (L l:List En):List En:=L.filter λx=>!(l.any λe=>e.lpn==x.lpn&&e.seq==x.seq)
theorem b8g (d:Nat) (L:List En) (hL:L.length<=100000) (B:Atom) (al:Option Addr) (nl cl:Nat) (l:List En) (hB:Rd B al 19 nl (n7 l)) (hl:l.length=nl) (hn:nl<=4611686018427387904):FP 95 [pp d, .slice al nl cl] [a2q d L,B] (Ps (iI ((L.length:Int)-(a0t L l).length)) [a2q d (a0t L l),B]):=by
 refine FE [2,0] Tryz.func95 λX F hX=>?_;refine J.o (α:=(Option Nat×Nat)) 1 λx=>?_;obtain⟨a,c⟩:=x;refine J.q λbb=>?_;refine J.cF ?_;refine J.q λ_=>?_;refine J.turn1 [4,2] rfl (As:=[.hp (HP.of [.pt (bb 0) 116 [.slice al nl cl],B])]) (λh s=>Sep.hpOf.2 s) rfl ?_;refine J.q λ_=>?_;refine J.ca hX (by kernel_rfl) (a8W 151 [pp (bb 0)] (λx=>l.any λe=>e.lpn==x.lpn&&e.seq==x.seq) _ (by kernel_rfl) (λx=>Fn.pack (b9Y (bb 0) B al nl cl l hB hl hn x)) a L.length c L rfl (by omega)) [3,4] 0 rfl rfl rfl rfl rfl rfl (λ_=>rfl) ?_;rintro v As ⟨l',hl',rfl,rfl⟩;refine⟨_,rfl,trivial,?_⟩;have hll:l'.length<=L.length:=by rw[hl'];exact H8 _ _
 have hdn:a0t L l=l':=hl'.symm;refine J.q λ_=>?_;refine J.turn1 [4] rfl (As:=[.pt (bb 0) 116 [.slice al nl cl],B]) (λh s=>Sep.hpOf.1 s) rfl ?_;refine J.cl (λx:Option Nat×Nat=>[.pt d 162 [slv x.1 l'.length x.2],m9 101 19 x.1 l'.length x.2 (n7 l')]) (a,c) [1,3] ?_;refine J.qr [1,5] λ_=>?_;rw[hdn];exact⟨rfl,rfl⟩
theorem num_snoc (l:List En) (next:Int) (k:Nat):Dv.num l next (k+1)=Dv.num l next k++[Dv.numAt l next k]:=by unfold Dv.num;rw[s9,t7];rfl
theorem b1y (p n t l:Nat) (S:Dv) (A:Atom) (a:Option Addr) (m c:Nat) (es:List En) (hA:Rd A a 19 m (n7 es)) (hl:es.length=m) (hm:m<=1000000) (hd:∀s∈es,s.data.length=16) (hn:1<=S.next/\S.next<=1099511627776) (sl:Nat) (hsl:sl<=7):
  FP 148 [pp p, .slice a m c,iI sl] [a1W p n t l S,A]
  (λv As=>∃g c',v=slv g sl c'/\As=[a1W p n t l {S with next:=S.next+(min m sl:Nat)},A,m9 101 19 g sl c' (n7 (Dv.num es S.next sl))]):=by
 refine FE [2,0,0] Tryz.func148 λX F hX=>?_;refine J.q λ_=>?_;refine J.turn1 [] rfl (As:=[m9 101 19 none 0 0 (n7 [])]) (λh s=>Sep.one ⟨rfl,rfl,rfl⟩) rfl ?_;refine J.q λ_=>?_;refine J.l (α:=(Nat×Int×Option Nat×Nat)) (λz=>z.1<=sl/\z.2.1=S.next+(min m z.1:Nat)) (λz=>[si 11 z.1,si 10 sl,sv 7 (slv z.2.2.1 (Dv.num es S.next z.1).length z.2.2.2),⟨0,pp p,2, .tt⟩,sv 1 (.slice a m c)]) [1,3] (λz=>[a1W p n t l {S with next:=z.2.1},m9 101 19 z.2.2.1 (Dv.num es S.next z.1).length z.2.2.2 (n7 (Dv.num es S.next z.1))]) (λz=>sl-z.1) ((0,S.next,none,0)) (⟨j7 _,by simp⟩) λz hI=>?_;obtain⟨k,nx,ga,ca⟩:=z;dsimp only at hI ⊢;obtain⟨hk,hnx⟩:=hI;have hlen:(Dv.num es S.next k).length=k:=Dv.num_len _ _ _;refine J.qd (λ_ h1=>?_) λ_ h1=>?_
 ·simp only[d5,i5]at h1;have hs:=num_snoc es S.next k;refine J.qd (λ_ h2=>?_) λ_ h2=>?_
  ·simp only[d5,a0S,Int.ofNat_le]at h2;have hx:Dv.numAt es S.next k=En.pad:=by unfold Dv.numAt;rw[d6 (by omega)]
   refine J.q λ_=>?_;refine J.ap 3 4 0 (a0D (Dv.num es S.next k) En.pad) λa3 c3=>?_;rw[<- hx,<- hs,show(Dv.num es S.next k).length+1=(Dv.num es S.next (k+1)).length from by rw[hs];simp];refine J.q λ_=>?_;refine J.n ((k+1,nx,a3,c3)) (⟨by dsimp only;omega,by dsimp only;rw[hnx];congr 2;omega⟩) (by dsimp only;omega) [0,1,2,3]
  simp only[c8,a0S,Int.ofNat_le]at h2;have hkl:k<es.length:=by omega
  have hx:Dv.numAt es S.next k={es.getD k En.zero with seq:=S.next+k}:=by unfold Dv.numAt;rw[d8 hkl]
  have hget:es[k]? =some (es.getD k En.zero):=by rw[d7,c9 hkl,j3]
  refine J.know (p:=∃g o,a=some ⟨g,o,none⟩) (λh' s=>Rd.addr (hA _ (s.get (i:=2) rfl)) (by omega)) λhk2=>?_;obtain⟨g,o,rfl⟩:=hk2;refine J.q λ_=>?_;refine J.v (enV (es.getD k En.zero)) rfl rfl (λhg a w he hw=>?_) ?_
  ·exact a3Z tk rfl rfl he rfl rfl rfl (hA _ (hw.get (i:=2) rfl)) (by omega) (j:=k*19) (by omega) (by have:=a0e es [] k _ hget;rwa [m6]at this) rfl
  refine J.q λ_=>?_;refine J.ap 3 5 0 (a0D (Dv.num es S.next k) {es.getD k En.zero with seq:=nx}) λa3 c3=>?_;have hnk:nx=S.next+(k:Int):=by rw[hnx,Nat.min_eq_right (by omega)]
  rw[hnk,<- hx,<- hs,show(Dv.num es S.next k).length+1=(Dv.num es S.next (k+1)).length from by rw[hs];simp];refine J.q λ_=>?_;refine J.n ((k+1,S.next+k+1,a3,c3)) (⟨by dsimp only;omega,by dsimp only;rw[Nat.min_eq_right (by omega)];omega⟩) (by dsimp only;omega) [0,1,2,3]
 ·simp only[c8,i5]at h1;obtain rfl:k=sl:=by omega
  rw[hnx];refine J.qr [1,2,3] λ_=>?_;exact⟨ga,ca,by rw[hlen],by rw[hlen];rfl⟩
theorem a3F (p n t l:Nat) (S:Dv) (k mm:Nat) (hO:S.Ok (8*Dv.fuel+k) mm) (A:Atom) (a:Option Addr) (m c:Nat) (es:List En) (hA:Rd A a 19 m (n7 es)) (hl:es.length=m) (hm:m<=1000000) (hd:∀s∈es,s.data.length=16):
  FP 94 [pp p, .slice a m c] (DvP p n t l S++[A])
  (Ps (.tuple #[iI (S.pen es).2.1,iI (S.pen es).2.2]) (DvP p n t l (S.pen es).1++[A])):=by
 have hmu:=Dv.mu_le hO;refine FE [2,0] Tryz.func94 λX F hX=>?_;refine J.qF λ_=>?_;refine J.q λ_=>?_;refine J.l (α:=(Nat×Dv)) (λz=>z.2.Ok (8*z.1+k) mm/\z.2.mu<z.1/\Dv.write z.1 z.2 es=S.pen es) (λz=>[⟨0,pp p,2, .tt⟩,sv 1 (.slice a m c)]) [1,2,3,4] (λz=>DvP p n t l z.2) (λz=>z.1) ((Dv.fuel,S)) (⟨hO,by dsimp only;unfold Dv.fuel;omega,rfl⟩) λz hI=>?_;obtain⟨j,Q⟩:=z;dsimp only at hI ⊢;obtain⟨hQ,hj,hw⟩:=hI;obtain⟨j,rfl⟩:∃i,j=i+1:=⟨j-1,by omega⟩;have hQ1:Q.Ok (8+(8*j+k)) mm:=hQ.less (by omega);have hbd:=hQ.gd.ok.bd16;have hlb:=hQ.t.len;have hbb:Q.t.b<=1000:=by have:=hQ.t.b;omega
 rw[Dv.write_succ]at hw;refine J.qd (λ_ h1=>?_) λ_ h1=>?_
 ·simp only[d5]at h1;have hlen:es.length≠0:=by omega
  rw[d6 hlen]at hw;refine J.qp (b3E p n t l Q) [1,2,3,4] λ_=>?_;refine J.q λ_=>?_
  by_cases hns:Q.left=false/\Q.pick<0
  ·rw[d8 hns]at hw;rw[hns.1];refine J.qT λ_=>?_;refine J.qp (b1x p n t l Q hbb hlb) [1,2,3,4] λ_=>?_;rw[d8 hns.2,d8 hns.2];refine J.qT λ_=>?_;refine J.qr [1,2,3,4,5] λ_=>?_;rw[<- hw];exact⟨rfl,rfl⟩
  rw[d6 hns]at hw;refine J.join (α:=Unit) (λ_=>[⟨0,pp p,2, .tt⟩,sv 1 (.slice a m c)]) (λ_=>[.hp F,a1W p n t l Q.at1,B8 n Q.at1.N,TlA t Q.at1.t,TbA l Q.at1.T,A]) (λhj=>?_) (λ_=>?_)
  ·refine J.qd (λ_ h2=>?_) λ_ h2=>?_
   ·simp only[i4]at h2;have hp:¬Q.pick<0:=λe=>hns ⟨h2,e⟩;refine J.qp (b1x p n t l Q hbb hlb) [1,2,3,4] λ_=>?_;rw[d6 hp,d6 hp];have ha:Q.at1=Q.opened:=by unfold Dv.at1;rw[h2];rfl
    rw[ha]at hj;refine J.qF λ_=>?_;refine J.qn 1 λ_=>?_;exact J.goto [0,1,2,3,4,5] (hj ()) ⟨rfl,rfl,trivial⟩ rfl rfl
   ·simp only[A9]at h2;have ha:Q.at1=Q:=by unfold Dv.at1;rw[h2];rfl
    rw[ha]at hj;refine J.qn 1 λ_=>?_;exact J.goto [0,1,2,3,4,5] (hj ()) ⟨rfl,rfl,trivial⟩ rfl rfl
  have h3:=Dv.at1_left' hQ hns;have h4:=Dv.mu_at1 hQ hns;have hQ3:=hQ1.at1;clear hQ1 hlb hbb;generalize Q.at1=P at hw h3 h4 hQ3 ⊢;have hs:=Dv.left_spec h3;have hfit:=Dv.fit_le P es;have hsb:=Dv.slots_le P.mask;have hnx:=hQ3.next;have hrow:=hQ3.row;obtain⟨sl,hsl⟩:∃sl:Nat,G.slots P.mask=(sl:Int):=⟨(G.slots P.mask).toNat,by omega⟩;have hfs:P.fit es=min m sl:=by unfold Dv.fit;rw[hsl,hl,j4]
  have hes:P.es es=Dv.num es P.next sl:=by unfold Dv.es;rw[hsl,j4]
  have hmin:(if(sl:Int)<(m:Int)then(sl:Int)else(m:Int))=(P.fit es:Int):=by rw[hfs];split<;>omega
  refine J.qp (a1i P.mask) [] λ_=>?_;rw[hsl];refine J.qn 8 λ_=>?_;rw[hmin];refine J.qd (λ_ h5=>?_) λ_ h5=>?_
  ·simp only[d5]at h5;have h5:P.next>1099511627775-(P.fit es:Int)+1:=h5;rw[d8 h5]at hw;refine J.qr [1,2,3,4,5] λ_=>?_;rw[<- hw];exact⟨rfl,rfl⟩
  simp only[c8]at h5;have h5:¬P.next>1099511627775-(P.fit es:Int)+1:=h5;rw[d6 h5]at hw;refine J.qc (b1y p n t l P A a m c es hA hl hm hd hnx sl (by omega)) [1,5] λ_=>?_;rintro v As ⟨g,c1,rfl,rfl⟩;refine⟨_,rfl,trivial,?_⟩;rw[<- hes,<- hfs];have hdn:∀s∈P.es es,s.data.length=16:=Dv.num_data hd _ _;have hlen2:(P.es es).length=sl:=by rw[hes,Dv.num_len]
  refine J.know (λh' s=>D1 (c:=(g,c1)) (by omega) (s.get (i:=6) rfl)) λhg=>?_;obtain⟨ga,rfl⟩:=hg;refine J.know (λh' s=>a0M (show a0V _ _ (some ga) sl c1 _ _ from s.get (i:=6) rfl)) λhcap=>?_;have hRd:Rd (m9 101 19 (some ga) sl c1 (n7 (P.es es))) (some ⟨ga,0,none⟩) 19 sl (n7 (P.es es)):=Y5 101 19 (some ga) sl c1 (n7 (P.es es));refine J.pq (.of [0,4,8,13,16,20,24,29,32,36,40,44,49,52,58,60,64,68,72,76]) [19] [1,3,4,5,6] λ_ _=>?_;refine J.ca hX (by kernel_rfl) (a7b n P.N (m9 101 19 (some ga) sl c1 (n7 (P.es es))) P.op P.row P.mask (some ⟨ga,0,none⟩) sl c1 mm (P.es es) hRd hlen2 hdn (hQ3.gd.less (by omega) (i7 _))) [2,6] 0 rfl rfl rfl rfl rfl rfl (λ_=>rfl) ?_;refine cpq ⟨_,rfl,stq,?_⟩;have hwr:R.write P.N P.op P.row P.mask (P.es es)=P.wr es:=rfl;rw[hwr];refine J.qd (λ_ h6=>?_) λ_ h6=>?_
  ·simp only[A4]at h6;rw[d8 h6]at hw;refine J.qr [1,2,3,4,5] λ_=>?_;rw[<- hw];exact⟨by rw[h6],rfl⟩
  simp only[l8,H5]at h6;rw[d6 h6]at hw;refine J.qd (λ_ h7=>?_) λ_ h7=>?_
  ·simp only[A4]at h7;rw[d8 h7]at hw;refine J.q λ_=>?_;have hfn:(P.fit es:Int).toNat-0=P.fit es:=by omega
   rw[hfn];have hpo:=λi (hi:i<=1000)=>Dv.puts_ok hQ3.T hQ3.sl P.op P.row P.mask (P.es es) i hi;refine J.q λ_=>?_;refine J.l (α:=Nat) (λi=>i<=P.fit es) (λi=>[si 109 i,si 108 (P.fit es:Int),sv 107 (.slice (some ⟨ga,0,none⟩) (P.fit es) (c1-0)),⟨0,pp p,2, .tt⟩,si 8 (P.fit es:Int),si 9 P.row]) [4] (λi=>[TbA l (Dv.puts P.T P.op P.row P.mask (P.es es) i)]) (λi=>P.fit es-i) (0) (j7 _) λi hI=>?_;refine J.qd (λ_ h9=>?_) λ_ h9=>?_
   ·simp only[d5,i5]at h9;have hil:i<(P.es es).length:=by omega
    have hget:(P.es es)[i]? =some ((P.es es).getD i En.zero):=by rw[d7,c9 hil,j3]
    have hseq: -9223372036854775808<=((P.es es).getD i En.zero).seq/\((P.es es).getD i En.zero).seq<9223372036854775807:=by
     have:(P.es es).getD i En.zero=Dv.numAt es P.next i:=by
      rw[hes];unfold Dv.num;rw[d7,i9,I4 (by omega)];rfl
     rw[this];unfold Dv.numAt;split
     ·show-9223372036854775808<=P.next+(i:Int)/\P.next+(i:Int)<9223372036854775807;omega
     ·show-9223372036854775808<=(0:Int)/\(0:Int)<9223372036854775807;omega
    refine J.q λ_=>?_;refine J.v (enV ((P.es es).getD i En.zero)) rfl rfl (λhg a w he hw=>?_) ?_
    ·exact a3Z tk rfl rfl he rfl rfl rfl (hRd _ (hw.get (i:=6) rfl)) (by omega) (j:=i*19) (by omega) (by have:=a0e (P.es es) [] i _ hget;rwa [m6]at this) rfl
    refine J.p (.of [0,4,8,13,17,20,24,28,33,36,40,44,48,52,56,61,66]) [] [1,2,3,5,6,7] λ_=>?_;refine J.qp (a7u l (Dv.puts P.T P.op P.row P.mask (P.es es) i) ((P.es es).getD i En.zero) P.op P.row i P.mask hseq (hpo i (by omega)).1.bd) [4] λ_=>?_;rw[<- Dv.puts_succ];refine J.q λ_=>?_;refine J.n (i+1) (by omega) (by omega) [0,1,2,3,4,5,6]
   ·simp only[c8,i5]at h9;obtain rfl:i=P.fit es:=by omega
    refine J.qr [1,2,3,4,5] λ_=>?_;rw[<- hw];exact⟨rfl,rfl⟩
  simp only[l8,H5]at h7;rw[d6 h7]at hw;refine J.qd (λ_ h8=>?_) λ_ h8=>?_
  ·simp only[A4]at h8;rw[d8 h8]at hw;refine J.qr [1,2,3,4,5] λ_=>?_;rw[<- hw];exact⟨by rw[h8],rfl⟩
  simp only[l8,H5]at h8;rw[d6 h8]at hw;have hWO:=hQ3.wrote hd hs.2.1 h5;have hmu2:=Dv.mu_wrote hQ3 h3 es (P.wr es).2.1;refine J.qp (b6F p n t l (P.wrote es) hWO.gd.ok hWO.t (P.wr es).2.1) [1,2,3,4] λ_=>?_;refine J.q λ_=>?_;refine J.n ((j,(P.wrote es).loses (P.wr es).2.1)) (⟨hWO.loses _,by dsimp only;omega,hw⟩) (by dsimp only;omega) [0,1,2,3,4,5]
 ·simp only[c8]at h1;have hlen:es.length=0:=by omega
  rw[d8 hlen]at hw;refine J.qr [1,2,3,4,5] λ_=>?_;rw[<- hw];exact⟨rfl,rfl⟩
theorem a3Q {P:Program} {T:Tab} {E:Env} {n:Nat} {ac:Act} {w:World} (hT:TabOK P T) {o:Oper} {t e size:Nat} {x y:Operand} {k1 k2 t1 t2:Nat} {g1 g2:G} {a:Option Addr} {m c h:Nat} {kk:IntKind} {s1 b1 b2:Nat} {z1 z2:List Value} {td:TD} (hop:o.op= .slice t x none (some y) none) (hx:ev E x=some ⟨k1, .slice a m c,t1,g1⟩) (hy:ev E y=some ⟨k2, .int kk h,t2,g2⟩) (he:EnvOK n E ac) (v1:g1.on=true) (v2:g2.on=true)
  (ht:T.get t=some ⟨.slice e size,s1,z1,b1⟩) (hte:T.get e=some ⟨td,size,z2,b2⟩) (hc:h<=c):
  (execOp ac.eval o).run P w= .ok (.value (.slice a h c)) w:=by
 have e1:=C5 he hx;have e2:=C5 he hy;simp only[Slot.val,v1,v2]at e1 e2;obtain⟨d,f,zv,ok⟩:=B4 (hT.get ht);obtain⟨fe,rfl,g1,g2⟩:=ok.slice rfl;have h0:∀ad:Addr,ad.add 0=ad:=λad=>by unfold Addr.add;rw[d8 rfl]
 cases a with
 | none=>
  simp only[execOp,hop,C6,O3,e1,e2,Instr.sliceAt,Instr.slice,Instr.sliceBounds,Instr.sliceBound,asIntOf,Sem.run_bind,Sem.run_pure,Result.andThen_ok,s8 ok.hd,J0 g1,g2];simp[hc,h0]
 | some ad=>
  simp only[execOp,hop,C6,O3,e1,e2,Instr.sliceAt,Instr.slice,Instr.sliceBounds,Instr.sliceBound,asIntOf,Sem.run_bind,Sem.run_pure,Result.andThen_ok,s8 ok.hd,J0 g1,g2];simp[hc,h0]
theorem c2o (x:Int):(if(0:Int)>x then 0 else x)=max x 0:=by split<;>omega
theorem min2 (x y:Int):(if y<x then y else x)=min x y:=by split<;>omega
end Go.Proofs.YtmafiplddapokaaGreat
