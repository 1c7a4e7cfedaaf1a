/- Helpers. No condition. -/
import Derived.Test.YtmafiplddapokaaGreatT15
set_option maxRecDepth 20000
set_option linter.all false
namespace Go.Proofs.YtmafiplddapokaaGreat
open Go
theorem b4t {l:List En} {next:Int} {n:Nat} {e:En} (h:e∈Dv.num l next n):(∃i,i<l.length/\i<n/\e={l.getD i En.zero with seq:=next+i})\/e=En.pad:=by
 simp only[Dv.num,Q5,J4]at h;obtain⟨i,hi,rfl⟩:=h;unfold Dv.numAt;split
 ·rename_i h;exact .inl ⟨i,h,hi,rfl⟩
 ·exact .inr rfl
theorem a7x {l:List En} {next:Int} {n k:Nat} (hk:k<n):(Dv.num l next n).getD k En.zero=Dv.numAt l next k:=by
 unfold Dv.num;rw[d5,i5,M2 hk];rfl
theorem W5 {l:List En} {i:Nat} (h:i<l.length):l.getD i En.zero∈l:=by
 rw[d5,c9 h];exact I2 _
namespace Inv
variable {fd : Int} {S : Dv} {k m : Nat} {l : List En}
theorem opn (h:Inv fd S) (hl:S.left=true):Opn fd S:=by
 rcases h.op with e | e
 ·have:=Dv.left_spec hl;omega
 ·exact e
theorem rowIs (h:Inv fd S) (hO:S.Ok k m) (hl:S.left=true) (hf:∀e∈l,FitR e) (hn:¬S.next>1099511627775-(S.fit l:Int)+1):RowIs S.N S.op S.row S.mask (S.es l):=by
 have ho:=h.opn hl;have hs:=Dv.left_spec hl;have hg:=hO.gd.ok.bd16;have hx:=hO.next;obtain⟨m1,m2,m3,m4⟩:=ho.mask.slots hg.1;have hrow:=ho.row;have hblk:=ho.blk;refine⟨hg.1.2,ho.blk,⟨hrow.1,hs.2.1⟩,⟨m3,m4⟩,Dv.num_data (λe he=>(hf e he).len) _ _,?_⟩;unfold W.parB;have h1:decide (((S.es l).length:Int)=G.slots S.mask)=true:=by rw[Dv.es_len];exact i7 (by omega)
 have h2:(!(S.es l).isEmpty)=true:=by
  cases he:S.es l with
  | nil=>have:=Dv.es_len S l;rw[he]at this;simp at this;omega
  | cons x y=>rfl
 rw[h1,h2,q9,q9,E8];intro e he;rcases b4t he with⟨i,hi,hin,rfl⟩ | rfl
 ·have hfe:=hf _ (W5 hi);refine c1h ⟨hblk.1,by omega⟩ ⟨hrow.1,by omega⟩ m2 ⟨?_,?_⟩ (.inl ⟨hfe.lpn,hfe.role,hfe.len⟩)
  ·show 0<=S.next+(i:Int);omega
  ·show S.next+(i:Int)<=1099511627775;have:i<S.fit l:=by unfold Dv.fit;omega
   omega
 ·exact c1h ⟨hblk.1,by omega⟩ ⟨hrow.1,by omega⟩ m2 ⟨by decide,by decide⟩ (.inr rfl)
theorem fails_no (h:Inv fd S) {b r:Int} {d:Nat} (hd:(d:Int)≠fd):S.N.failB b r d=false/\S.N.fails d b r=false:=by
 have e1:=h.dead d hd;have e2:=(h.flags d b.toNat hd).1;have e3:S.N.fails d b r=false:=by
  unfold Nand.fails;rw[i9,e2,a4r];refine n7 λhm=>?_;exact hd (h.plan _ hm)
 refine⟨?_,e3⟩;unfold Nand.failB;rw[e3,a4r,i9,e1]
structure Turn (fd:Int) (S:Dv) (l:List En):Prop where
 inv:Inv fd (S.wrote l)
 full:Full fd (S.wrote l).N S.op S.row S.mask (S.es l)
 err:(S.wr l).2.2=if(S.wr l).2.1=0 then 0 else 7
 set:L.set (S.wr l).2.1=true
 only:∀d:Int,L.has (S.wr l).2.1 d=true->d=fd/\L.has S.mask fd=true
 fail:∀d:Nat,L.has S.mask (d:Nat)=true->L.has (S.wr l).2.1 (d:Nat)=S.N.failB S.op S.row d
 dead:(S.wrote l).N.dead=S.N.dead
 broken:(S.wrote l).N.broken=S.N.broken
 like:S.N.Like (S.wrote l).N
 plan:∀a∈(S.wrote l).N.plan,a∈S.N.plan
 rest:∀i j,j≠S.op.toNat->(S.wrote l).N.blk i j=S.N.blk i j
 flags:∀i j,((S.wrote l).N.blk i j).met=(S.N.blk i j).met/\((S.wrote l).N.blk i j).fails=(S.N.blk i j).fails/\((S.wrote l).N.blk i j).worn=(S.N.blk i j).worn
 ops:(S.wrote l).N.ops=S.N.ops+(((R.job S.op S.row S.mask (S.es l)).filter λx=>!S.N.dead.getD x.1.toNat false).length:Int)
theorem turn (h:Inv fd S) (hO:S.Ok k m) (hl:S.left=true) (hf:∀e∈l,FitR e) (hn:¬S.next>1099511627775-(S.fit l:Int)+1):Turn fd S l:=by
 have ho:=h.opn hl;have hs:=Dv.left_spec hl;have hg:=hO.gd.ok.bd16;have hR:=h.rowIs hO hl hf hn;have hrdy:RdyW S.N S.op S.row S.mask:=⟨h.lit,λd hd ha=>(ho.cells d hd).2 ha⟩;have hq:=hrdy.rdy hR;obtain⟨w1,w2,w3⟩:=a4t hrdy hR;have hin:=hR.inn;have hq8:∀x∈R.job S.op S.row S.mask (S.es l),0<=x.1/\x.1<8:=λx hx=>by have:=hin x hx;omega
 obtain⟨f1,f2⟩:=a6v (N:=S.N) (b:=S.op) (r:=S.row) _ 0 (by decide) hq8;have w3:WroteR S.N (S.wrote l).N S.op S.row (R.job S.op S.row S.mask (S.es l)):=w3;have w1:(S.wr l).2.1=a0B S.N S.op S.row (R.job S.op S.row S.mask (S.es l)) 0:=w1;have w2:(S.wr l).2.2=if a0B S.N S.op S.row (R.job S.op S.row S.mask (S.es l)) 0=0 then 0 else 7:=w2
 have hfail:∀d:Nat,L.has S.mask (d:Nat)=true->L.has (S.wr l).2.1 (d:Nat)=S.N.failB S.op S.row d:=λd hd=>by
  rw[w1,f2,L.has_zero,D6,a2v,a1M];constructor
  ·rintro⟨x,hx,hh⟩;simp only[f8,d6]at hh;rw[<- hh.1];exact hh.2
  ·intro hh;obtain⟨x,hx,hxd⟩:=hR.on hd;exact⟨x,hx,by rw[hxd,hh];simp⟩
 have honly:∀d:Int,L.has (S.wr l).2.1 d=true->d=fd/\L.has S.mask fd=true:=λd hd=>by
  rw[w1,f2,L.has_zero,D6,a1M]at hd;obtain⟨x,hx,hh⟩:=hd;simp only[f8,d6]at hh;have hxi:=hin x hx;obtain⟨e,he⟩:=f9 hxi.1
  by_cases hne:(e:Int)=fd
  ·rw[<- hne,<- he];exact⟨hh.1.symm,hxi.2.2⟩
  ·have:=(h.fails_no (b:=S.op) (r:=S.row) hne).1;rw[<- he,hh.2]at this;cases this
 have hrow:=ho.row;have hblk:=ho.blk;have hcells:∀d:Nat,L.has S.mask (d:Nat)=true->(((S.wrote l).N.blk d S.op.toNat).cells.length:Int)<=S.row+1/\(S.N.dead.getD d false=false->(((S.wrote l).N.blk d S.op.toNat).cells.length:Int)=S.row+1):=λd hd=>by
  obtain⟨x,hx,hxd⟩:=hR.on hd;have hc:=w3.cells x hx;have ho2:=ho.cells d hd;rw[hxd,i9]at hc;rw[hc];cases hdd:S.N.dead.getD d false with
  | true=>rw[d7 rfl];exact⟨by omega,λe=>by cases e⟩
  | false=>
   rw[d4 l4,d8];have:=ho2.2 hdd;simp only[l6,a1c];exact⟨by omega,λ_=>by omega⟩
 have hfull:Full fd (S.wrote l).N S.op S.row S.mask (S.es l):=by
  refine⟨hR.like w3.like,λx hx hne=>?_,λx hx c hc=>?_⟩
  ·have hxi:=hin x hx;obtain⟨e,he⟩:=f9 hxi.1;have hc:=w3.cells x hx;have hne':(e:Int)≠fd:=by rw[<- he];exact hne
   have hxm:=hxi.2.2;rw[he]at hxm;have hlen:=(ho.cells e hxm).2 (h.dead e hne');rw[he,i9,h.dead e hne',d4 l4,(h.fails_no (b:=S.op) (r:=S.row) hne').2]at hc;refine⟨⟨P7 x.2,false,false⟩,?_,rfl,a6p (hR.sh x hx).1⟩;unfold Nand.pageAt;rw[he,i9,hc,B1 (by omega),show S.row.toNat-(S.N.blk e S.op.toNat).cells.length=0 from by omega];rfl
  ·have hxi:=hin x hx;obtain⟨e,he⟩:=f9 hxi.1;have hxm:=hxi.2.2;have hcc:=w3.cells x hx;unfold Nand.pageAt at hc;rw[hcc]at hc;rw[he]at hxm;have hlen:=ho.cells e hxm;rw[he,i9]at hc;cases hdd:S.N.dead.getD e false with
   | true=>
    rw[hdd,d7 rfl,j6 (by omega)]at hc;cases hc
   | false=>
    have:=hlen.2 hdd;rw[hdd,d4 l4,B1 (by omega),show S.row.toNat-(S.N.blk e S.op.toNat).cells.length=0 from by omega]at hc;simp only[M5,l7]at hc;subst hc;exact .inr (.inl rfl)
 refine⟨⟨w3.lit,λi hi=>by rw[w3.dead];exact h.dead i hi,λa ha=>h.plan a (w3.plan a ha),λi j hi=>by have:=w3.flags i j;rw[this.1,this.2.1];exact h.flags i j hi,h.tdead,h.tbad, .inr ⟨by rw[show(S.wrote l).N.blocks=S.N.blocks from w3.like.blocks];exact ho.blk,ho.used,by rw[show(S.wrote l).N.pages=S.N.pages from w3.like.pages];show 0<=S.row+1/\S.row+1<=_;omega,by rw[show(S.wrote l).N.dies=S.N.dies from w3.like.dies];exact ho.mask,λd hd=>by rw[w3.dead];exact hcells d hd⟩,λb hb hu d hd=>?_,λi a ha=>?_⟩,hfull,by rw[w2,w1],by rw[w1];exact f1,honly,hfail,w3.dead,w3.broken,w3.like,w3.plan,λi j hj=>w3.rest i j (.inl hj),w3.flags,w3.ops⟩
 ·have hbi:=Tl.has_iff.1 hb;have hne:b≠S.op:=λe=>by rw[e]at hu;have:=ho.used;rw[show(S.wrote l).t=S.t from rfl]at hu;rw[hu]at this;cases this
  rw[w3.rest _ _ (.inl (by omega))];exact h.blank b hb hu d hd
 ·have hst:=h.st i a ha;obtain⟨lr,g1,g2,g3,g4,g5,g6⟩:=hst.row;refine⟨⟨lr,g1.keep w3.like λx hx=>w3.page hq (g1.is.inn x hx).1 g1.is.blk.1 g1.is.row.1 (λe=>by have:=hst.below e;omega),g2,g3,g4,g5,g6⟩,hst.used,λe=>by have:=hst.below e;show a.row<S.row+1;omega,?_⟩;have:=hst.seq;show 1<=a.seq/\a.seq<S.next+(S.fit l:Int);omega
theorem put (h:Inv fd S) {b r mk:Int} {es:List En} (hfull:Full fd S.N b r mk es) (hu:(S.t.at_ b).used=true) (hbel:b=S.op->r<S.row) {n:Nat} (hn:n<es.length) (hs:1<=(es.getD n En.zero).seq/\(es.getD n En.zero).seq<S.next):Inv fd {S with T:=S.T.put (es.getD n En.zero) b r n mk}:=by
 refine⟨h.lit,h.dead,h.plan,h.flags,h.tdead,h.tbad,?_,h.blank,λi a ha=>?_⟩
 ·rcases h.op with e | e
  ·exact .inl e
  ·exact .inr ⟨e.blk,e.used,e.row,e.mask,e.cells⟩
 ·have ha:Tb.look (S.T.put (es.getD n En.zero) b r n mk).at_ i=some a:=ha;rw[V.look_put]at ha;split at ha
  ·rename_i hc;injection ha with ha;subst ha;refine⟨⟨es,hfull.w _,V7 n,by show((n:Nat):Int).toNat<_;omega,by show(es.getD ((n:Nat):Int).toNat En.zero).lpn=i;rw[i9];exact hc.2.symm,by show(es.getD ((n:Nat):Int).toNat En.zero).seq=_;rw[i9],by show(es.getD ((n:Nat):Int).toNat En.zero).role=_;rw[i9]⟩,hu,hbel,hs⟩
  ·have:=h.st i a ha;exact⟨this.row,this.used,this.below,this.seq⟩
theorem puts (h:Inv fd S) {b r mk:Int} {es:List En} (hfull:Full fd S.N b r mk es) (hu:(S.t.at_ b).used=true) (hbel:b=S.op->r<S.row) (T:Tb) (hT:S.T=T):∀n,n<=es.length->(∀i,i<n->1<=(es.getD i En.zero).seq/\(es.getD i En.zero).seq<S.next)->Inv fd {S with T:=Dv.puts T b r mk es n}
 | 0,_,_=>by subst hT;exact h
 | n+1,hn,hs=>by
  have ih:=h.puts hfull hu hbel T hT n (by omega) λi hi=>hs i (by omega);rw[Dv.puts_succ];exact put (S:={S with T:=Dv.puts T b r mk es n}) ih hfull hu hbel (by omega) (hs n (by omega))
end Inv
def Dv.rows (S:Dv):Nat:=S.N.pages*S.t.blanks+(if S.op>=0 then(S.N.pages-S.row).toNat else 0)
structure NoF (S:Dv):Prop where
 dead:∀i:Nat,S.N.dead.getD i false=false
 plan:S.N.plan=[]
 met:∀i j:Nat,(S.N.blk i j).met=false
 fl:∀i j:Nat,(S.N.blk i j).fails=false
theorem NoF.fails {S:Dv} (h:NoF S) (b r:Int) (d:Nat):S.N.failB b r d=false:=by
 unfold Nand.failB Nand.fails;rw[i9,h.dead,h.plan,h.met];rfl
structure Went (fd:Int) (S Q:Dv) (β:Nat):Prop where
 inv:Inv fd Q
 T:Q.T=S.T
 next:S.next<=Q.next/\Q.next<=S.next+7*(β:Int)
 dead:Q.N.dead=S.N.dead
 broken:Q.N.broken=S.N.broken
 like:S.N.Like Q.N
 plan:∀a∈Q.N.plan,a∈S.N.plan
 flags:∀i j,(Q.N.blk i j).met=(S.N.blk i j).met/\(Q.N.blk i j).fails=(S.N.blk i j).fails/\(Q.N.blk i j).worn=(S.N.blk i j).worn
 rows:Q.rows+β=S.rows
 reads:∀i a,Std fd S i a->R.read Q.N a.block a.row a.slot a.mask=R.read S.N a.block a.row a.slot a.mask
 stay:∀i a,Std fd S i a->Std fd Q i a
 sb:∀b,S.t.has b=true->(Q.t.at_ b).wear=(S.t.at_ b).wear/\(Q.t.at_ b).held=(S.t.at_ b).held/\((S.t.at_ b).used=true->(Q.t.at_ b).used=true)
 td:∀d:Int,L.has S.t.dead d=true->L.has Q.t.dead d=true
namespace Inv
variable {fd : Int} {S : Dv} {k m : Nat} {l : List En}
theorem std_same {S Q:Dv} (hN:Q.N=S.N) (hu:∀b,S.t.has b=true->(S.t.at_ b).used=true->(Q.t.at_ b).used=true) (hb:S.t.b=S.N.blocks) (hop:∀a:AtV,(a.block=S.op->a.row<S.row)->(a.block=Q.op->a.row<Q.row)\/(S.t.at_ a.block).used=false) (hn:S.next<=Q.next) {i:Int} {a:AtV} (h:Std fd S i a):Std fd Q i a:=by
 obtain⟨lr,g1,g2⟩:=h.row;have hhas:S.t.has a.block=true:=by
  have:=g1.is.blk;exact Tl.has_iff.2 (by omega)
 have hs:=h.seq;refine⟨⟨lr,by rw[hN];exact g1,g2⟩,hu _ hhas h.used,?_,by omega⟩;rcases hop a h.below with e | e
 ·exact e
 ·rw[h.used]at e;cases e
theorem opens (h:Inv fd S) (hO:S.Ok k m) (hl:S.left=false) (hp:¬S.pick<0):Went fd S S.opened 0/\S.opened.left=true/\S.opened.mask=S.t.mask S.pick:=by
 have hg:=hO.gd.ok.bd16;have hb:=hO.t.b;have hlen:=hO.t.len;rcases S.pick_spec with e | ⟨p1,p2,p3,p4⟩
 ·omega
 have hhas:S.t.has S.pick=true:=Tl.has_iff.2 ⟨p1,p2⟩;have hbl:=Dv.pick_blank hp;have hbl2:=Tl.blanks_open hlen hbl;have hunu:(S.t.at_ S.pick).used=false:=by simp only[Tl.blank,f8,i4]at hbl;exact hbl.2
 have hmk:∀j,(S.t.clean S.pick false).mask j=S.t.mask j:=λj=>Dv.mask_clean hlen _ _ _;have hmsk:=h.msk hO hhas;have hat:∀b,S.t.has b=true->(S.opened.t.at_ b)=if b=S.pick then {S.t.at_ S.pick with used:=true}else S.t.at_ b:=λb hb=>Tl.at_set hlen _ hhas hb
 have hleft:S.opened.left=true:=by
  have:=(hmsk.pos hg.1).1;unfold Dv.left;have e1:S.opened.op=S.pick:=rfl;have e2:S.opened.row=0:=rfl;have e3:S.opened.mask=S.t.mask S.pick:=hmk _;have e4:S.opened.N=S.N:=rfl;rw[e1,e2,e3,e4,i7 (by omega),i7 (by omega),i7 (by omega)];rfl
 have hdd:S.opened.t.dead=S.t.dead:=Tl.set_dead _ _ _;have hhs:∀b,S.opened.t.has b=S.t.has b:=λb=>Tl.has_set _ _ _ _;have hopn:Opn fd S.opened:=⟨⟨p1,by show S.pick<S.N.blocks;omega⟩,by show(S.opened.t.at_ S.pick).used=true;rw[hat _ hhas,d7 rfl],by show(0:Int)<=0/\(0:Int)<=S.N.pages;omega,by show Msk S.N.dies fd (Tl.mask _ _);rw[hmk];exact hmsk,λd hd=>by
  have hd:L.has (Tl.mask (S.t.clean S.pick false) S.pick) (d:Nat)=true:=hd;rw[hmk]at hd;have:=h.blank S.pick hhas hunu d hd;show((S.N.blk d S.pick.toNat).cells.length:Int)<=0/\(_->((S.N.blk d S.pick.toNat).cells.length:Int)=0);rw[this];simp⟩
 have hrow0:S.op>=0->S.N.pages<=S.row:=λh0=>by
  rcases h.op with e | e
  ·omega
  ·have hps:=(e.mask.pos hg.1).1;cases hh:decide (S.row<S.N.pages)with
   | false=>have:=of_decide_eq_false hh;omega
   | true=>
    have:S.left=true:=by
     unfold Dv.left;rw[i7 h0,hh,i7 (by omega)];rfl
    rw[hl]at this;cases this
 have hstd:∀i a,Std fd S i a->Std fd S.opened i a:=λi a ha=>std_same (S:=S) (Q:=S.opened) rfl (λb hb hu=>by
   rw[hat b hb];split
   ·rfl
   ·exact hu) hb (λa _=>by
   by_cases e:a.block=S.pick
   ·right;rw[e];exact hunu
   ·left;intro e2;exact absurd e2 e) (O8 _) ha
 refine⟨⟨⟨h.lit,h.dead,h.plan,h.flags,by rw[hdd];exact h.tdead,λb hb=>?_, .inr hopn,λb hb hu d hd=>?_,λi a ha=>hstd i a (h.st i a ha)⟩,rfl,⟨O8 _,by show S.next<=S.next+_;omega⟩,rfl,rfl,Nand.Like.refl _,λ_ h=>h,λ_ _=>⟨rfl,rfl,rfl⟩,?_,λ_ _ _=>rfl,hstd,λb hb=>?_,λd hd=>by rw[hdd];exact hd⟩,hleft,hmk _⟩
 ·have hb':S.t.has b=true:=by rw[<- hhs];exact hb
  rw[hat b hb'];split
  ·rename_i e;subst e;exact h.tbad _ hhas
  ·exact h.tbad b hb'
 ·have hb':S.t.has b=true:=by rw[<- hhs];exact hb
  have hd:L.has (Tl.mask (S.t.clean S.pick false) b) (d:Nat)=true:=hd;rw[hmk]at hd;rw[hat b hb']at hu;split at hu
  ·cases hu
  ·exact h.blank b hb' hu d hd
 ·unfold Dv.rows;have e1:S.opened.t.blanks=(S.t.clean S.pick false).blanks:=rfl;have e2:S.opened.N.pages=S.N.pages:=rfl;have e3:S.opened.op=S.pick:=rfl;have e4:S.opened.row=0:=rfl;rw[e1,e2,e3,e4,d7 (by omega)];have:S.N.pages*S.t.blanks=S.N.pages*(S.t.clean S.pick false).blanks+S.N.pages:=by rw[<- hbl2,J7]
  rw[this]
  by_cases h0:S.op>=0
  ·have:=hrow0 h0;rw[d7 h0];omega
  ·rw[d4 h0];omega
 ·rw[hat b hb];split
  ·rename_i e;subst e;exact⟨rfl,rfl,λ_=>rfl⟩
  ·exact⟨rfl,rfl,λh=>h⟩
theorem turn_std (h:Inv fd S) (ht:Turn fd S l) (hO:S.Ok k m) (hl:S.left=true) (hf:∀e∈l,FitR e) (hn:¬S.next>1099511627775-(S.fit l:Int)+1) {i:Int} {a:AtV} (ha:Std fd S i a):Std fd (S.wrote l) i a/\R.read (S.wrote l).N a.block a.row a.slot a.mask=R.read S.N a.block a.row a.slot a.mask:=by
 have ho:=h.opn hl;have hR:=h.rowIs hO hl hf hn;have hrdy:RdyW S.N S.op S.row S.mask:=⟨h.lit,λd hd ha=>(ho.cells d hd).2 ha⟩;have hq:=hrdy.rdy hR;have w3:WroteR S.N (S.wrote l).N S.op S.row (R.job S.op S.row S.mask (S.es l)):=(a4t hrdy hR).2.2;obtain⟨lr,g1,g2,g3,g4,g5,g6⟩:=ha.row;have hk:FullW fd (S.wrote l).N a.block a.row a.mask lr a.slot.toNat:=g1.keep w3.like λx hx=>w3.page hq (g1.is.inn x hx).1 g1.is.blk.1 g1.is.row.1 (λe=>by have:=ha.below e;omega);have hs:=ha.seq;refine⟨⟨⟨lr,hk,g2,g3,g4,g5,g6⟩,ha.used,λe=>by have:=ha.below e;show a.row<S.row+1;omega,by show 1<=a.seq/\a.seq<S.next+(S.fit l:Int);omega⟩,?_⟩;have r1:=hk.read ht.inv.lit.off ht.inv.dead g3;have r2:=g1.read h.lit.off h.dead g3;rw[show((a.slot.toNat:Nat):Int)=a.slot from by omega]at r1 r2;rw[r1,r2]
end Inv
structure TlMore (fd:Int) (t t':Tl):Prop where
 has:∀b,t'.has b=t.has b
 d:t'.d=t.d
 used:∀b,t.has b=true->(t'.at_ b).used=(t.at_ b).used
 held:∀b,t.has b=true->(t'.at_ b).held=(t.at_ b).held
 tdead:L.set t'.dead=true/\∀d:Int,L.has t'.dead d=true->d=fd
 tbad:∀b,t.has b=true->L.set (t'.at_ b).bad=true/\∀d:Int,L.has (t'.at_ b).bad d=true->d=fd
 mask:∀b,t.has b=true->∀e:Int,L.has (t'.mask b) e=true->L.has (t.mask b) e=true
 td:∀e:Int,L.has t.dead e=true->L.has t'.dead e=true
theorem TlMore.refl {fd:Int} {t:Tl} (h1:L.set t.dead=true/\∀d:Int,L.has t.dead d=true->d=fd) (h2:∀b,t.has b=true->L.set (t.at_ b).bad=true/\∀d:Int,L.has (t.at_ b).bad d=true->d=fd):TlMore fd t t:=
 ⟨λ_=>rfl,rfl,λ_ _=>rfl,λ_ _=>rfl,h1,h2,λ_ _ _ h=>h,λ_ h=>h⟩
theorem TlMore.trans {fd:Int} {a b c:Tl} (h:TlMore fd a b) (g:TlMore fd b c):TlMore fd a c:=
 ⟨λx=>(g.has x).trans (h.has x),g.d.trans h.d,λx hx=>(g.used x (by rw[h.has];exact hx)).trans (h.used x hx),λx hx=>(g.held x (by rw[h.has];exact hx)).trans (h.held x hx),g.tdead,λx hx=>g.tbad x (by rw[h.has];exact hx),λx hx e he=>h.mask x hx e (g.mask x (by rw[h.has];exact hx) e he),λe he=>g.td e (h.td e he)⟩
theorem b7N {fd:Int} {t:Tl} (h8:t.d<=8) (h1:L.set t.dead=true/\∀d:Int,L.has t.dead d=true->d=fd) (h2:∀b,t.has b=true->L.set (t.at_ b).bad=true/\∀d:Int,L.has (t.at_ b).bad d=true->d=fd) {d:Nat} (hd:d<8) (hfd:(d:Int)=fd):TlMore fd t (t.die d)/\(d<t.d->∀b,t.has b=true->L.has ((t.die d).mask b) fd=false):=by
 unfold Tl.die;split
 ·have hw:=L.set_with h1.1 (d:=(d:Int)) (by omega);have hwh:=L.with_has h1.1 (d:=(d:Int)) (by omega);have hmk:∀b,t.has b=true->∀e:Int,L.has (Tl.mask ⟨t.d,t.b,t.p,t.l,L.with_ t.dead d⟩ b) e=((decide (0<=e)&&decide (e<t.d))&& !L.has (L.with_ t.dead (d:Int)) e&& !L.has (t.at_ b).bad e):=λb hb e=>(a0A (t:=⟨t.d,t.b,t.p,t.l,L.with_ t.dead d⟩) (b:=b) h8 hb hw (h2 b hb).1).2 e;refine⟨⟨λb=>rfl,rfl,λb hb=>rfl,λb hb=>rfl,⟨hw,λe he=>?_⟩,h2,λb hb e he=>?_,λe he=>?_⟩,λ_ b hb=>?_⟩
  ·have he:L.has (L.with_ t.dead (d:Int)) e=true:=he;rw[hwh]at he;rcases j7 _ _▸he with he | he
   ·exact h1.2 e he
   ·simp only[d6]at he;omega
  ·rw[hmk b hb,hwh]at he;rw[(a0A h8 hb h1.1 (h2 b hb).1).2];simp only[f8,i4,D5]at he ⊢;exact⟨⟨he.1.1,he.1.2.1⟩,he.2⟩
  ·show L.has (L.with_ t.dead (d:Int)) e=true;rw[hwh,he];rfl
  ·rw[hmk b hb,hwh,i7 hfd.symm];simp
 ·rename_i hh;refine⟨TlMore.refl h1 h2,λhlt=>?_⟩;simp only[Tl.hasDie,f8,d6]at hh;omega
theorem b7O {fd:Int} {t:Tl} (hl:t.l.length=t.b) (h8:t.d<=8) (h1:L.set t.dead=true/\∀d:Int,L.has t.dead d=true->d=fd) (h2:∀b,t.has b=true->L.set (t.at_ b).bad=true/\∀d:Int,L.has (t.at_ b).bad d=true->d=fd) {d:Nat} (hd:d<8) (hfd:(d:Int)=fd) (k:Int):TlMore fd t (t.bad d k)/\(d<t.d->t.has k=true->L.has ((t.bad d k).mask k) fd=false):=by
 unfold Tl.bad;split
 ·cases hop:t.has k with
  | false=>
   rw[Tl.set_no _ hop];exact⟨TlMore.refl h1 h2,λ_ h=>by cases h⟩
  | true=>
   have hb0:=h2 k hop;have hw:=L.set_with hb0.1 (d:=(d:Int)) (by omega);have hwh:=L.with_has hb0.1 (d:=(d:Int)) (by omega);have hat:∀b,t.has b=true->(t.set k {t.at_ k with bad:=L.with_ (t.at_ k).bad d}).at_ b=if b=k then {t.at_ k with bad:=L.with_ (t.at_ k).bad d}else t.at_ b:=λb hb=>Tl.at_set hl _ hop hb
   have hbad:∀b,t.has b=true->L.set ((t.set k {t.at_ k with bad:=L.with_ (t.at_ k).bad d}).at_ b).bad=true/\(∀e:Int,L.has ((t.set k {t.at_ k with bad:=L.with_ (t.at_ k).bad d}).at_ b).bad e=true->e=fd)/\(∀e:Int,L.has (t.at_ b).bad e=true->L.has ((t.set k {t.at_ k with bad:=L.with_ (t.at_ k).bad d}).at_ b).bad e=true):=λb hb=>by
    rw[hat b hb];split
    ·rename_i e;subst e;dsimp only;refine⟨hw,λe he=>?_,λe he=>?_⟩
     ·rw[hwh]at he;rcases j7 _ _▸he with he | he
      ·exact hb0.2 e he
      ·simp only[d6]at he;omega
     ·rw[hwh,he];rfl
    ·exact⟨(h2 b hb).1,(h2 b hb).2,λe he=>he⟩
   have hmk:∀b,t.has b=true->∀e:Int,L.has ((t.set k {t.at_ k with bad:=L.with_ (t.at_ k).bad d}).mask b) e=((decide (0<=e)&&decide (e<t.d))&& !L.has t.dead e&& !L.has ((t.set k {t.at_ k with bad:=L.with_ (t.at_ k).bad d}).at_ b).bad e):=λb hb e=>by
    have:=(a0A (t:=t.set k {t.at_ k with bad:=L.with_ (t.at_ k).bad d}) (b:=b) (by rw[Tl.set_d];exact h8) (by rw[Tl.has_set];exact hb) (by rw[Tl.set_dead];exact h1.1) (hbad b hb).1).2 e
    rwa [Tl.set_d,Tl.set_dead]at this
   refine⟨⟨λb=>Tl.has_set _ _ _ _,Tl.set_d _ _ _,λb hb=>?_,λb hb=>?_,by rw[Tl.set_dead];exact h1,λb hb=>⟨(hbad b hb).1,(hbad b hb).2.1⟩,λb hb e he=>?_,λe he=>by rw[Tl.set_dead];exact he⟩,λ_ _=>?_⟩
   ·rw[hat b hb];split
    ·rename_i e;rw[e]
    ·rfl
   ·rw[hat b hb];split
    ·rename_i e;rw[e]
    ·rfl
   ·rw[hmk b hb]at he;rw[(a0A h8 hb h1.1 (h2 b hb).1).2];simp only[f8,i4]at he ⊢;refine⟨he.1,?_⟩;cases hx:L.has (t.at_ b).bad e with
    | false=>rfl
    | true=>rw[(hbad b hb).2.2 e hx]at he;exact absurd he.2 (by decide)
   ·rw[hmk k hop,hat k hop,d7 rfl,hwh,i7 hfd.symm];simp
 ·rename_i hh;refine⟨TlMore.refl h1 h2,λhlt=>?_⟩;simp only[Tl.hasDie,f8,d6]at hh;omega
theorem c0o {t:Tl} (hl:t.l.length=t.b) (k:Int) (s:Sb) (hs:t.has k=true->s.bad=(t.at_ k).bad) (j:Int):(t.set k s).mask j=t.mask j:=by
 cases hk:t.has k with
 | false=>rw[Tl.set_no _ hk]
 | true=>
  unfold Tl.mask Tl.alive;rw[Tl.has_set,Tl.set_d,Tl.set_dead];split
  ·rename_i hj;congr 1;rw[Tl.at_set hl _ hk hj];split
   ·rename_i e;rw[hs hk,e]
   ·rfl
  ·rfl
theorem Went.refl {fd:Int} {S:Dv} (h:Inv fd S):Went fd S S 0:=
 ⟨h,rfl,by omega,rfl,rfl,Nand.Like.refl _,λ_ h=>h,λ_ _=>⟨rfl,rfl,rfl⟩,rfl,λ_ _ _=>rfl,λ_ _ h=>h,λ_ _=>⟨rfl,rfl,λh=>h⟩,λ_ h=>h⟩
structure Last (fd:Int) (Q:Dv) (l:List En):Prop where
 left:Q.left=true
 err:(Q.wr l).2.1=0
 bd:¬Q.next>1099511627775-(Q.fit l:Int)+1
 turn:Inv.Turn fd Q l
def M8 (Q:Dv) (l:List En):Dv:={Q.wrote l with T:=Dv.puts Q.T Q.op Q.row Q.mask (Q.es l) (Q.fit l)}
namespace Inv
variable {fd : Int} {S : Dv} {k m : Nat} {l : List En}
theorem has_same {Q:Dv} (hO:S.t.Fit S.N) (hQ:Q.t.Fit Q.N) (hl:S.N.Like Q.N) (b:Int):Q.t.has b=S.t.has b:=by
 unfold Tl.has;rw[show Q.t.b=S.t.b from by rw[hQ.b,hO.b,hl.blocks]]
theorem rows_pos (h:Inv fd S) (hO:S.Ok k m) (hr:0<S.rows):S.left=true\/¬S.pick<0:=by
 have hg:=hO.gd.ok.bd16
 by_cases hb:S.t.blanks=0
 ·left;unfold Dv.rows at hr;rw[hb,Nat.mul_zero,J6]at hr;split at hr
  ·rename_i h0;rcases h.op with e | e
   ·omega
   ·have:=(e.mask.pos hg.1).1;unfold Dv.left;rw[i7 h0,i7 (by omega),i7 (by omega)];rfl
  ·omega
 ·right;obtain⟨s,hs,hu⟩:=List.countP_pos_iff.1 (show 0<S.t.l.countP λs=>!s.used by unfold Tl.blanks at hb;omega);obtain⟨j,hj,rfl⟩:=List.mem_iff_getElem.1 hs;have hlen:=hO.t.len;have hhas:S.t.has (j:Nat)=true:=Tl.has_iff.2 (by omega);have hat:S.t.at_ (j:Nat)=S.t.l[j]:=by unfold Tl.at_;rw[i9,d5,c9 hj,j4]
  have hunu:(S.t.at_ (j:Nat)).used=false:=by rw[hat];simpa using hu
  have hcnt:S.T.count (j:Nat)=0:=by
   rw[hO.T.cnt];unfold Tb.cntB;congr 1;rw[a5h];intro x hx hxb;simp only[B4]at hxb;have hlk:Tb.look S.T.at_ x.1=some x.2:=by
    cases hh:Tb.look S.T.at_ x.1 with
    | none=>rw[Tb.look_none]at hh;exact absurd (List.mem_map.2 ⟨x,hx,rfl⟩) hh
    | some a=>
     have hm:=Tb.look_mem hh;have hn:=hO.T.keys;obtain⟨i1,g1,e1⟩:=List.mem_iff_getElem.1 hm;obtain⟨i2,g2,e2⟩:=List.mem_iff_getElem.1 hx;have:i1=i2:=(W9 (by rw[j5];exact g1) hn).1 (by rw[i5,i5,c9 g1,c9 g2,e1,e2];rfl);subst this;rw[e1]at e2;rw[<- e2]
   have:=(h.st _ _ hlk).used;rw[hxb,hunu]at this;cases this
  have hop:(j:Int)≠S.op:=λe=>by
   rcases h.op with e2 | e2
   ·omega
   ·have:=e2.used;rw[<- e,hunu]at this;cases this
  have hmem:((j:Nat):Int)∈t7 (U1 S.t S.T) S.op S.t.b:=mem_pkSome.2 ⟨by omega,by omega,hop,by
   unfold U1;rw[h.usable hO hhas,hcnt];simp only[Tl.blank,hhas,hunu];rfl⟩
  intro hp;rcases a6i (λx y=>R7 (S.t.wear x) (S.t.wear y)) (U1 S.t S.T) S.op S.t.b with e | e
  ·rw[e.2]at hmem;cases hmem
  ·have:=e.2;unfold Dv.pick at hp;omega
end Inv
theorem a5A {T:Tb} (h:T.Ok) {x:Int×AtV} (hx:x∈T.at_):Tb.look T.at_ x.1=some x.2:=by
 cases hh:Tb.look T.at_ x.1 with
 | none=>rw[Tb.look_none]at hh;exact absurd (List.mem_map.2 ⟨x,hx,rfl⟩) hh
 | some a=>
  have hm:=Tb.look_mem hh;obtain⟨i1,g1,e1⟩:=List.mem_iff_getElem.1 hm;obtain⟨i2,g2,e2⟩:=List.mem_iff_getElem.1 hx;have:i1=i2:=(W9 (by rw[j5];exact g1) h.keys).1 (by rw[i5,i5,c9 g1,c9 g2,e1,e2];rfl);subst this;rw[e1]at e2;rw[<- e2]
theorem a6h {T:Tb} {b r mk:Int} {es:List En}:∀n:Nat,(∀j,j<n->Tb.ok T (es.getD j En.zero)=true)->(∀j,j<n->∀a,Tb.look T.at_ (es.getD j En.zero).lpn=some a->a.seq<=(es.getD j En.zero).seq)->(∀i j,i<j->j<n->(es.getD i En.zero).lpn≠(es.getD j En.zero).lpn)->
  (∀j,j<n->Tb.look (Dv.puts T b r mk es n).at_ (es.getD j En.zero).lpn=some ⟨b,r,j,mk,(es.getD j En.zero).seq,(es.getD j En.zero).role⟩)/\(∀i,(∀j,j<n->(es.getD j En.zero).lpn≠i)->Tb.look (Dv.puts T b r mk es n).at_ i=Tb.look T.at_ i)
 | 0,_,_,_=>⟨λj hj=>by omega,λi _=>rfl⟩
 | n+1,h1,h2,h3=>by
  obtain⟨i1,i2⟩:=a6h n (λj hj=>h1 j (by omega)) (λj hj=>h2 j (by omega)) (λi j hij hj=>h3 i j hij (by omega));have hlog:(Dv.puts T b r mk es n).logical=T.logical:=by
   clear i1 i2 h1 h2 h3
   induction n with
   | zero=>rfl
   | succ n ih=>rw[Dv.puts_succ,Tb.put_logical];exact ih
  have hlk:Tb.look (Dv.puts T b r mk es n).at_ (es.getD n En.zero).lpn=Tb.look T.at_ (es.getD n En.zero).lpn:=i2 _ λj hj=>h3 j n hj (by omega);have hp:Tb.putB (Dv.puts T b r mk es n) (es.getD n En.zero)=true:=by
   unfold Tb.putB;have e1:Tb.ok (Dv.puts T b r mk es n) (es.getD n En.zero)=Tb.ok T (es.getD n En.zero):=by unfold Tb.ok;rw[hlog]
   have e2:Tb.elder (Dv.puts T b r mk es n) (es.getD n En.zero)=false:=by
    unfold Tb.elder;rw[hlk];cases hh:Tb.look T.at_ (es.getD n En.zero).lpn with
    | none=>rfl
    | some a=>have:=h2 n (by omega) a hh;exact n7 (by omega)
   rw[e1,e2,h1 n (by omega)];rfl
  rw[Dv.puts_succ];refine⟨λj hj=>?_,λi hi=>?_⟩
  ·rw[V.look_put]
   by_cases e:j=n
   ·subst e;rw[d7 ⟨hp,rfl⟩]
   ·rw[d4 (λhh=>h3 j n (by omega) (by omega) hh.2)];exact i1 j (by omega)
  ·rw[V.look_put,d4 (λhh=>hi n (by omega) hh.2.symm)];exact i2 i λj hj=>hi j (by omega)
namespace Last
variable {fd : Int} {Q : Dv} {l : List En} {k m : Nat}
theorem opn (h:Last fd Q l) (hQ:Inv fd Q):Opn fd Q:=hQ.opn h.left
theorem seqs (_h:Last fd Q l) (hO:Q.Ok k m) {i:Nat} (hi:i<Q.fit l):i<l.length/\(Q.es l).getD i En.zero={l.getD i En.zero with seq:=Q.next+i}/\i<(Q.es l).length:=by
 have:=Dv.fit_le Q l;have hs:=Dv.slots_le Q.mask;have hi2:i<(G.slots Q.mask).toNat:=by omega
 refine⟨by omega,?_,by rw[Dv.es_len];exact hi2⟩;unfold Dv.es;rw[a7x hi2];unfold Dv.numAt;rw[d7 (by omega)]
theorem inv (h:Last fd Q l) (hQ:Inv fd Q) (hO:Q.Ok k m):Inv fd (M8 Q l):=by
 have ho:=h.opn hQ;have hnx:=hO.next;have hf:=Dv.fit_le Q l;have he:=Dv.es_len Q l;have:=h.turn.inv.puts h.turn.full (show((Q.wrote l).t.at_ Q.op).used=true from ho.used) (λ_=>by show Q.row<Q.row+1;omega) Q.T rfl (Q.fit l) (by omega) (λi hi=>by
  obtain⟨_,e2,_⟩:=h.seqs hO hi;rw[e2];show 1<=Q.next+(i:Int)/\Q.next+(i:Int)<Q.next+(Q.fit l:Int);omega)
 exact this
theorem look (h:Last fd Q l) (hQ:Inv fd Q) (hO:Q.Ok k m) (hf:∀e∈l,FitR e) (hlg:∀e∈l,e.lpn<Q.T.logical) (hnd:(l.map (·.lpn)).Nodup):
  (∀j,j<Q.fit l->Tb.look (M8 Q l).T.at_ (l.getD j En.zero).lpn=some ⟨Q.op,Q.row,j,Q.mask,Q.next+j,(l.getD j En.zero).role⟩)/\(∀i,(∀j,j<Q.fit l->(l.getD j En.zero).lpn≠i)->Tb.look (M8 Q l).T.at_ i=Tb.look Q.T.at_ i):=by
 have hes:=λj (hj:j<Q.fit l)=>h.seqs hO hj;have hmem:∀j,j<Q.fit l->l.getD j En.zero∈l:=λj hj=>W5 (hes j hj).1;obtain⟨a1,a2⟩:=a6h (T:=Q.T) (b:=Q.op) (r:=Q.row) (mk:=Q.mask) (es:=Q.es l) (Q.fit l) (λj hj=>by
   rw[(hes j hj).2.1];have hfe:=hf _ (hmem j hj);have:=hlg _ (hmem j hj);unfold Tb.ok;have e1:decide (({l.getD j En.zero with seq:=Q.next+(j:Int)}:En).lpn<0)=false:=n7 (by have:=hfe.lpn;show¬(l.getD j En.zero).lpn<0;omega);have e2:decide (({l.getD j En.zero with seq:=Q.next+(j:Int)}:En).lpn>=Q.T.logical)=false:=n7 (by show¬(l.getD j En.zero).lpn>=Q.T.logical;omega);rw[e1,e2];show(!(false||false||((l.getD j En.zero).role !=1&&(l.getD j En.zero).role !=2&&(l.getD j En.zero).role !=4)))=true;rcases hfe.role with e | ⟨e | e,_⟩<;>rw[e]<;>rfl)
  (λj hj a ha=>by
   rw[(hes j hj).2.1]at ha ⊢;have:=(hQ.st _ a ha).seq;show a.seq<=Q.next+(j:Int);omega)
  (λi j hij hj=>by
   rw[(hes j hj).2.1,(hes i (by omega)).2.1];show(l.getD i En.zero).lpn≠(l.getD j En.zero).lpn;intro e;have g1:=(hes j hj).1;have g2:=(hes i (by omega)).1;have:(l.map (·.lpn))[i]? =(l.map (·.lpn))[j]?:=by
    rw[i5,i5,c9 g1,c9 g2];rw[d5,d5,c9 g1,c9 g2]at e;exact congrArg some e
   have:=(W9 (by rw[j5];exact g2) hnd).1 this;omega)
 refine⟨λj hj=>?_,λi hi=>?_⟩
 ·have:=a1 j hj;rw[(hes j hj).2.1]at this;exact this
 ·refine a2 i λj hj=>?_;rw[(hes j hj).2.1];exact hi j hj
theorem stay (h:Last fd Q l) (hQ:Inv fd Q) (hO:Q.Ok k m) (hf:∀e∈l,FitR e) {i:Int} {a:AtV} (ha:Std fd Q i a):R.read (M8 Q l).N a.block a.row a.slot a.mask=R.read Q.N a.block a.row a.slot a.mask:=
 (hQ.turn_std h.turn hO h.left hf h.bd ha).2
theorem reads (h:Last fd Q l) (hQ:Inv fd Q) (hO:Q.Ok k m) {j:Nat} (hj:j<Q.fit l):R.read (M8 Q l).N Q.op Q.row j Q.mask=({l.getD j En.zero with seq:=Q.next+j},0):=by
 obtain⟨_,e2,e3⟩:=h.seqs hO hj;rw[<- e2];exact h.turn.full.read h.turn.inv.lit.off h.turn.inv.dead e3
theorem rows (h:Last fd Q l) (hQ:Inv fd Q):(M8 Q l).rows+1=Q.rows:=by
 have ho:=h.opn hQ;have hs:=Dv.left_spec h.left;unfold Dv.rows;have e1:(M8 Q l).N.pages=Q.N.pages:=h.turn.like.pages;have e2:(M8 Q l).t=Q.t:=rfl;have e3:(M8 Q l).op=Q.op:=rfl;have e4:(M8 Q l).row=Q.row+1:=rfl;rw[e1,e2,e3,e4,d7 (by omega),d7 (by omega)];have:=ho.row;omega
end Last
theorem NoF.went {fd:Int} {S Q:Dv} {β:Nat} (h:NoF S) (w:Went fd S Q β):NoF Q:=
 ⟨λi=>by rw[w.dead];exact h.dead i,List.eq_nil_iff_forall_not_mem.2 λa ha=>(by have:=w.plan a ha;rw[h.plan]at this;cases this),λi j=>by rw[(w.flags i j).1];exact h.met i j,λi j=>by rw[(w.flags i j).2.1];exact h.fl i j⟩
theorem NoF.wrote {fd:Int} {Q:Dv} {l:List En} (h:NoF Q) (w:Last fd Q l):NoF (M8 Q l):=
 ⟨λi=>by show(Q.wrote l).N.dead.getD i false=false;rw[w.turn.dead];exact h.dead i,List.eq_nil_iff_forall_not_mem.2 λa ha=>(by have:=w.turn.plan a ha;rw[h.plan]at this;cases this),λi j=>by show((Q.wrote l).N.blk i j).met=false;rw[(w.turn.flags i j).1];exact h.met i j,λi j=>by show((Q.wrote l).N.blk i j).fails=false;rw[(w.turn.flags i j).2.1];exact h.fl i j⟩
theorem NoF.new (d b p:Nat) (lg:Int):NoF (Dv.mk (Nand.new d b p) (Tl.new d b p) (Tb.new lg) (-1) 0 0 1):=
 ⟨λi=>by
  show(List.replicate d false).getD i false=false;rw[d5,E7];split<;>rfl,rfl,λ_ _=>rfl,λ_ _=>rfl⟩
theorem Inv.new (fd:Int) (d b p:Nat) (lg:Int):Inv fd (Dv.mk (Nand.new d b p) (Tl.new d b p) (Tb.new lg) (-1) 0 0 1):=by
 refine⟨Nand.Lit.new d b p,λi _=>(NoF.new d b p lg).dead i,λa ha=>(by cases ha),λ_ _ _=>⟨rfl,rfl⟩,⟨by show L.set 0=true;decide,λd hd=>(by have:L.has 0 d=true:=hd;rw[L.has_zero]at this;cases this)⟩,λbb hb=>?_, .inl rfl,λbb hb hu e he=>rfl,λi a ha=>(by cases ha)⟩;have:(Tl.new d b p).at_ bb=Sb.zero:=by
  unfold Tl.new Tl.at_;dsimp only;rw[d5,E7];split<;>rfl
 show L.set ((Tl.new d b p).at_ bb).bad=true/\_;rw[this];refine⟨by decide,λe he=>?_⟩;have he:L.has 0 e=true:=he;rw[L.has_zero]at he;cases he
theorem V.standOf_true:∀(l:List Fnd),l≠[]->(V.standOf l).2=true:=by
 intro l hl;obtain⟨l',x,rfl⟩:∃l' x,l=l'++[x]:=⟨l.dropLast,l.getLast hl,(a1d hl).symm⟩;rw[V.standOf_snoc];split
 ·rfl
 ·rename_i h;rcases Bool.eq_false_or_eq_true (V.standOf l').2 with e | e
  ·exact e
  ·exact absurd (.inl e) h
namespace Inv
variable {fd : Int} {S : Dv} {k m : Nat}
theorem free_iff (h:Inv fd S) (hO:S.Ok k m) {b:Int} (hb:S.t.has b=true):U1 S.t S.T b=S.t.blank b/\(S.t.blank b=true->(b !=S.op)=true):=by
 have hu:=h.usable hO hb;unfold U1;rw[hu,q9];have hop:S.t.blank b=true->(b !=S.op)=true:=λhbl=>by
  simp only[Tl.blank,f8,i4]at hbl;rw[G9];intro e;rcases h.op with e2 | e2
  ·have:=(Tl.has_iff.1 hb).1;omega
  ·have:=e2.used;rw[<- e,hbl.2]at this;cases this
 refine⟨?_,hop⟩;cases hbl:S.t.blank b with
 | false=>rfl
 | true=>
  rw[q9,B4];simp only[Tl.blank,f8,i4]at hbl;rw[hO.T.cnt];unfold Tb.cntB;have:(S.T.at_.countP λx=>x.2.block==b)=0:=by
   rw[a5h];intro x hx hxb;simp only[B4]at hxb;have hlk:Tb.look S.T.at_ x.1=some x.2:=a5A hO.T hx;have:=(h.st _ _ hlk).used;rw[hxb,hbl.2]at this;cases this
  rw[this];rfl
end Inv
theorem a2y {D:Nat} {m:Int} (h:Msk D (-1) m) (hD:3<=D/\D<=6):m=L.all D/\G.slots m=(D:Int)-1:=by
 rcases h.eq hD with⟨e,_⟩ | ⟨e,_⟩
 ·refine⟨e,?_⟩;rw[e];exact(a6e D (by omega) hD.1).1
 ·omega
def arm (N:Nand) (c:Nat) (kp:Int):Nand:={N with cuts:=true,left:=c,keep:=kp}
theorem a7V {N:Nand} (h:N.off=false) (c:Nat) (kp:Int):N.setCut c kp=arm N c (min (max kp 0) 32):=by
 unfold Nand.setCut arm;rw[h,d4 l4,i7 (show(0:Int)<=(c:Int)by omega),n7 (show¬(c:Int)<0 by omega),<- h]
theorem b2a {N:Nand} {d b r:Int} (h:N.Lit) (hr:N.refuses d b r=0) (hc:r=(N.blk d.toNat b.toNat).cells.length) (hf:N.fails d b r=false) (pg:List UInt8) (c:Nat) (kp:Int):
  (arm N (c+1) kp).progE d b r=0/\(arm N (c+1) kp).progN d b r pg=arm (N.progN d b r pg) c kp/\(arm N 0 kp).progE d b r=9/\
  ∃M,(arm N 0 kp).progN d b r pg=M/\M.off=true/\N.Like M/\M.dead=N.dead/\M.plan=N.plan/\M.broken=N.broken/\∀i j,M.blk i j=if i=d.toNat/\j=b.toNat then {N.blk d.toNat b.toNat with cells:=(N.blk d.toNat b.toNat).cells++[⟨Nand.fillP kp.toNat pg,false,true⟩]}else N.blk i j:=by
 have hra:∀c,(arm N c kp).refuses d b r=0:=λc=>hr;have hfa:∀c,(arm N c kp).fails d b r=false:=λc=>hf;have hcb:(arm N (c+1) kp).cutB=false:=by
  unfold Nand.cutB arm;show(true&&decide (((c+1:Nat):Int)<=0))=false;rw[n7 (by omega)];rfl
 have hcb0:(arm N 0 kp).cutB=true:=rfl;have hcN:N.cutB=false:=h.cutB;have hcts:=h.cuts;refine⟨?_,?_,?_,_,rfl,?_⟩
 ·unfold Nand.progE;rw[hra,d4 (by decide),d4 (show¬r≠((arm N (c+1) kp).blk d.toNat b.toNat).cells.length fromλe=>e hc),hcb,d4 (by decide),hfa,d4 (by decide)]
 ·unfold Nand.progN;rw[hra,d4 (by decide),d4 (show¬r≠((arm N (c+1) kp).blk d.toNat b.toNat).cells.length fromλe=>e hc),hcb,d4 (by decide),hfa];rw[hr,d4 (by decide),d4 (show¬r≠(N.blk d.toNat b.toNat).cells.length fromλe=>e hc),hcN,d4 (by decide),hf];unfold Nand.cutN;rw[hcb,hcN,hcts];unfold Nand.push Nand.setBlk arm;simp only[a0d,H6,X6];congr 1;omega
 ·unfold Nand.progE;rw[hra,d4 (by decide),d4 (show¬r≠((arm N 0 kp).blk d.toNat b.toNat).cells.length fromλe=>e hc),hcb0,d7 rfl]
 ·unfold Nand.progN;rw[hra,d4 (by decide),d4 (show¬r≠((arm N 0 kp).blk d.toNat b.toNat).cells.length fromλe=>e hc),hcb0,d7 rfl];exact⟨rfl,⟨rfl,rfl,rfl⟩,rfl,rfl,rfl,λi j=>rfl⟩
structure TornR (N N':Nand) (b r:Int) (q:List (Int×Sh)) (c:Nat) (kp:Int):Prop where
 off:N'.off=true
 like:N.Like N'
 dead:N'.dead=N.dead
 plan:∀a∈N'.plan,a∈N.plan
 broken:N'.broken=N.broken
 cells:∀k x,q[k]? =some x->(N'.blk x.1.toNat b.toNat).cells=(N.blk x.1.toNat b.toNat).cells++if k<c then[⟨P7 x.2,false,false⟩]else if k=c then[⟨Nand.fillP kp.toNat (P7 x.2),false,true⟩]else[]
 rest:∀i j,(j≠b.toNat\/∀x∈q,x.1.toNat≠i)->N'.blk i j=N.blk i j
theorem b8C (b r:Int) (kp:Int):∀(q:List (Int×Sh)) (N:Nand) (f:Int) (c:Nat),RdyR N b r q->(∀x∈q,N.failB b r x.1=false)->
  (q.length<=c->R.go b r q (arm N c kp) f=(arm (R.go b r q N f).1 (c-q.length) kp,(R.go b r q N f).2))/\(c<q.length->∃N',R.go b r q (arm N c kp) f=(N',f,9)/\TornR N N' b r q c kp)
 | [],N,f,c,h,_=>⟨λ_=>rfl,λhc=>absurd hc (by simp)⟩
 | (d,s)::q,N,f,c,h,hf=>by
  have hx:=h.inn (d,s) (by simp);dsimp only at hx;have hfd:=hf (d,s) (by simp);dsimp only at hfd;unfold Nand.failB at hfd;rw[D5]at hfd;have hc:=h.cells (d,s) (by simp) hfd.1;dsimp only at hc;have hr:=h.lit.refuses hx h.blk h.row;rw[hfd.1,d4 (by decide)]at hr;have hnd:=List.nodup_cons.1 h.nodup;have hne:∀x∈q,x.1≠d:=λx hxq e=>hnd.1 (List.mem_map.2 ⟨x,hxq,e⟩);have hne2:∀x∈q,x.1.toNat≠d.toNat:=λx hxq e=>by
   have:=h.inn x (by simp[hxq]);exact hne x hxq (by omega)
  have e1:=a5w hr hc.symm h.lit.cutB;rw[hfd.2,d4 (by decide)]at e1;have e2:=a5v (pg:=P7 s) hr hc.symm h.lit.cutB;cases c with
  | zero=>
   obtain⟨_,_,a3,M,a4,a5,a6,a7,a8,a9,a10⟩:=b2a h.lit hr hc.symm hfd.2 (P7 s) 0 kp;refine⟨λhle=>absurd hle (by simp),λ_=>⟨M,?_,a5,a6,a7,λa ha=>by rw[<- a8];exact ha,a9,λk x hk=>?_,λi j hij=>?_⟩⟩
   ·rw[R.go,a3,d4 (by decide),d7 rfl,a4]
   ·cases k with
    | zero=>
     simp only[M5,l7]at hk;subst hk;rw[a10,d7 ⟨rfl,rfl⟩,d4 (by omega),d7 rfl]
    | succ k=>
     have hk:q[k]? =some x:=by simpa using hk
     have:=hne2 x (j9 hk);rw[a10,d4 (by omega),d4 (by omega),d4 (by omega),l8]
   ·rw[a10,d4];rintro⟨rfl,rfl⟩;rcases hij with h' | h'
    ·exact h' rfl
    ·exact h' (d,s) (by simp) rfl
  | succ c=>
   obtain⟨a1,a2,_,_⟩:=b2a h.lit hr hc.symm hfd.2 (P7 s) c kp;obtain⟨N1,hN1⟩:∃N1,N.progN d b r (P7 s)=N1:=⟨_,rfl⟩;rw[hN1]at e2 a2;have hb:∀i j,N1.blk i j=if i=d.toNat/\j=b.toNat then {N.blk d.toNat b.toNat with cells:=(N.blk d.toNat b.toNat).cells++[⟨P7 s,N.fails d b r,false⟩]}else N.blk i j:=λi j=>by rw[e2];rfl
   have hlike:N.Like N1:=by rw[e2];exact⟨rfl,rfl,rfl⟩
   have hlit:N1.Lit:=by rw[<- hN1];exact h.lit.prog _ _ _ _
   have hbr:N1.broken=N.broken:=by rw[e2];rfl
   have hdead:N1.dead=N.dead:=by rw[e2];rfl
   have hplan:N1.plan=N.plan.erase (d,b,r):=by rw[e2];rfl
   have hq:∀x∈q,N1.blk x.1.toNat b.toNat=N.blk x.1.toNat b.toNat:=λx hxq=>by rw[hb,d4 (by have:=hne2 x hxq;omega)]
   have hfl:∀x∈q,N1.fails x.1 b r=N.fails x.1 b r:=λx hxq=>by
    unfold Nand.fails;rw[hq x hxq,hplan];congr 1;rw[a1J];exact List.mem_erase_of_ne (λe=>hne x hxq (by injection e))
   have hfb:∀x∈q,N1.failB b r x.1=false:=λx hxq=>by
    have:=hf x (by simp[hxq]);unfold Nand.failB at this ⊢;rw[hdead,hfl x hxq];exact this
   obtain⟨g1,g2⟩:=b8C b r kp q N1 f c ⟨hlit,hnd.2,λx hxq=>by rw[hlike.dies];exact h.inn x (by simp[hxq]),by rw[hlike.blocks];exact h.blk,by rw[hlike.pages];exact h.row,λx hxq hd=>by rw[hq x hxq];exact h.cells x (by simp[hxq]) (by rw[<- hdead];exact hd)⟩ hfb;have s1:R.go b r ((d,s)::q) (arm N (c+1) kp) f=R.go b r q (arm N1 c kp) f:=by rw[R.go,a1,d7 rfl,a2]
   have s2:R.go b r ((d,s)::q) N f=R.go b r q N1 f:=by rw[R.go,e1,d7 rfl,hN1]
   rw[s1,s2];refine⟨λhle=>?_,λhlt=>?_⟩
   ·rw[l6]at hle ⊢;rw[g1 (by omega),show c+1-(q.length+1)=c-q.length from by omega]
   ·rw[l6]at hlt;obtain⟨N',g3,g4⟩:=g2 (by omega);refine⟨N',g3,g4.off,hlike.trans g4.like,g4.dead.trans hdead,λa ha=>?_,g4.broken.trans hbr,λk x hk=>?_,λi j hij=>?_⟩
    ·have:=g4.plan a ha;rw[hplan]at this;exact List.mem_of_mem_erase this
    ·cases k with
     | zero=>
      simp only[M5,l7]at hk;subst hk;dsimp only;rw[g4.rest _ _ (.inr λy hy=>hne2 y hy),hb,d7 ⟨rfl,rfl⟩,hfd.2,d7 (by omega)]
     | succ k=>
      have hk:q[k]? =some x:=by simpa using hk
      rw[g4.cells k x hk,hq x (j9 hk)]
      by_cases h1:k<c
      ·rw[d7 h1,d7 (show k+1<c+1 by omega)]
      ·rw[d4 h1,d4 (show¬k+1<c+1 by omega)]
       by_cases h2:k=c
       ·rw[d7 h2,d7 (show k+1=c+1 by omega)]
       ·rw[d4 h2,d4 (show¬k+1=c+1 by omega)]
    ·rw[g4.rest i j (hij.imp id λh' x hxq=>h' x (by simp[hxq])),hb,d4];rintro⟨rfl,rfl⟩;rcases hij with h' | h'
     ·exact h' rfl
     ·exact h' (d,s) (by simp) rfl
namespace Dv
def armed (S:Dv) (c:Nat) (kp:Int):Dv:={S with N:=arm S.N c kp}
theorem armed_at1 (S:Dv) (c:Nat) (kp:Int):(S.armed c kp).at1=S.at1.armed c kp:=by
 unfold at1;have e1:(S.armed c kp).left=S.left:=rfl;rw[e1];split<;>rfl
end Dv
theorem a0H (N:Nand) (d b r:Int):N.pageAt d b r=N.pageAt (d.toNat:Int) b r:=by unfold Nand.pageAt;rw[i9]
namespace TornR
variable {N N' : Nand} {b r kp : Int} {q : List (Int × Sh)} {c : Nat}
theorem page (t:TornR N N' b r q c kp) (hq:RdyR N b r q) (hno:∀x∈q,N.dead.getD x.1.toNat false=false) {d b0 r0:Int} (hb:0<=b0) (hr:0<=r0) (hne:b0=b->r0≠r):N'.pageAt d b0 r0=N.pageAt d b0 r0:=by
 unfold Nand.pageAt
 by_cases e:b0=b
 ·by_cases hx:∀x∈q,x.1.toNat≠d.toNat
  ·rw[t.rest _ _ (.inr hx)]
  ·simp only[Classical.not_forall,not_imp,a1r]at hx;obtain⟨x,hx,hxd⟩:=hx;obtain⟨k,hk⟩:=W7 hx;have hc:=t.cells k x hk;have hl:=hq.cells x hx (hno x hx);rw[hxd,<- e]at hc hl;rw[hc];have:=hne e;have:=hq.row;rw[I8];split
   ·rfl
   ·rw[j6 (by split;(· simp only[l6,a1c];omega);split;(· simp only[l6,a1c];omega);simp),j6 (by omega)]
 ·rw[t.rest _ _ (.inl (by have:=hq.blk;omega))]
end TornR
theorem Inv.went1 {fd:Int} {S:Dv} {k m:Nat} (h:Inv fd S) (hO:S.Ok k m) (hl:S.at1.left=true):Went fd S S.at1 0:=by
 unfold Dv.at1 at hl ⊢;split
 ·exact Went.refl h
 ·rename_i hh;rw[d4 hh]at hl;have hf:S.left=false:=by simpa using hh
  have:=(Dv.left_spec hl).1;exact(h.opens hO hf (by show¬S.pick<0;have:0<=S.pick:=this;omega)).1
namespace Tb
theorem put1_keys2 {α β:Type} (k:Int) (v:α) (v':β):∀(l:List (Int×α)) (l':List (Int×β)),l.map (·.1)=l'.map (·.1)->(put1 l k v).map (·.1)=(put1 l' k v').map (·.1)
 | [],[],_=>rfl
 | [],y::l',h=>by cases h
 | x::l,[],h=>by cases h
 | x::l,y::l',h=>by
  simp only[n8,U9]at h;simp only[put1];rw[h.1];split
  ·simp only[n8,h.2]
  ·simp only[n8,h.1,put1_keys2 k v v' l l' h.2]
end Tb
def a0W (W:List (Int×En)) (l:List En) (n:Nat):List (Int×En):=(List.range n).foldl (λW (i:Nat)=>Tb.put1 W (l.getD i En.zero).lpn (l.getD i En.zero)) W
theorem a1h (W:List (Int×En)) (l:List En) (n:Nat):a0W W l (n+1)=Tb.put1 (a0W W l n) (l.getD n En.zero).lpn (l.getD n En.zero):=by unfold a0W;rw[t6,B8];rfl
theorem a0M {W:List (Int×En)} {l:List En}:∀n:Nat,(∀i j,i<j->j<n->(l.getD i En.zero).lpn≠(l.getD j En.zero).lpn)->(∀j,j<n->Tb.look (a0W W l n) (l.getD j En.zero).lpn=some (l.getD j En.zero))/\∀i,(∀j,j<n->(l.getD j En.zero).lpn≠i)->Tb.look (a0W W l n) i=Tb.look W i
 | 0,_=>⟨λj hj=>by omega,λi _=>rfl⟩
 | n+1,h=>by
  obtain⟨i1,i2⟩:=a0M (W:=W) n λi j hij hj=>h i j hij (by omega);rw[a1h];refine⟨λj hj=>?_,λi hi=>?_⟩
  ·rw[Tb.look_put1]
   by_cases e:j=n
   ·subst e;rw[d7 rfl]
   ·rw[d4 (h j n (by omega) (by omega))];exact i1 j (by omega)
  ·rw[Tb.look_put1,d4 (λe=>hi n (by omega) e.symm)];exact i2 i λj hj=>hi j (by omega)
structure Hd (S:Dv) (W:List (Int×En)):Prop where
 keys:S.T.at_.map (·.1)=W.map (·.1)
 each:∀i e,Tb.look W i=some e->e.data.length=16/\∃a,Tb.look S.T.at_ i=some a/\R.read S.N a.block a.row a.slot a.mask=({e with seq:=a.seq},0)
namespace Hd
variable {fd : Int} {S Q : Dv} {W : List (Int × En)} {k m : Nat} {l : List En}
theorem went (h:Hd S W) (hi:Inv fd S) {β:Nat} (w:Went fd S Q β):Hd Q W:=by
 refine⟨by rw[w.T];exact h.keys,λi e he=>?_⟩;obtain⟨h1,a,h2,h3⟩:=h.each i e he;exact⟨h1,a,by rw[w.T];exact h2,by rw[w.reads i a (hi.st i a h2)];exact h3⟩
theorem none (h:Hd S W) {i:Int} (hi:Tb.look W i= .none):Tb.look S.T.at_ i= .none:=by
 rw[Tb.look_none]at hi ⊢;rw[h.keys];exact hi
theorem wrote (h:Hd Q W) (hQ:Inv fd Q) (hO:Q.Ok k m) (hl:Last fd Q l) (hf:∀e∈l,FitR e) (hlg:∀e∈l,e.lpn<Q.T.logical) (hnd:(l.map (·.lpn)).Nodup):Hd (M8 Q l) (a0W W l (Q.fit l)):=by
 obtain⟨l1,l2⟩:=hl.look hQ hO hf hlg hnd;have hes:=λj (hj:j<Q.fit l)=>hl.seqs hO hj;have hdis:∀i j,i<j->j<Q.fit l->(l.getD i En.zero).lpn≠(l.getD j En.zero).lpn:=λi j hij hj e=>by
  have g1:=(hes j hj).1;have g2:=(hes i (by omega)).1;have:(l.map (·.lpn))[i]? =(l.map (·.lpn))[j]?:=by
   rw[i5,i5,c9 g1,c9 g2];rw[d5,d5,c9 g1,c9 g2]at e;exact congrArg some e
  have:=(W9 (by rw[j5];exact g2) hnd).1 this;omega
 obtain⟨w1,w2⟩:=a0M (W:=W) (l:=l) (Q.fit l) hdis;refine⟨?_,λi e he=>?_⟩
 ·have key:∀n,n<=Q.fit l->(Dv.puts Q.T Q.op Q.row Q.mask (Q.es l) n).at_.map (·.1)=(a0W W l n).map (·.1):=by
   intro n
   induction n with
   | zero=>intro _;exact h.keys
   | succ n ih=>
    intro hn;have hb:=(hes n (by omega));have hin:=W5 hb.1;have hfe:=hf _ hin;have hl2:Tb.look (Dv.puts Q.T Q.op Q.row Q.mask (Q.es l) n).at_ (l.getD n En.zero).lpn=Tb.look Q.T.at_ (l.getD n En.zero).lpn:=by
     have hp:=(a6h (T:=Q.T) (b:=Q.op) (r:=Q.row) (mk:=Q.mask) (es:=Q.es l) n (λj hj=>?_) (λj hj a ha=>?_) (λi j hij hj=>?_)).2
     ·refine hp _ λj hj=>?_;rw[(hes j (by omega)).2.1];exact hdis j n hj (by omega)
     ·rw[(hes j (by omega)).2.1];have hfe:=hf _ (W5 (hes j (by omega)).1);have:=hlg _ (W5 (hes j (by omega)).1);unfold Tb.ok;have e1:decide (({l.getD j En.zero with seq:=Q.next+(j:Int)}:En).lpn<0)=false:=n7 (by have:=hfe.lpn;show¬(l.getD j En.zero).lpn<0;omega);have e2:decide (({l.getD j En.zero with seq:=Q.next+(j:Int)}:En).lpn>=Q.T.logical)=false:=n7 (by show¬(l.getD j En.zero).lpn>=Q.T.logical;omega);rw[e1,e2];show(!(false||false||((l.getD j En.zero).role !=1&&(l.getD j En.zero).role !=2&&(l.getD j En.zero).role !=4)))=true;rcases hfe.role with e | ⟨e | e,_⟩<;>rw[e]<;>rfl
     ·rw[(hes j (by omega)).2.1]at ha ⊢;have:=(hQ.st _ a ha).seq;show a.seq<=Q.next+(j:Int);omega
     ·rw[(hes j (by omega)).2.1,(hes i (by omega)).2.1];exact hdis i j hij (by omega)
    have hp:Tb.putB (Dv.puts Q.T Q.op Q.row Q.mask (Q.es l) n) ((Q.es l).getD n En.zero)=true:=by
     have hlog:∀n,(Dv.puts Q.T Q.op Q.row Q.mask (Q.es l) n).logical=Q.T.logical:=by
      intro n
      induction n with
      | zero=>rfl
      | succ n ih=>rw[Dv.puts_succ,Tb.put_logical];exact ih
     rw[hb.2.1];have:=hlg _ hin;have e1:Tb.ok (Dv.puts Q.T Q.op Q.row Q.mask (Q.es l) n) ({l.getD n En.zero with seq:=Q.next+(n:Int)}:En)=true:=by
      unfold Tb.ok;rw[hlog];have e1:decide (({l.getD n En.zero with seq:=Q.next+(n:Int)}:En).lpn<0)=false:=n7 (by have:=hfe.lpn;show¬(l.getD n En.zero).lpn<0;omega);have e2:decide (({l.getD n En.zero with seq:=Q.next+(n:Int)}:En).lpn>=Q.T.logical)=false:=n7 (by show¬(l.getD n En.zero).lpn>=Q.T.logical;omega);rw[e1,e2];show(!(false||false||((l.getD n En.zero).role !=1&&(l.getD n En.zero).role !=2&&(l.getD n En.zero).role !=4)))=true;rcases hfe.role with e | ⟨e | e,_⟩<;>rw[e]<;>rfl
     have e2:Tb.elder (Dv.puts Q.T Q.op Q.row Q.mask (Q.es l) n) ({l.getD n En.zero with seq:=Q.next+(n:Int)}:En)=false:=by
      unfold Tb.elder;rw[show({l.getD n En.zero with seq:=Q.next+(n:Int)}:En).lpn=(l.getD n En.zero).lpn from rfl,hl2];cases hh:Tb.look Q.T.at_ (l.getD n En.zero).lpn with
      | none=>rfl
      | some a=>have:=(hQ.st _ a hh).seq;exact n7 (by show¬(Q.next+(n:Int))<a.seq;omega)
     unfold Tb.putB;rw[e1,e2];rfl
    rw[Dv.puts_succ,a1h];unfold Tb.put;rw[d7 hp];show(Tb.put1 _ _ _).map (·.1)=_;rw[hb.2.1];exact Tb.put1_keys2 _ _ _ _ _ (ih (by omega))
  exact key _ (j3 _)
 ·by_cases hex:∃j,j<Q.fit l/\(l.getD j En.zero).lpn=i
  ·obtain⟨j,hj,rfl⟩:=hex;rw[w1 j hj]at he;injection he with he;subst he;refine⟨(hf _ (W5 (hes j hj).1)).len,_,l1 j hj,?_⟩;exact hl.reads hQ hO hj
  ·have hno:∀j,j<Q.fit l->(l.getD j En.zero).lpn≠i:=λj hj e=>hex ⟨j,hj,e⟩;rw[w2 i hno]at he;obtain⟨h1,a,h2,h3⟩:=h.each i e he;refine⟨h1,a,by rw[l2 i hno];exact h2,?_⟩;rw[hl.stay hQ hO hf (hQ.st i a h2)];exact h3
end Hd
theorem b5r (D B P:Nat) (lg:Int):(Dv.new D B P lg).rows=P*B:=by
 unfold Dv.rows;have e1:(Dv.new D B P lg).op= -1:=rfl;have e2:(Dv.new D B P lg).t.blanks=B:=by
  show(List.replicate B Sb.zero).countP _=B;rw[List.countP_replicate];rfl
 have e3:(Dv.new D B P lg).N.pages=P:=rfl;rw[e1,e2,e3,d4 (by decide)];omega
def WOk (W:List (Int×En)):Prop:=∀i e,Tb.look W i=some e->e.lpn=i/\FitR e
namespace Hd
variable {S : Dv} {W : List (Int × En)}
theorem rd (h:Hd S W) (hW:WOk W) {i:Int} {e:En} (he:Tb.look W i=some e):∃sq,S.rd i=({e with seq:=sq},0):=by
 obtain⟨_,a,h2,h3⟩:=h.each i e he;refine⟨a.seq,?_⟩;unfold Dv.rd;rw[h2];dsimp only;rw[j4,h3];dsimp only;rw[d4 (by decide),d4];rintro(x | x | x)
 ·exact x rfl
 ·exact x (hW i e he).1
 ·exact x rfl
theorem rds (h:Hd S W) (hW:WOk W):∀L:List Int,(∀i∈L,(Tb.look W i).isSome=true)->∃E:List En,S.rds L=(E,0)/\E.length=L.length/\E.map (·.lpn)=L/\(∀e∈E,FitR e)/\∀j,j<L.length->∃e sq,Tb.look W (E.getD j En.zero).lpn=some e/\E.getD j En.zero={e with seq:=sq}
 | [],_=>⟨[],rfl,rfl,rfl,λ_ h=>(by cases h),λj hj=>by simp at hj⟩
 | i::L,hL=>by
  obtain⟨E,e1,e2,e3,e4,e5⟩:=rds h hW L λx hx=>hL x (by simp[hx]);obtain⟨e,he⟩:=Option.isSome_iff_exists.1 (hL i (by simp));obtain⟨sq,hr⟩:=h.rd hW he;have hw:=hW i e he;refine⟨{e with seq:=sq}::E,?_,by simp[e2],by simp[e3,hw.1],λx hx=>?_,λj hj=>?_⟩
  ·rw[Dv.rds,hr,d4 (by simp),e1]
  ·rcases List.mem_cons.1 hx with rfl | hx
   ·exact⟨hw.2.lpn,hw.2.role,hw.2.len⟩
   ·exact e4 x hx
  ·cases j with
   | zero=>exact⟨e,sq,by show Tb.look W e.lpn=_;rw[hw.1];exact he,rfl⟩
   | succ j=>exact e5 j (by simpa using hj)
theorem swap {E:List En} {n:Nat} (h:Hd S (a0W W E n)) (hE:∀j,j<n->∃e sq,Tb.look W (E.getD j En.zero).lpn=some e/\E.getD j En.zero={e with seq:=sq}) (hd:∀i j,i<j->j<n->(E.getD i En.zero).lpn≠(E.getD j En.zero).lpn):Hd S W:=by
 obtain⟨w1,w2⟩:=a0M (W:=W) (l:=E) n hd;refine⟨?_,λi e he=>?_⟩
 ·rw[h.keys];clear h w1 w2
  induction n with
  | zero=>rfl
  | succ n ih=>
   rw[a1h];have hk:=(a0M (W:=W) (l:=E) n λi j hij hj=>hd i j hij (by omega)).2 (E.getD n En.zero).lpn λj hj=>hd j n hj (by omega);obtain⟨e,sq,h1,_⟩:=hE n (by omega);rw[<- ih (λj hj=>hE j (by omega)) (λi j hij hj=>hd i j hij (by omega))];refine Tb.put1_keys (by rw[hk,h1];simp)
 ·by_cases hex:∃j,j<n/\(E.getD j En.zero).lpn=i
  ·obtain⟨j,hj,rfl⟩:=hex;obtain⟨e',sq,h1,h2⟩:=hE j hj;rw[he]at h1;injection h1 with h1;obtain⟨g1,a,g2,g3⟩:=h.each _ _ (w1 j hj);rw[h2]at g1 g3;subst h1;exact⟨g1,a,g2,g3⟩
  ·exact h.each i e (by rw[w2 i λj hj hh=>hex ⟨j,hj,hh⟩];exact he)
end Hd
namespace Inv
variable {fd : Int} {m : Nat}
theorem slots_pos {S:Dv} {k:Nat} (h:Inv fd S) (hO:S.Ok k m) (hr:0<S.rows):(S.N.dies:Int)-2<=S.slots/\1<=S.slots:=by
 have hg:=hO.gd.ok.bd16;unfold Dv.slots;rcases h.rows_pos hO hr with hl | hp
 ·rw[d7 hl];have:=(h.opn hl).mask.pos hg.1;omega
 ·split
  ·rename_i hl;have:=(h.opn hl).mask.pos hg.1;omega
  ·rcases S.pick_spec with e | ⟨p1,p2,_,_⟩
   ·omega
   ·have:=(h.msk hO (Tl.has_iff.2 ⟨p1,p2⟩)).pos hg.1;omega
end Inv
namespace Inv
variable {fd : Int} {S : Dv} {k m : Nat}
def Empty (S:Dv) (b:Int):Prop:=∀i a,Tb.look S.T.at_ i=some a->a.block≠b
structure ErN (fd:Int) (N N':Nand) (b:Int):Prop where
 lit:N'.Lit
 like:N.Like N'
 dead:N'.dead=N.dead
 broken:N'.broken=N.broken
 plan:∀a∈N'.plan,a∈N.plan
 rest:∀i j,j≠b.toNat->N'.blk i j=N.blk i j
 flags:∀i j:Nat,(i:Int)≠fd->(N'.blk i j).met=(N.blk i j).met/\(N'.blk i j).fails=(N.blk i j).fails
 nof:(∀i j,(N.blk i j).fails=false)->∀i j,(N'.blk i j).met=(N.blk i j).met/\(N'.blk i j).fails=false
theorem ErN.refl (fd:Int) {N:Nand} (h:N.Lit) (b:Int):ErN fd N N b:=⟨h,Nand.Like.refl _,rfl,rfl,λ_ h=>h,λ_ _ _=>rfl,λ_ _ _=>⟨rfl,rfl⟩,λh i j=>⟨rfl,h i j⟩⟩
theorem ErN.trans {fd:Int} {A B C:Nand} {b:Int} (h:ErN fd A B b) (g:ErN fd B C b):ErN fd A C b:=
 ⟨g.lit,h.like.trans g.like,g.dead.trans h.dead,g.broken.trans h.broken,λa ha=>h.plan a (g.plan a ha),λi j hj=>(g.rest i j hj).trans (h.rest i j hj),λi j hi=>⟨(g.flags i j hi).1.trans (h.flags i j hi).1,(g.flags i j hi).2.trans (h.flags i j hi).2⟩,λhf i j=>⟨(g.nof (λi j=>(h.nof hf i j).2) i j).1.trans (h.nof hf i j).1,(g.nof (λi j=>(h.nof hf i j).2) i j).2⟩⟩
theorem er_one {N:Nand} (hl:N.Lit) {d:Nat} {b:Int} (hd:d<N.dies) (hb:0<=b/\b<N.blocks) (hp:0<N.pages) (hfl:(d:Int)≠fd->N.dead.getD d false=false/\(N.blk d b.toNat).fails=false):
  ErN fd N (N.eraseN d b) b/\(N.eraseE d b=0\/(N.eraseE d b=8\/N.eraseE d b=7)/\(d:Int)=fd)/\(N.eraseE d b=0->((N.eraseN d b).blk d b.toNat).cells=[])/\(∀i:Nat,i≠d->(N.eraseN d b).blk i b.toNat=N.blk i b.toNat)/\((N.dead.getD d false=false/\(N.blk d b.toNat).fails=false)->N.eraseE d b=0/\((N.eraseN d b).blk d b.toNat).worn=(N.blk d b.toNat).worn+1/\(N.eraseN d b).ops=N.ops+1):=by
 have hr:N.refuses d b 0=if N.dead.getD d false then 8 else 0:=by
  have:=hl.refuses (x:=(d:Int)) (y:=b) (z:=0) (by omega) hb (by omega)
  rwa [i9]at this
 cases hdd:N.dead.getD d false with
 | true=>
  rw[hdd,d7 rfl]at hr;have e1:N.eraseE d b=8:=by unfold Nand.eraseE;rw[hr];rfl
  have e2:N.eraseN d b=N:=by unfold Nand.eraseN;dsimp only;rw[d7 (by rw[hr];decide)]
  have hfd:(d:Int)=fd:=by
   by_cases e:(d:Int)=fd
   ·exact e
   ·have:=(hfl e).1;rw[hdd]at this;cases this
  rw[e1,e2];exact⟨ErN.refl fd hl b, .inr ⟨.inl rfl,hfd⟩,λh=>(by cases h),λ_ _=>rfl,λh=>(by cases h.1)⟩
 | false=>
  rw[hdd,d4 l4]at hr;have hcb:=hl.cutB;cases hf:(N.blk d b.toNat).fails with
  | true=>
   have e1:N.eraseE d b=7:=by unfold Nand.eraseE;rw[hr,hcb,i9,hf];rfl
   have hfd:(d:Int)=fd:=by
    by_cases e:(d:Int)=fd
    ·exact e
    ·have:=(hfl e).2;rw[hf]at this;cases this
   have e2:N.eraseN d b=N.cutN.setBlk d b.toNat {N.blk d b.toNat with met:=true}:=by
    unfold Nand.eraseN;dsimp only;rw[d4 (by rw[hr];decide),d4 (by rw[hcb];decide),i9,d7 hf]
   have hb:∀i j,(N.eraseN d b).blk i j=if i=d/\j=b.toNat then {N.blk d b.toNat with met:=true}else N.blk i j:=λi j=>by rw[e2];rfl
   refine⟨⟨hl.erase _ _,Nand.like_erase _ _ _,by rw[e2];rfl,by rw[e2];rfl,λa ha=>by rw[e2]at ha;exact ha,λi j hj=>by rw[hb,d4 (by omega)],λi j hi=>?_,λhall=>(by have:=hall d b.toNat;rw[hf]at this;cases this)⟩, .inr ⟨.inr e1,hfd⟩,λh=>(by rw[e1]at h;cases h),λi hi=>by rw[hb,d4 (by omega)],λh=>(by cases h.2)⟩;rw[hb,d4 (by omega)];exact⟨rfl,rfl⟩
  | false=>
   have e1:N.eraseE d b=0:=by unfold Nand.eraseE;rw[hr,hcb,i9,hf];rfl
   have e2:N.eraseN d b={N.cutN.setBlk d b.toNat {N.blk d b.toNat with cells:=[],worn:=(N.blk d b.toNat).worn+1}with plan:=N.plan.filter λa=>!(decide (a.1=(d:Int))&&decide (a.2.1=b))}:=by
    unfold Nand.eraseN;dsimp only;rw[d4 (by rw[hr];decide),d4 (by rw[hcb];decide),i9,d4 (by rw[hf];decide)]
   have hb:∀i j,(N.eraseN d b).blk i j=if i=d/\j=b.toNat then {N.blk d b.toNat with cells:=[],worn:=(N.blk d b.toNat).worn+1}else N.blk i j:=λi j=>by rw[e2];rfl
   refine⟨⟨hl.erase _ _,Nand.like_erase _ _ _,by rw[e2];rfl,by rw[e2];rfl,λa ha=>by rw[e2]at ha;exact(List.mem_filter.1 ha).1,λi j hj=>by rw[hb,d4 (by omega)],λi j hi=>?_,λhall i j=>?_⟩, .inl e1,λ_=>by rw[hb,d7 ⟨rfl,rfl⟩],λi hi=>by rw[hb,d4 (by omega)],λ_=>⟨e1,by rw[hb,d7 ⟨rfl,rfl⟩],by rw[e2];rfl⟩⟩
   ·rw[hb];split
    ·rename_i e;rw[e.1,e.2];exact⟨rfl,rfl⟩
    ·exact⟨rfl,rfl⟩
   ·rw[hb];split
    ·rename_i e;rw[e.1,e.2];exact⟨rfl,hall d b.toNat⟩
    ·exact⟨rfl,hall i j⟩
theorem put_er (h:Inv fd S) (hF:S.t.Fit S.N) {N':Nand} {t':Tl} {b:Int} (hE:ErN fd S.N N' b) (hT:TlMore fd S.t t') (hb:S.t.has b=true) (hne:b≠S.op) (hemp:Empty S b) (hu:(S.t.at_ b).used=true):Inv fd {S with N:=N',t:=t'}/\∀i a,Std fd S i a->a.block≠b->Std fd {S with N:=N',t:=t'} i a/\R.read N' a.block a.row a.slot a.mask=R.read S.N a.block a.row a.slot a.mask:=by
 have hst:∀i a,Std fd S i a->a.block≠b->Std fd {S with N:=N',t:=t'} i a/\R.read N' a.block a.row a.slot a.mask=R.read S.N a.block a.row a.slot a.mask:=λi a ha hab=>by
  obtain⟨lr,g1,g2,g3,g4,g5,g6⟩:=ha.row;have hblk:=g1.is.blk;have hbr:=(Tl.has_iff.1 hb).1;have hk:FullW fd N' a.block a.row a.mask lr a.slot.toNat:=g1.keep hE.like λx hx=>by
   unfold Nand.pageAt;rw[hE.rest _ _ (by omega)]
  have hhas:S.t.has a.block=true:=Tl.has_iff.2 (by have:=hF.b;omega);refine⟨⟨⟨lr,hk,g2,g3,g4,g5,g6⟩,by show(t'.at_ a.block).used=true;rw[hT.used _ hhas];exact ha.used,ha.below,ha.seq⟩,?_⟩;have r1:=hk.read hE.lit.off (λi hi=>by rw[hE.dead];exact h.dead i hi) g3;have r2:=g1.read h.lit.off h.dead g3;rw[show((a.slot.toNat:Nat):Int)=a.slot from by omega]at r1 r2;rw[r1,r2]
 refine⟨⟨hE.lit,λi hi=>by show N'.dead.getD i false=false;rw[hE.dead];exact h.dead i hi,λa ha=>h.plan a (hE.plan a ha),λi j hi=>by have:=hE.flags i j hi;show(N'.blk i j).met=false/\(N'.blk i j).fails=false;rw[this.1,this.2];exact h.flags i j hi,hT.tdead,λx hx=>hT.tbad x (by rw[<- hT.has];exact hx),?_,λx hx hxu d hd=>?_,λi a ha=>(hst i a (h.st i a ha) (hemp i a ha)).1⟩,λi a ha hab=>hst i a ha hab⟩
 ·rcases h.op with e | e
  ·exact .inl e
  ·right;have hhas:S.t.has S.op=true:=Tl.has_iff.2 (by have:=e.blk;have:=hF.b;omega);refine⟨by show 0<=S.op/\S.op<N'.blocks;rw[hE.like.blocks];exact e.blk,by show(t'.at_ S.op).used=true;rw[hT.used _ hhas];exact e.used,by show 0<=S.row/\S.row<=N'.pages;rw[hE.like.pages];exact e.row,by show Msk N'.dies fd S.mask;rw[hE.like.dies];exact e.mask,λd hd=>?_⟩;show((N'.blk d S.op.toNat).cells.length:Int)<=S.row/\(N'.dead.getD d false=false->((N'.blk d S.op.toNat).cells.length:Int)=S.row);have hbr:=(Tl.has_iff.1 hb).1;rw[hE.rest _ _ (by have:=e.blk;omega),hE.dead];exact e.cells d hd
 ·have hx':S.t.has x=true:=by rw[<- hT.has];exact hx
  have hxu':(S.t.at_ x).used=false:=by rw[<- hT.used x hx'];exact hxu
  have hxb:x≠b:=λe=>by rw[e,hu]at hxu';cases hxu'
  show(N'.blk d x.toNat).cells=[];rw[hE.rest _ _ (by have:=(Tl.has_iff.1 hb).1;have:=(Tl.has_iff.1 hx').1;omega)];exact h.blank x hx' hxu' d (hT.mask x hx' _ hd)
end Inv
def b3d (N:Nand):Prop:=(∀i:Nat,N.dead.getD i false=false)/\∀i j:Nat,(N.blk i j).fails=false
def a9u (m:Int) (q:List Nat):Nat:=(q.filter λd=>L.has m (d:Nat)).length
theorem b5e {fd:Int} {t:Tl} (hl:t.l.length=t.b) (h8:t.d<=8) (h1:L.set t.dead=true/\∀d:Int,L.has t.dead d=true->d=fd) (h2:∀b,t.has b=true->L.set (t.at_ b).bad=true/\∀d:Int,L.has (t.at_ b).bad d=true->d=fd) (k:Int) (s:Sb) (hs:t.has k=true->s.bad=(t.at_ k).bad/\s.used=(t.at_ k).used/\s.held=(t.at_ k).held):TlMore fd t (t.set k s):=by
 cases hop:t.has k with
 | false=>rw[Tl.set_no _ hop];exact TlMore.refl h1 h2
 | true=>
  obtain⟨s1,s2,s3⟩:=hs hop;have hat:∀b,t.has b=true->((t.set k s).at_ b).bad=(t.at_ b).bad/\((t.set k s).at_ b).used=(t.at_ b).used/\((t.set k s).at_ b).held=(t.at_ b).held:=λb hb=>by
   rw[Tl.at_set hl _ hop hb];split
   ·rename_i e;rw[e];exact⟨s1,s2,s3⟩
   ·exact⟨rfl,rfl,rfl⟩
  have hb2:∀b,t.has b=true->L.set ((t.set k s).at_ b).bad=true/\∀d:Int,L.has ((t.set k s).at_ b).bad d=true->d=fd:=λb hb=>by rw[(hat b hb).1];exact h2 b hb
  refine⟨λb=>Tl.has_set _ _ _ _,Tl.set_d _ _ _,λb hb=>(hat b hb).2.1,λb hb=>(hat b hb).2.2,by rw[Tl.set_dead];exact h1,hb2,λb hb e he=>?_,λe he=>by rw[Tl.set_dead];exact he⟩;have hm:=(a0A (t:=t.set k s) (b:=b) (by rw[Tl.set_d];exact h8) (by rw[Tl.has_set];exact hb) (by rw[Tl.set_dead];exact h1.1) (hb2 b hb).1).2 e;rw[hm,Tl.set_d,Tl.set_dead,(hat b hb).1]at he;rw[(a0A h8 hb h1.1 (h2 b hb).1).2];exact he
namespace Inv
variable {fd : Int} {S : Dv} {k m : Nat}
structure Er (fd:Int) (S:Dv) (b:Int):Prop where
 inv:Inv fd S
 fit:S.t.Fit S.N
 has:S.t.has b=true
 ne:b≠S.op
 emp:Empty S b
 used:(S.t.at_ b).used=true
 six:3<=S.N.dies/\S.N.dies<=6
 pages:0<S.N.pages
structure Erd (fd:Int) (S:Dv) (b mk:Int) (q:List Nat) (N':Nand) (t':Tl):Prop where
 er:ErN fd S.N N' b
 more:TlMore fd S.t t'
 fit:t'.Fit S.N
 done:∀d∈q,L.has mk (d:Nat)=true->(N'.blk d b.toNat).cells=[]\/L.has (t'.mask b) (d:Nat)=false
 rest:∀i:Nat,i∉q->N'.blk i b.toNat=S.N.blk i b.toNat
 exact_:b3d S.N->t'=S.t/\b3d N'/\N'.ops=S.N.ops+(a9u mk q:Int)/\∀d∈q,L.has mk (d:Nat)=true->(N'.blk d b.toNat).worn=(S.N.blk d b.toNat).worn+1
theorem Er.put {b:Int} (h:Er fd S b) {N':Nand} {t':Tl} (hE:ErN fd S.N N' b) (hT:TlMore fd S.t t') (hF:t'.Fit S.N):Er fd {S with N:=N',t:=t'} b/\∀i a,Std fd S i a->a.block≠b->Std fd {S with N:=N',t:=t'} i a/\R.read N' a.block a.row a.slot a.mask=R.read S.N a.block a.row a.slot a.mask:=by
 have hp:=h.inv.put_er h.fit hE hT h.has h.ne h.emp h.used;refine⟨⟨hp.1,hF.like hE.like,by show t'.has b=true;rw[hT.has];exact h.has,h.ne,h.emp,by show(t'.at_ b).used=true;rw[hT.used b h.has];exact h.used,by show 3<=N'.dies/\N'.dies<=6;rw[hE.like.dies];exact h.six,by show 0<N'.pages;rw[hE.like.pages];exact h.pages⟩,hp.2⟩
theorem eraseD_spec {b mk:Int} (h:Er fd S b) {d:Nat} (hd:d<S.N.dies):∃N' t',Dv.eraseD b mk (S.N,S.t,0) d=(N',t',0)/\Erd fd S b mk [d] N' t':=by
 have hsix:=h.six;have hblk:0<=b/\b<S.N.blocks:=by have:=Tl.has_iff.1 h.has;have:=h.fit.b;omega
 have h8:S.t.d<=8:=by have:=h.fit.d;omega
 have hdt:d<S.t.d:=by have:=h.fit.d;omega
 unfold Dv.eraseD;rw[d4 (by simp)];cases hh:L.has mk (d:Nat)with
 | false=>
  rw[d7 rfl];refine⟨S.N,S.t,rfl,ErN.refl fd h.inv.lit b,TlMore.refl h.inv.tdead h.inv.tbad,h.fit,λe he hm=>?_,λ_ _=>rfl,λhn=>⟨rfl,hn,?_,λe he hm=>?_⟩⟩
  ·rw[List.mem_singleton.1 he,hh]at hm;cases hm
  ·show _=S.N.ops+(([d].filter λd=>L.has mk (d:Nat)).length:Int);rw[Z6,hh];simp
  ·rw[List.mem_singleton.1 he,hh]at hm;cases hm
 | true=>
  rw[d4 (by decide)];dsimp only;obtain⟨e1,e2,e3,e4,e5⟩:=er_one (fd:=fd) h.inv.lit hd hblk h.pages (λhne=>⟨h.inv.dead d hne,(h.inv.flags d b.toNat hne).2⟩);have hcnt:(a9u mk [d]:Int)=1:=by unfold a9u;rw[Z6,hh];rfl
  rcases e2 with e2 | ⟨e2,hfd⟩
  ·refine⟨S.N.eraseN d b,S.t,?_,e1,TlMore.refl h.inv.tdead h.inv.tbad,h.fit,λe he _=> .inl (by rw[List.mem_singleton.1 he];exact e3 e2),λi hi=>e4 i (λe=>hi (by rw[e];exact List.mem_singleton.2 rfl)),λhn=>?_⟩
   ·rw[d7 e2,d4 (by rw[e2];decide)]
   ·obtain⟨x1,x2,x3⟩:=e5 ⟨hn.1 d,hn.2 d b.toNat⟩;refine⟨rfl,⟨λi=>by rw[e1.dead];exact hn.1 i,λi j=>(e1.nof hn.2 i j).2⟩,by rw[x3,hcnt],λe he _=>by rw[List.mem_singleton.1 he];exact x2⟩
  ·have hnn:¬b3d S.N:=λhn=>by
    have:=(e5 ⟨hn.1 d,hn.2 d b.toNat⟩).1;omega
   rcases e2 with e2 | e2
   ·obtain⟨m1,m2⟩:=b7N h8 h.inv.tdead h.inv.tbad (d:=d) (by omega) hfd;refine⟨S.N.eraseN d b,S.t.die d,?_,e1,m1,h.fit.die d,λe he _=> .inr (by rw[List.mem_singleton.1 he];have:=m2 hdt b h.has;rwa [<- hfd]at this),λi hi=>e4 i (λe=>hi (by rw[e];exact List.mem_singleton.2 rfl)),λhn=>absurd hn hnn⟩;rw[d4 (by omega),d4 (by omega),d7 e2,d4 (by omega)]
   ·obtain⟨m1,m2⟩:=b7O h.fit.len h8 h.inv.tdead h.inv.tbad (d:=d) (by omega) hfd b;refine⟨S.N.eraseN d b,S.t.bad d b,?_,e1,m1,h.fit.bad d b,λe he _=> .inr (by rw[List.mem_singleton.1 he];have:=m2 hdt h.has;rwa [<- hfd]at this),λi hi=>e4 i (λe=>hi (by rw[e];exact List.mem_singleton.2 rfl)),λhn=>absurd hn hnn⟩;rw[d4 (by omega),d4 (by omega),d4 (by omega),d4 (by omega)]
theorem eraseQ_spec {b mk:Int}:∀(q:List Nat) (S:Dv),Er fd S b->(∀d∈q,d<S.N.dies)->q.Nodup->∃N' t',q.foldl (Dv.eraseD b mk) (S.N,S.t,0)=(N',t',0)/\Erd fd S b mk q N' t'
 | [],S,h,_,_=>⟨S.N,S.t,rfl,ErN.refl fd h.inv.lit b,TlMore.refl h.inv.tdead h.inv.tbad,h.fit,λd hd=>(by cases hd),λ_ _=>rfl,λhn=>⟨rfl,hn,by simp[a9u],λd hd=>(by cases hd)⟩⟩
 | d::q,S,h,hq,hnd=>by
  obtain⟨N1,t1,f1,g1⟩:=eraseD_spec (mk:=mk) h (hq d (by simp));obtain⟨p1,_⟩:=h.put g1.er g1.more g1.fit;have hnd2:=List.nodup_cons.1 hnd;obtain⟨N2,t2,f2,g2⟩:=eraseQ_spec (mk:=mk) q _ p1 (λe he=>by show e<N1.dies;rw[g1.er.like.dies];exact hq e (by simp[he])) hnd2.2;have e2:ErN fd N1 N2 b:=g2.er;have m2:TlMore fd t1 t2:=g2.more;have hF2:t2.Fit S.N:=⟨g2.fit.d.trans g1.er.like.dies,g2.fit.b.trans g1.er.like.blocks,g2.fit.p.trans g1.er.like.pages,g2.fit.len⟩;refine⟨N2,t2,by rw[B3,f1];exact f2,g1.er.trans e2,g1.more.trans m2,hF2,λe he hm=>?_,λi hi=>?_,λhn=>?_⟩
  ·rcases List.mem_cons.1 he with rfl | he
   ·rcases g1.done e (List.mem_singleton.2 rfl) hm with hc | hc
    ·left;have:N2.blk e b.toNat=N1.blk e b.toNat:=g2.rest e hnd2.1;rw[this];exact hc
    ·right;cases hx:L.has (t2.mask b) (e:Nat)with
     | false=>rfl
     | true=>
      have:=m2.mask b (by rw[g1.more.has];exact h.has) _ hx;rw[hc]at this;cases this
   ·exact g2.done e he hm
  ·have h1:N2.blk i b.toNat=N1.blk i b.toNat:=g2.rest i (λe=>hi (by simp[e]));have h2:=g1.rest i (λe=>hi (by rw[List.mem_singleton.1 e];simp));rw[h1,h2]
  ·obtain⟨x1,x2,x3,x4⟩:=g1.exact_ hn;obtain⟨y1,y2,y3,y4⟩:=g2.exact_ x2;have y3:N2.ops=N1.ops+(a9u mk q:Int):=y3;refine⟨y1.trans x1,y2,?_,λe he hm=>?_⟩
   ·have:a9u mk (d::q)=a9u mk [d]+a9u mk q:=by
     unfold a9u;rw[<- d8,<- T3];rfl
    rw[y3,x3,this];omega
   ·rcases List.mem_cons.1 he with rfl | he
    ·have:N2.blk e b.toNat=N1.blk e b.toNat:=g2.rest e hnd2.1;rw[this];exact x4 e (List.mem_singleton.2 rfl) hm
    ·have hne:e≠d:=λe2=>hnd2.1 (by rw[<- e2];exact he);have:=y4 e he hm;have h3:N1.blk e b.toNat=S.N.blk e b.toNat:=g1.rest e (λe2=>hne (List.mem_singleton.1 e2));have this:(N2.blk e b.toNat).worn=(N1.blk e b.toNat).worn+1:=this;rw[this,h3]
end Inv
namespace Inv
variable {fd : Int} {S : Dv} {k m : Nat}
theorem msk2 (h:Inv fd S) (hF:S.t.Fit S.N) (h6:3<=S.N.dies/\S.N.dies<=6) {b:Int} (hb:S.t.has b=true):Msk S.N.dies fd (S.t.mask b):=by
 have hd:=hF.d;obtain⟨m1,m2⟩:=a0A (by omega) hb h.tdead.1 (h.tbad b hb).1;refine⟨m1,λd hh=>?_,λd hlt hne=>?_⟩
 ·rw[m2]at hh;simp only[f8,d6]at hh;omega
 ·rw[m2,i7 (p:=(0:Int)<=(d:Int)) (by omega),i7 (p:=(d:Int)<S.t.d) (by omega)];have e1:L.has S.t.dead (d:Nat)=false:=by
   cases hh:L.has S.t.dead (d:Nat)with
   | false=>rfl
   | true=>exact absurd (h.tdead.2 _ hh) hne
  have e2:L.has (S.t.at_ b).bad (d:Nat)=false:=by
   cases hh:L.has (S.t.at_ b).bad (d:Nat)with
   | false=>rfl
   | true=>exact absurd ((h.tbad b hb).2 _ hh) hne
  rw[e1,e2];rfl
theorem usable2 (h:Inv fd S) (hF:S.t.Fit S.N) (h6:3<=S.N.dies/\S.N.dies<=6) {b:Int} (hb:S.t.has b=true):S.t.usable b=true:=by
 have:=((h.msk2 hF h6 hb).pos h6).1;unfold Tl.usable;exact i7 (by omega)
theorem wores_more (h:Inv fd S) (hF:S.t.Fit S.N) (h6:S.N.dies<=6) (N':Nand) (b:Int):∀(q:List Nat) (t:Tl),TlMore fd S.t t->t.Fit S.N->TlMore fd S.t (q.foldl (λt (d:Nat)=>t.wore b (N'.wornAt d b)) t)/\(q.foldl (λt (d:Nat)=>t.wore b (N'.wornAt d b)) t).Fit S.N/\(∀x,x≠b->t.has x=true->(q.foldl (λt (d:Nat)=>t.wore b (N'.wornAt d b)) t).at_ x=t.at_ x)/\(q.foldl (λt (d:Nat)=>t.wore b (N'.wornAt d b)) t).blanks=t.blanks
 | [],t,hT,hF2=>⟨hT,hF2,λ_ _ _=>rfl,rfl⟩
 | d::q,t,hT,hF2=>by
  have h1:TlMore fd t (t.wore b (N'.wornAt d b)):=b5e hF2.len (by have:=hF2.d;omega) hT.tdead (λx hx=>hT.tbad x (by rw[<- hT.has];exact hx)) _ _ (λ_=>⟨rfl,rfl,rfl⟩);have ih:=wores_more h hF h6 N' b q (t.wore b (N'.wornAt d b)) (hT.trans h1) (hF2.wore _ _);rw[B3];refine⟨ih.1,ih.2.1,λx hx hhx=>?_,ih.2.2.2.trans (Tl.blanks_same hF2.len _ _ rfl)⟩;rw[ih.2.2.1 x hx (by unfold Tl.wore;rw[Tl.has_set];exact hhx)];unfold Tl.wore;cases hb:t.has b with
  | false=>rw[Tl.set_no _ hb]
  | true=>rw[Tl.at_set hF2.len _ hb hhx,d4 hx]
theorem blanks_more {fd:Int} {t t':Tl} (h:TlMore fd t t') (hl:t.l.length=t.b) (hl':t'.l.length=t'.b) (hb:t'.b=t.b):t'.blanks=t.blanks:=by
 unfold Tl.blanks;have e:t'.l.map (·.used)=t.l.map (·.used):=by
  apply z8;intro i;rw[i5,i5]
  by_cases hi:i<t.l.length
  ·have hhas:t.has (i:Nat)=true:=Tl.has_iff.2 (by omega);have:=h.used (i:Nat) hhas;unfold Tl.at_ at this;rw[i9,d5,d5,c9 hi,c9 (by omega)]at this;rw[c9 hi,c9 (by omega)];exact congrArg some this
  ·rw[j6 (by omega),j6 (by omega)]
 have h1:∀l:List Sb,(l.countP λs=>!s.used)=(l.map (·.used)).countP λu=>!u:=λl=>by rw[List.countP_map];rfl
 rw[h1,h1,e]
structure Erased (fd:Int) (S:Dv) (b:Int) (N':Nand) (t':Tl):Prop where
 inv:Inv fd {S with N:=N',t:=t'}
 fit:t'.Fit N'
 er:ErN fd S.N N' b
 reads:∀i a,Std fd S i a->a.block≠b->Std fd {S with N:=N',t:=t'} i a/\R.read N' a.block a.row a.slot a.mask=R.read S.N a.block a.row a.slot a.mask
 blank:(t'.at_ b).used=false
 rest:∀x,S.t.has x=true->x≠b->(t'.at_ x).used=(S.t.at_ x).used
 held:∀x,S.t.has x=true->(t'.at_ x).held=(S.t.at_ x).held
 blanks:t'.blanks=S.t.blanks+1
 td:∀e:Int,L.has S.t.dead e=true->L.has t'.dead e=true
 exact_:b3d S.N->b3d N'/\N'.ops=S.N.ops+(a9u (S.t.mask b) (List.range S.N.dies):Int)/\(∀d:Nat,d<S.N.dies->L.has (S.t.mask b) (d:Nat)=true->(N'.blk d b.toNat).worn=(S.N.blk d b.toNat).worn+1)/\t'=(Dv.wores N' S.t b).clean b true
theorem erase_spec {b:Int} (h:Er fd S b):∃N' t',Dv.erase S.N S.t b=(N',t',0)/\Erased fd S b N' t':=by
 obtain⟨N1,t1,f1,g1⟩:=eraseQ_spec (mk:=S.t.mask b) (List.range S.N.dies) S h (λd hd=>List.mem_range.1 hd) a3R;obtain⟨p1,p2⟩:=h.put g1.er g1.more g1.fit;have hF1:t1.Fit N1:=g1.fit.like g1.er.like;have h6:3<=N1.dies/\N1.dies<=6:=p1.six;obtain⟨w1,w2,w3,w4⟩:=wores_more p1.inv hF1 h6.2 N1 b (List.range N1.dies) t1 (TlMore.refl p1.inv.tdead p1.inv.tbad) hF1;have hw:(List.range N1.dies).foldl (λt (d:Nat)=>t.wore b (N1.wornAt d b)) t1=Dv.wores N1 t1 b:=rfl;rw[hw]at w1 w2 w3 w4;obtain⟨T2,hT2⟩:∃T2,Dv.wores N1 t1 b=T2:=⟨_,rfl⟩;rw[hT2]at w1 w2 w3 w4;have w1:TlMore fd t1 T2:=w1;have w2:T2.Fit N1:=w2;have hTm:TlMore fd S.t T2:=g1.more.trans w1;have hF2:T2.Fit S.N:=⟨w2.d.trans g1.er.like.dies,w2.b.trans g1.er.like.blocks,w2.p.trans g1.er.like.pages,w2.len⟩;obtain⟨r1,r2⟩:=h.put g1.er hTm hF2;have hus:T2.usable b=true:=r1.inv.usable2 w2 h6 r1.has;have hhas:T2.has b=true:=r1.has;have hmk:∀j,(T2.clean b true).mask j=T2.mask j:=λj=>Dv.mask_clean w2.len _ _ _;have hat:∀x,T2.has x=true->(T2.clean b true).at_ x=if x=b then {T2.at_ b with used:=false}else T2.at_ x:=λx hx=>Tl.at_set w2.len _ hhas hx
 have hfin:Dv.erase S.N S.t b=(N1,T2.clean b true,0):=by
  unfold Dv.erase Dv.eraseB;rw[f1];dsimp only;rw[d4 (by simp)];unfold Dv.eraseT;rw[hT2,d7 hus]
 have hdd:(T2.clean b true).dead=T2.dead:=Tl.set_dead _ _ _;have hhs:∀x,(T2.clean b true).has x=T2.has x:=λx=>Tl.has_set _ _ _ _;have hstd:∀i a,Std fd {S with N:=N1,t:=T2} i a->a.block≠b->Std fd {S with N:=N1,t:=T2.clean b true} i a:=λi a ha hab=>by
  obtain⟨lr,q1,q2⟩:=ha.row;have hx:T2.has a.block=true:=Tl.has_iff.2 (by
   have h1:=q1.is.blk;have h2:=w2.b;have h1:0<=a.block/\a.block<N1.blocks:=h1;omega)
  exact⟨⟨lr,q1,q2⟩,by show((T2.clean b true).at_ a.block).used=true;rw[hat _ hx,d4 hab];exact ha.used,ha.below,ha.seq⟩
 refine⟨N1,T2.clean b true,hfin,⟨⟨r1.inv.lit,r1.inv.dead,r1.inv.plan,r1.inv.flags,by show L.set (T2.clean b true).dead=true/\_;rw[hdd];exact r1.inv.tdead,λx hx=>?_,?_,λx hx hxu d hd=>?_,λi a ha=>hstd i a (r1.inv.st i a ha) (h.emp i a ha)⟩,w2.clean _ _,g1.er,λi a ha hab=>⟨hstd i a (r2 i a ha hab).1 hab,(r2 i a ha hab).2⟩,?_,λx hx hne=>?_,λx hx=>?_,?_,λe he=>by rw[hdd];exact hTm.td e he,λhn=>?_⟩⟩
 ·have hx':T2.has x=true:=by rw[<- hhs];exact hx
  show L.set ((T2.clean b true).at_ x).bad=true/\∀d:Int,L.has ((T2.clean b true).at_ x).bad d=true->d=fd;rw[hat x hx'];split
  ·exact r1.inv.tbad b hhas
  ·exact r1.inv.tbad x hx'
 ·rcases r1.inv.op with e | e
  ·exact .inl e
  ·right;have hx:T2.has S.op=true:=Tl.has_iff.2 (by
    have h1:=e.blk;have h2:=w2.b;have h1:0<=S.op/\S.op<N1.blocks:=h1;omega)
   exact⟨e.blk,by show((T2.clean b true).at_ S.op).used=true;rw[hat _ hx,d4 (λe2=>h.ne e2.symm)];exact e.used,e.row,e.mask,e.cells⟩
 ·have hx':T2.has x=true:=by rw[<- hhs];exact hx
  have hd2:L.has (T2.mask x) (d:Nat)=true:=by rw[<- hmk];exact hd
  have hxu2:((T2.clean b true).at_ x).used=false:=hxu;rw[hat x hx']at hxu2;split at hxu2
  ·rename_i e;subst e;have hm:=hTm.mask x h.has _ hd2;have hdl:=(h.inv.msk2 h.fit h.six h.has).lt _ hm;rcases g1.done d (List.mem_range.2 (by omega)) hm with hc | hc
   ·exact hc
   ·have:=w1.mask x (by rw[g1.more.has];exact h.has) _ hd2;rw[hc]at this;cases this
  ·exact r1.inv.blank x hx' hxu2 d hd2
 ·rw[hat b hhas,d7 rfl]
 ·have hx':T2.has x=true:=by rw[hTm.has];exact hx
  rw[hat x hx',d4 hne];exact hTm.used x hx
 ·have hx':T2.has x=true:=by rw[hTm.has];exact hx
  rw[hat x hx'];split
  ·rename_i e;rw[e];exact hTm.held b h.has
  ·exact hTm.held x hx
 ·have h1:T2.blanks=S.t.blanks:=blanks_more hTm h.fit.len w2.len (by have:=hF2.b;have:=h.fit.b;omega);have hub:(T2.at_ b).used=true:=by rw[hTm.used b h.has];exact h.used
  have:=Tl.countP_set (λs:Sb=>!s.used) (T2.at_ b) {T2.at_ b with used:=!true} T2.l b.toNat (Tl.get_at w2.len hhas);have e1:(T2.clean b true).blanks=(T2.l.set b.toNat {T2.at_ b with used:=!true}).countP (λs:Sb=>!s.used):=by unfold Tl.clean Tl.set Tl.blanks;rw[d7 hhas]
  have e2:T2.blanks=T2.l.countP (λs:Sb=>!s.used):=rfl;rw[<- e1,<- e2,hub]at this;simp only[a2r,Bool.not_false,H6,X6,a0d]at this;omega
 ·obtain⟨x1,x2,x3,x4⟩:=g1.exact_ hn;exact⟨x2,x3,λd hd hm=>x4 d (List.mem_range.2 hd) hm,by rw[<- hT2,x1]⟩
end Inv
namespace Inv
variable {fd : Int} {S : Dv} {k m : Nat}
structure Cleared (fd:Int) (S:Dv) (l:List Int) (N':Nand) (t':Tl):Prop where
 inv:Inv fd {S with N:=N',t:=t'}
 fit:t'.Fit N'
 lit:N'.Lit
 like:S.N.Like N'
 dead:N'.dead=S.N.dead
 broken:N'.broken=S.N.broken
 plan:∀a∈N'.plan,a∈S.N.plan
 reads:∀i a,Std fd S i a->a.block∉l->Std fd {S with N:=N',t:=t'} i a/\R.read N' a.block a.row a.slot a.mask=R.read S.N a.block a.row a.slot a.mask
 has:∀x,t'.has x=S.t.has x
 blank:∀b∈l,(t'.at_ b).used=false
 rest:∀x,S.t.has x=true->x∉l->(t'.at_ x).used=(S.t.at_ x).used
 held:∀x,S.t.has x=true->(t'.at_ x).held=(S.t.at_ x).held
 blanks:t'.blanks=S.t.blanks+l.length
 td:∀e:Int,L.has S.t.dead e=true->L.has t'.dead e=true
 nofl:b3d S.N->b3d N'/\∀i j:Nat,(N'.blk i j).met=(S.N.blk i j).met
 msks:b3d S.N->∀b,t'.mask b=S.t.mask b
theorem wores_mask (N':Nand) (b:Int):∀(q:List Nat) (t:Tl),t.l.length=t.b->(q.foldl (λt (d:Nat)=>t.wore b (N'.wornAt d b)) t).l.length=(q.foldl (λt (d:Nat)=>t.wore b (N'.wornAt d b)) t).b/\∀j,(q.foldl (λt (d:Nat)=>t.wore b (N'.wornAt d b)) t).mask j=t.mask j
 | [],t,hl=>⟨hl,λ_=>rfl⟩
 | d::q,t,hl=>by
  rw[B3];have h1:(t.wore b (N'.wornAt d b)).l.length=(t.wore b (N'.wornAt d b)).b:=by
   unfold Tl.wore Tl.set;split
   ·show(List.set _ _ _).length=_;rw[A5];exact hl
   ·exact hl
  obtain⟨i1,i2⟩:=wores_mask N' b q _ h1;exact⟨i1,λj=>(i2 j).trans (c0o hl b {t.at_ b with wear:=if N'.wornAt d b>(t.at_ b).wear then N'.wornAt d b else(t.at_ b).wear} (λ_=>rfl) j)⟩
theorem clearGo_spec:∀(l:List Int) (S:Dv),(∀b∈l,Er fd S b)->l.Nodup->Inv fd S->S.t.Fit S.N->∃N' t',Dv.clearGo l S.N S.t=(N',t',0)/\Cleared fd S l N' t'
 | [],S,_,_,h,hF=>⟨S.N,S.t,rfl,h,hF,h.lit,Nand.Like.refl _,rfl,rfl,λ_ h=>h,λi a ha _=>⟨ha,rfl⟩,λ_=>rfl,λb hb=>(by cases hb),λ_ _ _=>rfl,λ_ _=>rfl,rfl,λ_ h=>h,λhn=>⟨hn,λ_ _=>rfl⟩,λ_ _=>rfl⟩
 | b::l,S,hl,hnd,h,hF=>by
  have hb:=hl b (by simp);have hnd2:=List.nodup_cons.1 hnd;obtain⟨N1,t1,f1,g1⟩:=erase_spec hb;have hhas1:∀x,t1.has x=S.t.has x:=λx=>by
   unfold Tl.has;rw[show t1.b=S.t.b from by rw[g1.fit.b,hF.b,g1.er.like.blocks]]
  obtain⟨N2,t2,f2,g2⟩:=clearGo_spec l {S with N:=N1,t:=t1} (λx hx=>by
   have hx':=hl x (by simp[hx]);have hne:x≠b:=λe=>hnd2.1 (by rw[<- e];exact hx);exact⟨g1.inv,g1.fit,by show t1.has x=true;rw[hhas1];exact hx'.has,hx'.ne,hx'.emp,by show(t1.at_ x).used=true;rw[g1.rest x hx'.has hne];exact hx'.used,by show 3<=N1.dies/\N1.dies<=6;rw[g1.er.like.dies];exact hx'.six,by show 0<N1.pages;rw[g1.er.like.pages];exact hx'.pages⟩) hnd2.2 g1.inv g1.fit
  have l2:N1.Like N2:=g2.like;have d2:N2.dead=N1.dead:=g2.dead;have b2:N2.broken=N1.broken:=g2.broken;have bl2:t2.blanks=t1.blanks+l.length:=g2.blanks;refine⟨N2,t2,?_,g2.inv,g2.fit,g2.lit,g1.er.like.trans l2,d2.trans g1.er.dead,b2.trans g1.er.broken,λa ha=>g1.er.plan a (g2.plan a ha),λi a ha hab=>?_,λx=>(g2.has x).trans (hhas1 x),λx hx=>?_,λx hx hxl=>?_,λx hx=>?_,by rw[bl2,g1.blanks,l6];omega,λe he=>g2.td e (g1.td e he),λhn=>?_,λhn x=>?_⟩
  ·rw[Dv.clearGo,f1];dsimp only;rw[d4 (by simp)];exact f2
  ·have r1:=g1.reads i a ha (λe=>hab (by rw[e];simp));have r2:=g2.reads i a r1.1 (λe=>hab (by simp[e]));exact⟨r2.1,r2.2.trans r1.2⟩
  ·rcases List.mem_cons.1 hx with rfl | hx
   ·have:=g2.rest x (by show t1.has x=true;rw[hhas1];exact hb.has) hnd2.1;rw[this];exact g1.blank
   ·exact g2.blank x hx
  ·have h1:=g2.rest x (by show t1.has x=true;rw[hhas1];exact hx) (λe=>hxl (by simp[e]));rw[h1];exact g1.rest x hx (λe=>hxl (by simp[e]))
  ·rw[g2.held x (by show t1.has x=true;rw[hhas1];exact hx)];exact g1.held x hx
  ·obtain⟨n1,_⟩:=g1.exact_ hn;obtain⟨n2,n3⟩:=g2.nofl n1;exact⟨n2,λi j=>(n3 i j).trans (g1.er.nof hn.2 i j).1⟩
  ·obtain⟨n1,_,_,e⟩:=g1.exact_ hn;have e2:t2.mask x=t1.mask x:=g2.msks n1 x;obtain⟨w1,w2⟩:=wores_mask N1 b (List.range N1.dies) S.t hF.len;rw[e2,e,Dv.mask_clean (t:=Dv.wores N1 S.t b) w1];exact w2 x
theorem pkSome_nodup (kind:Int->Bool) (o:Int) (n:Nat):(t7 kind o n).Nodup:=by
 unfold t7;rw[List.nodup_iff_pairwise_ne,List.pairwise_map];exact(List.Pairwise.filter _ (List.nodup_iff_pairwise_ne.1 a3R)).imp λh e=>h (by omega)
theorem spent_er (h:Inv fd S) (hO:S.Ok k m) {b:Int} (hb:b∈t7 (D3 S.t S.T) S.op S.t.b):Er fd S b:=by
 obtain⟨h1,h2,h3,h4⟩:=mem_pkSome.1 hb;have hg:=hO.gd.ok.bd16;have hhas:S.t.has b=true:=Tl.has_iff.2 ⟨h1,h2⟩;simp only[D3,f8,i4,B4]at h4;obtain⟨⟨⟨_,hbl⟩,_⟩,hc⟩:=h4;refine⟨h,hO.t,hhas,h3,λi a ha e=>?_,?_,hg.1,by omega⟩
 ·rw[hO.T.cnt]at hc;have hc:Tb.cntB S.T.at_ b=0:=by omega
  unfold Tb.cntB at hc;rw[a5h]at hc;exact hc _ (Tb.look_mem ha) (by simp[e])
 ·unfold Tl.blank at hbl;rw[hhas,q9]at hbl;simpa using hbl
theorem clear_spec (h:Inv fd S) (hO:S.Ok k m):∃N' t',S.clear=({S with N:=N',t:=t'},0)/\Cleared fd S (t7 (D3 S.t S.T) S.op S.t.b) N' t':=by
 obtain⟨N',t',f,g⟩:=clearGo_spec (t7 (D3 S.t S.T) S.op S.t.b) S (λb hb=>h.spent_er hO hb) (pkSome_nodup _ _ _) h hO.t;refine⟨N',t',?_,g⟩;unfold Dv.clear Dv.clearX;rw[f]
theorem countP_range_get {α:Type} (p:α->Bool) (z:α) (l:List α):l.countP p=(List.range l.length).countP λi=>p (l.getD i z):=by
 induction l with
 | nil=>rfl
 | cons x l ih=>
  rw[O7,l6,List.range_succ_eq_map,O7,List.countP_map,ih];rfl
theorem free_len (h:Inv fd S) (hO:S.Ok k m):S.free=S.t.blanks:=by
 unfold Dv.free t7;rw[j5,<- List.countP_eq_length_filter];have hlen:=hO.t.len;unfold Tl.blanks;rw[countP_range_get _ Sb.zero,hlen];refine List.countP_congr λi hi=>?_;have hi:=List.mem_range.1 hi;have hhas:S.t.has (i:Nat)=true:=Tl.has_iff.2 (by omega);obtain⟨a1,a2⟩:=h.free_iff hO hhas;rw[a1];have e:S.t.blank (i:Nat)= !(S.t.l.getD i Sb.zero).used:=by unfold Tl.blank Tl.at_;rw[hhas,i9];rfl
 cases hb:S.t.blank (i:Nat)with
 | false=>rw[e]at hb;rw[hb];simp
 | true=>rw[a2 hb];rw[e]at hb;rw[hb];simp
end Inv
theorem a3p {kind:Int->Bool} {o:Int}:∀n:Nat,(∀x:Nat,x<n->(((x:Int) !=o)&&kind x)=false)->t7 kind o n=[]
 | 0,_=>rfl
 | n+1,h=>by rw[a1w,d4 (by rw[h n (by omega)];decide),a3p n λx hx=>h x (by omega)]
theorem b7T:∀D,D<7->3<=D->(IntKind.i64.wrap ((BitVec.ofInt IntKind.i64.bits (L.all (D:Nat))&&& BitVec.ofInt IntKind.i64.bits (Tl.andN (L.all (D:Nat)) (L.all (D:Nat)))).toNat:Int) !=0)=false/\∀d,d<D->(IntKind.i64.wrap ((BitVec.ofInt IntKind.i64.bits (L.all (D:Nat))&&& BitVec.ofInt IntKind.i64.bits (Tl.andN (L.all (D:Nat)) (Tl.andN (Tl.andN (L.all (D:Nat)) (L.with_ 0 (d:Nat))) 0))).toNat:Int) !=0)=true:=by decide+kernel
theorem a7W {N:Nand} {t:Tl} (h:∀i:Nat,N.dead.getD i false=false):Dv.seeDead N t=t:=by
 unfold Dv.seeDead;have:∀(q:List Nat),q.foldl (λt (d:Nat)=>if N.deadAt d then t.die d else t) t=t:=by
  intro q
  induction q with
  | nil=>rfl
  | cons d q ih=>
   rw[B3];have:N.deadAt d=false:=by unfold Nand.deadAt;rw[i9,h];simp
   rw[this,d4 l4];exact ih
 exact this _
end Go.Proofs.YtmafiplddapokaaGreat
