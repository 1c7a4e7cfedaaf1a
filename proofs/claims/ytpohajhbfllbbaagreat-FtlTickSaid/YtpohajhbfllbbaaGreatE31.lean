/- Helpers. No condition. -/
import Derived.Test.YtpohajhbfllbbaaGreatE16
import Derived.Test.YtpohajhbfllbbaaGreatE27
import Derived.Test.YtpohajhbfllbbaaGreatE29
import Derived.Test.YtpohajhbfllbbaaGreatE30
set_option maxRecDepth 20000
set_option linter.all false
namespace Go.Proofs.YtpohajhbfllbbaaGreat
open Go
theorem V.stand_max:∀(n:Nat) (l:List Fnd),l.length=n->∀g∈l,g.en.seq<=(V.standOf l).1.en.seq/\(g.en.seq=(V.standOf l).1.en.seq->g.whole=true->(V.standOf l).1.whole=true)
 | 0,l,hl,g,hg=>by rw[List.eq_nil_of_length_eq_zero hl]at hg;cases hg
 | n+1,l,hl,g,hg=>by
  obtain⟨l',x,rfl⟩:∃l' x,l=l'++[x]:=⟨l.dropLast,l.getLast (λe=>by rw[e]at hl;cases hl),(List.dropLast_concat_getLast _).symm⟩;have hl':l'.length=n:=by simpa using hl
  have ih:=V.stand_max n l' hl';rw[V.standOf_snoc];split
  ·rename_i hc;show g.en.seq<=x.en.seq/\(g.en.seq=x.en.seq->g.whole=true->x.whole=true);rcases List.mem_append.1 hg with hg | hg
   ·rcases hc with hc | hc
    ·exfalso
     rw[V.standOf_true l' (λe=>by rw[e]at hg;cases hg)]at hc;cases hc
    ·have h1:=ih g hg;unfold V.behind at hc;split at hc
     ·have hc:=of_decide_eq_true hc;exact⟨by omega,λe=>by omega⟩
     ·rename_i heq;have heq:(V.standOf l').1.en.seq=x.en.seq:=Classical.byContradiction λh=>heq h;rw[Bool.and_eq_true]at hc;exact⟨by omega,λ_ _=>hc.1⟩
   ·rw[List.mem_singleton]at hg;rw[hg];exact⟨Int.le_refl _,λ_ h=>h⟩
  ·rename_i hc;rcases List.mem_append.1 hg with hg | hg
   ·exact ih g hg
   ·rw[List.mem_singleton]at hg;rw[hg];have hb:V.behind (V.standOf l').1 x=false:=by
     cases h:V.behind (V.standOf l').1 x with
     | false=>rfl
     | true=>exact absurd (.inr h) hc
    unfold V.behind at hb;split at hb
    ·rename_i hne;have hb:=of_decide_eq_false hb;exact⟨by omega,λe=>absurd e.symm hne⟩
    ·rename_i heq;have heq:(V.standOf l').1.en.seq=x.en.seq:=Classical.byContradiction λh=>heq h;refine⟨by omega,λ_ hw=>?_⟩;rw[hw,Bool.true_and]at hb;simpa using hb
theorem V.mem_all {N:Nand} {f:Fnd}:f∈V.all N↔∃b r:Nat,b<N.blocks/\r<N.pages/\f∈R.all N b r:=by
 unfold V.all;simp only[List.mem_flatMap,List.mem_range];constructor
 ·rintro⟨b,hb,r,hr,hf⟩;exact⟨b,r,hb,hr,hf⟩
 ·rintro⟨b,r,hb,hr,hf⟩;exact⟨b,hb,r,hr,hf⟩
theorem V.nextOf_ge:∀(n:Nat) (l:List Fnd),l.length=n->∀f∈l,f.en.seq+1<=V.nextOf l
 | 0,l,hl,g,hg=>by rw[List.eq_nil_of_length_eq_zero hl]at hg;cases hg
 | n+1,l,hl,g,hg=>by
  obtain⟨l',x,rfl⟩:∃l' x,l=l'++[x]:=⟨l.dropLast,l.getLast (λe=>by rw[e]at hl;cases hl),(List.dropLast_concat_getLast _).symm⟩;have hl':l'.length=n:=by simpa using hl
  rw[V.nextOf_snoc];rcases List.mem_append.1 hg with hg | hg
  ·have:=V.nextOf_ge n l' hl' g hg;omega
  ·rw[List.mem_singleton]at hg;rw[hg];omega
theorem b0l (N:Nand) {n:Nat} (hn:n<=65536) (i:Nat):Tb.look (V.scan N n).tb.at_ (i:Int)=if i<n/\(V.standOf (V.of (V.all N) i)).2=true/\Tb.ok (Tb.new n) (V.standOf (V.of (V.all N) i)).1.en=true then some ⟨(V.standOf (V.of (V.all N) i)).1.block,(V.standOf (V.of (V.all N) i)).1.row,(V.standOf (V.of (V.all N) i)).1.slot,(V.standOf (V.of (V.all N) i)).1.mask,(V.standOf (V.of (V.all N) i)).1.en.seq,(V.standOf (V.of (V.all N) i)).1.en.role⟩else none:=by
 have hsz:V.size (n:Int)=n:=by unfold V.size;omega
 have key:=V.goS_look N (V.all N) n n i;rw[<- key];show Tb.look (V.goS N (V.all N) n (V.size n)).tb.at_ (i:Int)=_;rw[hsz]
theorem a5g {α β:Type} (g:Int->β):∀(l:List (Int×α)) (i:Int),Tb.look (l.map λx=>(x.1,g x.1)) i=if(Tb.look l i).isSome=true then some (g i)else none
 | [],i=>rfl
 | x::l,i=>by
  rw[List.map_cons];unfold Tb.look
  by_cases h:i=x.1
  ·rw[if_pos h,if_pos h,h];rfl
  ·rw[if_neg h,if_neg h];exact a5g g l i
theorem a7F {fd:Int} {N:Nand} (h3:3<=N.dies):∃i:Nat,i<N.dies/\(i:Int)≠fd:=by
 by_cases h:fd=0
 ·exact⟨1,by omega,by omega⟩
 ·exact⟨0,by omega,λe=>h e.symm⟩
namespace GI
variable {fd : Int} {W : List (Int × En)} {S : Dv} {k m : Nat}
theorem stand (h:GI fd W S) (hO:S.Ok k m) {i:Int} {a:AtV} (ha:Tb.look S.T.at_ i=some a):
  ∃w f,Tb.look W i=some w/\V.standOf (V.of (V.all S.N) i)=(f,true)/\f∈V.all S.N/\f.en={w with seq:=a.seq}/\f.block=a.block/\f.row=a.row/\f.mask=a.mask/\(∃l,Full fd S.N a.block a.row a.mask l/\∃k:Nat,f.slot=k/\k<l.length/\l.getD k En.zero=f.en)/\f.whole=((M.look S.N (G.parity a.mask a.block a.row) a.block a.row).2==1):=by
 have hg:=hO.gd.ok.bd16;have hoff:=h.inv.lit.off;obtain⟨w,hw⟩:∃w,Tb.look W i=some w:=by
  cases hw:Tb.look W i with
  | none=>rw[h.hd.none hw]at ha;cases ha
  | some w=>exact⟨w,rfl⟩
 obtain⟨l,g1,g2,g3,g4,g5,g6⟩:=(h.inv.st i a ha).row;obtain⟨_,a',ha',hrd⟩:=h.hd.each i w hw;rw[ha]at ha';injection ha' with ha';subst ha';have hslot:((a.slot.toNat:Nat):Int)=a.slot:=Int.toNat_of_nonneg g2;have hle:l.getD a.slot.toNat En.zero={w with seq:=a.seq}:=by
  have:=g1.read hoff h.inv.dead g3;rw[hslot,hrd]at this;injection this with this _;exact this.symm
 have hwk:=h.wok i w hw;have hr3:(l.getD a.slot.toNat En.zero).role≠3:=by
  rw[hle];show w.role≠3;rcases hwk.2.role with e | ⟨e | e,_⟩<;>omega
 have hmk:=h.msk i a ha;obtain⟨i0,hi0,hne0⟩:=a7F (fd:=fd) hg.1.1;have hm0:=hmk.all i0 hi0 hne0;obtain⟨f0,f1,f2,f3,f4⟩:=g1.found2 hoff h.inv.dead ⟨i0,hne0,hm0⟩ g3 hr3;have hblk:=g1.is.blk;have hrow:=g1.is.row;have hf0:f0∈V.all S.N:=V.mem_all.2 ⟨a.block.toNat,a.row.toNat,by omega,by omega,by rw[Int.toNat_of_nonneg hblk.1,Int.toNat_of_nonneg hrow.1];exact f1⟩;have hf0L:f0∈V.of (V.all S.N) i:=List.mem_filter.2 ⟨hf0,by rw[f2,g4];simp⟩;have hne:V.of (V.all S.N) i≠[]:=λe=>by rw[e]at hf0L;cases hf0L
 have htr:=V.standOf_true _ hne;obtain⟨f,hf⟩:∃f,(V.standOf (V.of (V.all S.N) i)).1=f:=⟨_,rfl⟩;have hst:V.standOf (V.of (V.all S.N) i)=(f,true):=by rw[<- hf,<- htr]
 have hfL:f∈V.of (V.all S.N) i:=by rw[<- hf];exact V.standOf_mem htr
 obtain⟨hfa,hfi⟩:=List.mem_filter.1 hfL;have hfi:f.en.lpn=i:=eq_of_beq hfi;have hmax:=(V.stand_max _ _ rfl f0 hf0L).1;rw[hf,f2,g5]at hmax;obtain⟨b,r,hb,hr,hfr⟩:=V.mem_all.1 hfa;obtain⟨e1,e2,_⟩:=a1K hfr;rcases(h.dsc b r hb hr).fnd hoff hg.1 hfr with⟨a',ha',hlt⟩ | ⟨⟨w',a',hw',ha',hcs⟩,hmf,l',hev,k',hk',hsl,hen,hrd',hwh⟩
 ·rw[hfi,ha]at ha';injection ha' with ha';subst ha';omega
 ·rw[hfi,ha]at ha';injection ha' with ha';subst ha';rw[hfi,hw]at hw';injection hw' with hw';subst hw';rcases hcs with hlt | ⟨c1,c2,c3,c4,c5⟩
  ·omega
  ·rw[<- c2,<- c3]at hev hrd' hwh;have hm0':L.has f.mask (i0:Nat)=true:=by
    have hall:=L.all_has S.N.dies (by omega);rcases hmf with e | ⟨d,e,hd,e'⟩
    ·rw[e,hall,decide_eq_true (by omega),decide_eq_true (by omega)];rfl
    ·rw[e',L.without_has (L.set_all S.N.dies (by omega)) (by omega),hall,decide_eq_true (by omega),decide_eq_true (by omega),decide_eq_false (by omega)];rfl
   have hmask:=g1.mask_eq hoff h.inv.dead hne0 hm0 hm0' hev;have hlen:l'.length=l.length:=by
    have x1:=hev.is.len;have x2:=g1.is.len;rw[hmask]at x1;omega
   refine⟨w,f,hw,hst,hfa,?_,by rw[e1,c2],by rw[e2,c3],hmask,⟨l,g1,k',hsl,by omega,?_⟩,?_⟩
   ·have hfe:f.en=⟨f.en.lpn,f.en.seq,f.en.role,f.en.data⟩:=rfl;rw[hfe,hfi,c1,c4,c5,<- hwk.1]
   ·have:=g1.read hoff h.inv.dead (i:=k') (by omega);rw[hmask,hsl,this]at hrd';injection hrd' with hrd' _
   ·rw[hwh];unfold gOf;rw[M2,hmask]
theorem stand_none (h:GI fd W S) (hO:S.Ok k m) {i:Int} (ha:Tb.look S.T.at_ i=none):(V.standOf (V.of (V.all S.N) i)).2=false:=by
 have hg:=hO.gd.ok.bd16;cases htr:(V.standOf (V.of (V.all S.N) i)).2 with
 | false=>rfl
 | true=>
  exfalso
  have hfL:=V.standOf_mem htr;obtain⟨hfa,hfi⟩:=List.mem_filter.1 hfL;have hfi:=eq_of_beq hfi;obtain⟨b,r,hb,hr,hfr⟩:=V.mem_all.1 hfa;rcases(h.dsc b r hb hr).fnd h.inv.lit.off hg.1 hfr with⟨a',ha',_⟩ | ⟨⟨w',a',hw',ha',_⟩,_⟩
  ·rw[hfi,ha]at ha';cases ha'
  ·rw[hfi,ha]at ha';cases ha'
theorem table (h:GI fd W S) (hO:S.Ok k m) (hlog:S.T.logical=(lgN S.N.dies S.N.blocks S.N.pages:Int)) (i:Int):
  (Tb.look S.T.at_ i=none->Tb.look (Dv.mt0 S.N).T.at_ i=none)/\
  ∀a,Tb.look S.T.at_ i=some a->∃w f a',Tb.look W i=some w/\V.standOf (V.of (V.all S.N) i)=(f,true)/\f∈V.all S.N/\f.en={w with seq:=a.seq}/\Tb.look (Dv.mt0 S.N).T.at_ i=some a'/\a'=⟨a.block,a.row,f.slot,a.mask,a.seq,w.role⟩/\(∃l,Full fd S.N a.block a.row a.mask l/\∃k:Nat,f.slot=k/\k<l.length/\l.getD k En.zero=f.en)/\f.whole=((M.look S.N (G.parity a.mask a.block a.row) a.block a.row).2==1):=by
 have h200:=W4 hO.gd.ok;have hsl:∀j:Nat,Tb.look (Dv.mt0 S.N).T.at_ (j:Int)=_:=λj=>b0l S.N (n:=lgN S.N.dies S.N.blocks S.N.pages) (by omega) j;have htOk:(Dv.mt0 S.N).T.Ok:=(Dv.Ok.mt0 hO.gd).T;have hlog0:=Dv.mt0_log hO.gd;constructor
 ·intro hn;cases hx:Tb.look (Dv.mt0 S.N).T.at_ i with
  | none=>rfl
  | some x=>
   exfalso
   have hr:=htOk.rng _ (Tb.look_mem hx);rw[hlog0]at hr;obtain⟨j,rfl⟩:=Int.eq_ofNat_of_zero_le hr.1;rw[hsl j,h.stand_none hO hn,if_neg (by simp)]at hx;cases hx
 ·intro a ha;have hr:=hO.T.rng _ (Tb.look_mem ha);rw[hlog]at hr;obtain⟨j,rfl⟩:=Int.eq_ofNat_of_zero_le hr.1;obtain⟨w,f,h1,h2,h3,h4,h5,h6,h7,h8,h9⟩:=h.stand hO ha;have hwk:=h.wok _ w h1;have hx:=hsl j;rw[h2]at hx;dsimp only at hx;rw[h4,h5,h6,h7,if_pos ⟨by omega,rfl,by
   unfold Tb.ok;show(!(decide (w.lpn<0)||decide (w.lpn>=min (max ((lgN S.N.dies S.N.blocks S.N.pages:Nat):Int) 0) 65536)||(w.role !=1&&w.role !=2&&w.role !=4)))=true;rw[hwk.1,decide_eq_false (by omega),decide_eq_false (by omega)];rcases hwk.2.role with e | ⟨e | e,_⟩<;>rw[e]<;>rfl⟩]at hx
  exact⟨w,f,_,h1,h2,h3,h4,hx,rfl,h8,h9⟩
theorem mt0 (h:GI fd W S) (hO:S.Ok k m) (hlog:S.T.logical=(lgN S.N.dies S.N.blocks S.N.pages:Int)):
  ∃W',(∀i,Tb.look W' i=Tb.look W i)/\W'.length<=W.length/\GI fd W' (Dv.mt0 S.N)/\(∀b,(Dv.mt0 S.N).t.has b=true->((Dv.mt0 S.N).t.at_ b).held=false)/\∀i a',Tb.look (Dv.mt0 S.N).T.at_ i=some a'->∃a,Tb.look S.T.at_ i=some a/\a'.block=a.block:=by
 have hg:=hO.gd.ok.bd16;have h200:=W4 hO.gd.ok;have hO0:(Dv.mt0 S.N).Ok k m:=Dv.Ok.mt0 hO.gd;have hlog0:=Dv.mt0_log hO.gd;obtain⟨t1,t2,t3⟩:=Tl.of_spec hO.gd.ok;have hhas:∀b,(Dv.mt0 S.N).t.has b=true->∃j:Nat,b=(j:Int)/\j<S.N.blocks:=λb hb=>by
  have hb:=Tl.has_iff.1 hb;have hb2:=hO0.t.b;have hb3:(Dv.mt0 S.N).N.blocks=S.N.blocks:=rfl;obtain⟨j,rfl⟩:=Int.eq_ofNat_of_zero_le hb.1;exact⟨j,rfl,by omega⟩
 have hdd:∀d:Nat,(d:Int)≠fd->L.has (Tl.of S.N).dead (d:Nat)=false:=λd hd=>by
  rw[t2];unfold Nand.deadAt;rw[Int.toNat_natCast,h.inv.dead d hd,Bool.and_false]
 have hall:=λi=>h.table hO hlog i;have hsome:∀i a',Tb.look (Dv.mt0 S.N).T.at_ i=some a'->∃a w f,Tb.look S.T.at_ i=some a/\Tb.look W i=some w/\f∈V.all S.N/\f.en={w with seq:=a.seq}/\a'=⟨a.block,a.row,f.slot,a.mask,a.seq,w.role⟩/\∃l,Full fd S.N a.block a.row a.mask l/\∃k:Nat,f.slot=k/\k<l.length/\l.getD k En.zero=f.en:=λi a' ha'=>by
  cases ha:Tb.look S.T.at_ i with
  | none=>rw[(hall i).1 ha]at ha';cases ha'
  | some a=>
   obtain⟨w,f,a2,h1,_,h3,h4,h5,h6,h7,_⟩:=(hall i).2 a ha;rw[h5]at ha';injection ha' with ha';exact⟨a,w,f,rfl,h1,h3,h4,ha'.symm.trans h6,h7⟩
 let W':List (Int×En):=(Dv.mt0 S.N).T.at_.map λx=>(x.1,(Tb.look W x.1).getD En.zero)
 have hW':∀i,Tb.look W' i=Tb.look W i:=λi=>by
  show Tb.look ((Dv.mt0 S.N).T.at_.map λx=>(x.1,(Tb.look W x.1).getD En.zero)) i=_;rw[a5g (λi=>(Tb.look W i).getD En.zero)];cases hx:Tb.look (Dv.mt0 S.N).T.at_ i with
  | some a'=>
   obtain⟨a,w,f,_,h2,_⟩:=hsome i a' hx;rw[h2];rfl
  | none=>
   rw[if_neg (by simp)];cases hw:Tb.look W i with
   | none=>rfl
   | some w=>
    obtain⟨_,a,ha,_⟩:=h.hd.each i w hw;obtain⟨_,_,a2,_,_,_,_,h5,_⟩:=(hall i).2 a ha;rw[hx]at h5;cases h5
 have hinv:Inv fd (Dv.mt0 S.N):=by
  refine⟨h.inv.lit,h.inv.dead,h.inv.plan,h.inv.flags,⟨t1,λd hd=>?_⟩,λb hb=>?_, .inl rfl,λb hb hu d hd=>?_,λi a' ha'=>?_⟩
  ·have hd:L.has (Tl.of S.N).dead d=true:=hd;obtain⟨d',rfl,_⟩:=L.has_rng hd;exact Classical.byContradiction λhne=>by rw[hdd d' hne]at hd;cases hd
  ·obtain⟨j,rfl,hj⟩:=hhas b hb;show L.set ((Tl.of S.N).at_ j).bad=true/\∀d:Int,L.has ((Tl.of S.N).at_ j).bad d=true->d=fd;rw[(t3 j hj).1];exact⟨by decide,λd hd=>by rw[L.has_zero]at hd;cases hd⟩
  ·obtain⟨j,rfl,hj⟩:=hhas b hb;have hu:((Tl.of S.N).at_ j).used=false:=hu;rw[(t3 j hj).2.2]at hu;have hmk:=(A6 (t:=(Dv.mt0 S.N).t) (b:=j) (by have:=hO0.t.d;have h3:(Dv.mt0 S.N).N.dies=S.N.dies:=rfl;omega) hb t1 (by show L.set ((Tl.of S.N).at_ j).bad=true;rw[(t3 j hj).1];decide)).2 d;rw[hmk]at hd;simp only[Bool.and_eq_true,decide_eq_true_eq,Bool.not_eq_true']at hd;have hdl:d<S.N.dies:=by have:=hO0.t.d;have h3:(Dv.mt0 S.N).N.dies=S.N.dies:=rfl;omega
   unfold a1V at hu;rw[List.any_eq_false]at hu;have:=hu d (List.mem_range.2 hdl);have hdf:L.has (Tl.of S.N).dead (d:Nat)=false:=hd.1.2;rw[hdf]at this;show(S.N.blk d ((j:Nat):Int).toNat).cells=[];rw[Int.toNat_natCast];simpa using this
  ·obtain⟨a,w,f,h1,h2,h3,h4,h5,l,h6,kk,h7,h8,h9⟩:=hsome i a' ha';subst h5;have hst:=h.inv.st i a h1;have hwk:=h.wok i w h2;refine⟨⟨l,h6,by show(0:Int)<=f.slot;omega,?_,?_,?_,?_⟩,?_,λe=>?_,⟨hst.seq.1,?_⟩⟩
   ·show f.slot.toNat<l.length;omega
   ·show(l.getD f.slot.toNat En.zero).lpn=i;rw[h7,Int.toNat_natCast,h9,h4];exact hwk.1
   ·show(l.getD f.slot.toNat En.zero).seq=a.seq;rw[h7,Int.toNat_natCast,h9,h4]
   ·show(l.getD f.slot.toNat En.zero).role=w.role;rw[h7,Int.toNat_natCast,h9,h4]
   ·have hblk:=h6.is.blk;show((Tl.of S.N).at_ a.block).used=true;obtain⟨j,hj⟩:=Int.eq_ofNat_of_zero_le hblk.1;rw[hj,(t3 j (by omega)).2.2];obtain⟨i0,hi0,hne0⟩:=a7F (fd:=fd) hg.1.1;obtain⟨x,hx,hxi⟩:=h6.is.on ((h.msk i a h1).all i0 hi0 hne0);obtain⟨tt,ht⟩:=h6.good x hx (by rw[hxi];exact hne0);unfold a1V;rw[List.any_eq_true];refine⟨i0,List.mem_range.2 hi0,?_⟩;rw[hdd i0 hne0];have hne:(S.N.blk i0 j).cells≠[]:=λe=>by
     unfold Nand.pageAt at ht;rw[hxi,hj,Int.toNat_natCast,Int.toNat_natCast,e]at ht;cases ht
    rw[decide_eq_true hne];rfl
   ·have hblk:=h6.is.blk;have e:a.block= -1:=e;omega
   ·have hnx:=V.nextOf_ge _ _ rfl f h3;have hq:f.en.seq=a.seq:=by rw[h4]
    show a.seq<max (V.nextOf (V.all S.N)) 1;omega
 have hhd:Hd (Dv.mt0 S.N) W':=by
  refine⟨?_,λi e he=>?_⟩
  ·show(Dv.mt0 S.N).T.at_.map (·.1)=((Dv.mt0 S.N).T.at_.map λx=>(x.1,(Tb.look W x.1).getD En.zero)).map (·.1);rw[List.map_map];rfl
  ·rw[hW']at he;obtain⟨h1,a,h2,h3⟩:=h.hd.each i e he;obtain⟨w,f,a',g1,g2,g3,g4,g5,g6,⟨l2,q1,kk2,q2,q3,q4⟩,_⟩:=(hall i).2 a h2;rw[he]at g1;injection g1 with g1;subst g1;subst g6;refine⟨h1,_,g5,?_⟩;show R.read S.N a.block a.row f.slot a.mask=({e with seq:=a.seq},0);rw[q2,q1.read h.inv.lit.off h.inv.dead q3,q4,g4]
 refine⟨W',hW',?_,⟨hinv,hhd,λi e he=>h.wok i e (by rw[<- hW'];exact he),λi a' ha'=>?_,λb r hb hr=>(h.dsc b r hb hr).mono (λe ⟨w,a,x1,x2,x3⟩=>?_) λe ⟨a,x1,x2⟩=>?_,h.ff⟩,λb hb=>?_,λi a' ha'=>?_⟩
 ·have h1:=T8 (K:=(Dv.mt0 S.N).T.at_.map (·.1)) (M:=W.map (·.1)) hO0.T.keys λi hi=>by
   obtain⟨x,hx,rfl⟩:=List.mem_map.1 hi;obtain⟨a,w,f,g1,_⟩:=hsome x.1 x.2 (a1a hO0.T hx);rw[<- h.hd.keys];exact List.mem_map.2 ⟨_,Tb.look_mem g1,rfl⟩
  simpa[W']using h1
 ·obtain⟨a,w,f,h1,_,_,_,h5,_⟩:=hsome i a' ha';rw[h5];exact h.msk i a h1
 ·obtain⟨w',f,a',g1,g2,g3,g4,g5,g6,_⟩:=(hall _).2 a x2;rw[x1]at g1;injection g1 with g1;subst g1;subst g6;exact⟨w,_,by rw[hW'];exact x1,g5,x3⟩
 ·obtain⟨w',f,a',g1,g2,g3,g4,g5,g6,_⟩:=(hall _).2 a x1;subst g6;exact⟨_,g5,x2⟩
 ·obtain⟨j,rfl,hj⟩:=hhas b hb;exact(t3 j hj).2.1
 ·obtain⟨a,w,f,h1,_,_,_,h5,_⟩:=hsome i a' ha';exact⟨a,h1,by rw[h5]⟩
end GI
namespace Any
variable {fd : Int} {W W' : List (Int × En)} {S U V : Dv} {c c' : Nat}
end Any
namespace Inv
variable {fd : Int} {m : Nat}
end Inv
namespace Inv
variable {fd : Int} {S : Dv} {k m : Nat} {W : List (Int × En)}
end Inv
def cur (W:List (Int×En)) (L:List En) (i:Int):List UInt8:=match L.find? (λx=>x.lpn==i)with
 | some e=>e.data
 | none=>match Tb.look W i with
  | some e=>e.data
  | none=>zeros16
structure FI (fd:Int) (W:List (Int×En)) (lg:Nat) (F:Fv):Prop where
 inv:Inv fd F.S
 hd:Hd F.S W
 wok:WOk W
 wr:∀i e,Tb.look W i=some e->e.role≠4
 log:F.S.T.logical=(lg:Int)
 lgn:F.lg=(lg:Int)
 lg2:lg<=200
 des:∀e∈F.L,FitR e/\e.role≠4/\e.lpn<(lg:Int)
 nd:(F.L.map (·.lpn)).Nodup
 off:F.off=false
theorem find_none {L:List En} {i:Int}:L.find? (λx=>x.lpn==i)=none↔i∉L.map (·.lpn):=by
 rw[List.find?_eq_none];constructor
 ·intro h hm;obtain⟨x,hx,e⟩:=List.mem_map.1 hm;exact h x hx (by simp[e])
 ·intro h x hx hb;exact h (List.mem_map.2 ⟨x,hx,by simpa using hb⟩)
theorem b1e {L:List En} (hnd:(L.map (·.lpn)).Nodup) {e:En} (he:e∈L):L.find? (λx=>x.lpn==e.lpn)=some e:=by
 induction L with
 | nil=>cases he
 | cons x L ih=>
  simp only[List.map_cons,List.nodup_cons]at hnd;rw[List.find?_cons];rcases List.mem_cons.1 he with rfl | he
  ·simp
  ·have:(x.lpn==e.lpn)=false:=by
    rw[beq_eq_false_iff_ne];intro e2;exact hnd.1 (by rw[e2];exact List.mem_map_of_mem he)
   rw[this];exact ih hnd.2 he
theorem b1m {L:List En} (hnd:(L.map (·.lpn)).Nodup) (n:Nat):J8 L (L.take n)=L.drop n:=by
 unfold J8;have hsp:L=L.take n++L.drop n:=(List.take_append_drop n L).symm;have hnd2:=hnd;rw[hsp,List.map_append,List.nodup_append]at hnd2;obtain⟨_,_,hdis⟩:=hnd2
 conv=>lhs;arg 2;rw[hsp]
 rw[List.filter_append];have h1:(L.take n).filter (λx=>!((L.take n).any λe=>e.lpn==x.lpn&&e.seq==x.seq))=[]:=by
  rw[List.filter_eq_nil_iff];intro x hx;have:((L.take n).any λe=>e.lpn==x.lpn&&e.seq==x.seq)=true:=List.any_eq_true.2 ⟨x,hx,by simp⟩;rw[this];simp
 have h2:(L.drop n).filter (λx=>!((L.take n).any λe=>e.lpn==x.lpn&&e.seq==x.seq))=L.drop n:=by
  rw[List.filter_eq_self];intro x hx;have:((L.take n).any λe=>e.lpn==x.lpn&&e.seq==x.seq)=false:=by
   rw[<- Bool.not_eq_true,List.any_eq_true];rintro⟨e,he,hb⟩;simp only[Bool.and_eq_true,beq_iff_eq]at hb;exact hdis _ (List.mem_map_of_mem he) _ (List.mem_map_of_mem hx) hb.1
  rw[this];rfl
 rw[h1,h2];rfl
theorem b3O {W:List (Int×En)} {L:List En} (hnd:(L.map (·.lpn)).Nodup) (n:Nat) (hn:n<=L.length) (i:Int):cur (M8 W L n) (L.drop n) i=cur W L i:=by
 have hdisj:∀a b,a<b->b<n->(L.getD a En.zero).lpn≠(L.getD b En.zero).lpn:=λa b hab hb e=>by
  have g1:a<L.length:=by omega
  have g2:b<L.length:=by omega
  have h3:(L.map (·.lpn))[a]? =(L.map (·.lpn))[b]?:=by
   rw[List.getElem?_map,List.getElem?_map,List.getElem?_eq_getElem g1,List.getElem?_eq_getElem g2];rw[List.getD_eq_getElem?_getD,List.getD_eq_getElem?_getD,List.getElem?_eq_getElem g1,List.getElem?_eq_getElem g2]at e;exact congrArg some e
  have:=(List.getElem?_inj (by rw[List.length_map];exact g1) hnd).1 h3;omega
 obtain⟨w1,w2⟩:=K0 (W:=W) (l:=L) n hdisj;have hsp:L=L.take n++L.drop n:=(List.take_append_drop n L).symm;have hnd2:=hnd;rw[hsp,List.map_append,List.nodup_append]at hnd2;obtain⟨hn1,hn2,hdis⟩:=hnd2
 by_cases hi:i∈(L.take n).map (·.lpn)
 ·obtain⟨e,he,rfl⟩:=List.mem_map.1 hi;have hf:=b1e hnd (List.mem_of_mem_take he);have hnone:(L.drop n).find? (λx=>x.lpn==e.lpn)=none:=find_none.2 λhm=>hdis _ hi _ hm rfl;obtain⟨j,hj,hje⟩:=List.mem_iff_getElem.1 he;rw[List.length_take]at hj;have hge:L.getD j En.zero=e:=by
   rw[List.getD_eq_getElem?_getD,List.getElem?_eq_getElem (by omega),Option.getD_some,<- hje,List.getElem_take]
  have hl:=w1 j (by omega);rw[hge]at hl;unfold cur;rw[hnone,hf];dsimp only;rw[hl]
 ·have h1:(L.take n).find? (λx=>x.lpn==i)=none:=find_none.2 hi;have h2:L.find? (λx=>x.lpn==i)=(L.drop n).find? (λx=>x.lpn==i):=by
   conv=>lhs;rw[hsp]
   rw[List.find?_append,h1];rfl
  have h3:Tb.look (M8 W L n) i=Tb.look W i:=w2 i λj hj e=>hi (List.mem_map.2 ⟨L.getD j En.zero,by
   rw[List.getD_eq_getElem?_getD,List.getElem?_eq_getElem (by omega),Option.getD_some];exact List.mem_iff_getElem.2 ⟨j,by rw[List.length_take];omega,List.getElem_take ..⟩,e⟩)
  unfold cur;rw[h2,h3]
theorem a9c {W:List (Int×En)} {L:List En} (hW:WOk W) (hr:∀i e,Tb.look W i=some e->e.role≠4) (hL:∀e∈L,FitR e/\e.role≠4):∀n,n<=L.length->WOk (M8 W L n)/\∀i e,Tb.look (M8 W L n) i=some e->e.role≠4
 | 0,_=>⟨hW,hr⟩
 | n+1,hn=>by
  obtain⟨h1,h2⟩:=a9c hW hr hL n (by omega);have hm:=hL _ (D6 (show n<L.length by omega));rw[O7];refine⟨h1.put hm.1,λi e he=>?_⟩;rw[Tb.look_put1]at he;split at he
  ·injection he with he;rw[<- he];exact hm.2
  ·exact h2 i e he
namespace FI
variable {fd : Int} {W : List (Int × En)} {lg k m : Nat} {F : Fv}
theorem ask (h:FI fd W lg F):F.ask=F:=by
 unfold Fv.ask;rw[h.inv.lit.off,h.off];have:=h.off;cases F;dsimp only at this;rw[this];rfl
theorem len (h:FI fd W lg F):F.L.length<=lg:=by
 have h1:=T8 (K:=F.L.map (·.lpn)) (M:=(List.range lg).map λi:Nat=>(i:Int)) h.nd λx hx=>by
  obtain⟨e,he,rfl⟩:=List.mem_map.1 hx;obtain⟨d1,_,d3⟩:=h.des e he;have:=d1.lpn;exact List.mem_map.2 ⟨e.lpn.toNat,List.mem_range.2 (by omega),by omega⟩
 simpa using h1
theorem get (h:FI fd W lg F) (i:Int):F.get i=(cur W F.L i,0):=by
 unfold Fv.get cur U8;cases hf:F.L.find? (λx=>x.lpn==i)with
 | some e=>rfl
 | none=>
  dsimp only;rw[if_neg Bool.false_ne_true];cases hw:Tb.look W i with
  | none=>rw[h.hd.none hw]
  | some e=>
   obtain⟨h1,a,ha,hr⟩:=h.hd.each i e hw;obtain⟨y,hy,_,_,hyr⟩:=h.inv.read ha;have hwe:=h.wok i e hw;rw[hr]at hy;have her:e.role=a.role:=by injection hy with hy;rw[<- hyr,<- hy]
   have h4:=h.wr i e hw;rw[ha];dsimp only;rcases hwe.2.role with r | ⟨r | r,hz⟩
   ·rw[if_neg (by omega),if_neg (by omega),hr];dsimp only;rw[if_neg];rintro(x | x | x)
    ·exact x rfl
    ·exact x hwe.1
    ·exact x rfl
   ·rw[if_pos (by omega),hz]
   ·exact absurd r h4
theorem read (h:FI fd W lg F) (i:Int):F.read i=if i<0\/i>=(lg:Int)then(F,zeros16,3)else(F,cur W F.L i,0):=by
 unfold Fv.read;rw[h.ask,h.off,if_neg Bool.false_ne_true,h.lgn,h.get]
end FI
theorem a7J {L:List En} {i j:Int} (h:i≠j):(L.filter λx=>!(x.lpn==j)).find? (λx=>x.lpn==i)=L.find? (λx=>x.lpn==i):=by
 induction L with
 | nil=>rfl
 | cons x L ih=>
  rw[List.filter_cons]
  by_cases e:x.lpn=j
  ·have h1:(!(x.lpn==j))=false:=by simp[e]
   have h2:(x.lpn==i)=false:=by rw[beq_eq_false_iff_ne];omega
   rw[h1,if_neg Bool.false_ne_true,ih,List.find?_cons,h2]
  ·have h1:(!(x.lpn==j))=true:=by simp[e]
   rw[h1,if_pos rfl,List.find?_cons,List.find?_cons,ih]
theorem b5M (W:List (Int×En)) (L:List En) (e:En) (i:Int):cur W (I8 L e) i=if i=e.lpn then e.data else cur W L i:=by
 unfold cur I8;rw[List.find?_append]
 by_cases h:i=e.lpn
 ·subst h;have h1:(L.filter λx=>!(x.lpn==e.lpn)).find? (λx=>x.lpn==e.lpn)=none:=by
   rw[List.find?_eq_none];intro x hx hb;have:=(List.mem_filter.1 hx).2;rw[hb]at this;cases this
  rw[h1,if_pos rfl];simp
 ·rw[a7J h,if_neg h];have h2:[e].find? (λx=>x.lpn==i)=none:=by
   rw[List.find?_eq_none];intro x hx hb;simp at hx;subst hx;exact h (eq_of_beq hb).symm
  rw[h2,Option.or_none]
namespace FI
variable {fd : Int} {W : List (Int × En)} {lg k m : Nat} {F : Fv}
theorem put (h:FI fd W lg F) {e:En} (he:FitR e/\e.role≠4/\e.lpn<(lg:Int)):FI fd W lg (F.put e)/\∀i,cur W (F.put e).L i=if i=e.lpn then e.data else cur W F.L i:=by
 refine⟨⟨h.inv,h.hd,h.wok,h.wr,h.log,h.lgn,h.lg2,λx hx=>?_,?_,h.off⟩,λi=>b5M W F.L {e with seq:=F.nx} i⟩
 ·have hx:x∈(F.L.filter λy:En=>!(y.lpn==e.lpn))++[({e with seq:=F.nx}:En)]:=hx;rcases List.mem_append.1 hx with hx | hx
  ·exact h.des x (List.mem_filter.1 hx).1
  ·simp at hx;rw[hx];exact⟨⟨he.1.lpn,he.1.role,he.1.len⟩,he.2.1,he.2.2⟩
 ·show(((F.L.filter λy:En=>!(y.lpn==e.lpn))++[({e with seq:=F.nx}:En)]).map (·.lpn)).Nodup;rw[List.map_append,List.nodup_append];refine⟨List.Nodup.sublist ((List.filter_sublist (p:=λx:En=>!(x.lpn==e.lpn)) (l:=F.L)).map (·.lpn)) h.nd,by simp,λa ha b hb hab=>?_⟩;obtain⟨x,hx,rfl⟩:=List.mem_map.1 ha;simp at hb;have:=(List.mem_filter.1 hx).2;rw[hab,hb]at this;simp at this
def costW:Nat:=Dv.costM+8*Dv.fuel
end FI
theorem b5Q (D B P:Nat):V.all (Nand.new D B P)=[]:=by
 unfold V.all;rw[List.flatMap_eq_nil_iff];intro b _;rw[List.flatMap_eq_nil_iff];intro r _;refine b1s λd=>?_;have:=a8A (N:=Nand.new D B P) (d:=(d:Nat)) (b:=(b:Nat)) (r:=(r:Nat)) (Nat.zero_le _);omega
theorem a9H (N:Nand) (n:Int):∀k,V.goS N [] n k=⟨Tb.new n,[],[],[]⟩
 | 0=>rfl
 | k+1=>by
  rw[V.goS_succ,a9H N n k];unfold V.step;rw[if_neg];show¬(V.standOf (V.of [] k)).2=true;rw[show V.of [] (k:Int)=[]from rfl,V.standOf_nil];exact Bool.false_ne_true
theorem b2d (D B P:Nat) (n:Int):V.scan (Nand.new D B P) n=⟨Tb.new n,[],0,[],1,0⟩:=by
 unfold V.scan V.scanOf;rw[b5Q,a9H];have h1:n8 (J2 [])=[]:=a1B;dsimp only;rw[h1];rfl
theorem b2c {t:Tl} (hl:t.l.length=t.b) (k:Int):t.set k (t.at_ k)=t:=by
 unfold Tl.set;split
 ·rename_i h;have hk:=Tl.get_at hl h;have:t.l.set k.toNat (t.at_ k)=t.l:=by
   apply List.ext_getElem?;intro i;rw[List.getElem?_set];split
   ·rename_i e;subst e;rw[hk];split
    ·rfl
    ·rename_i h2;rw[List.getElem?_eq_none (by omega)]at hk;cases hk
   ·rfl
  rw[this]
 ·rfl
theorem a8U (D B P:Nat) (b:Int):(Tl.new D B P).at_ b=Sb.zero:=by
 unfold Tl.new Tl.at_;dsimp only;rw[List.getD_eq_getElem?_getD,List.getElem?_replicate];split<;>rfl
theorem b4Y (D B P:Nat) (b d:Nat):Tl.ofD (Nand.new D B P) b (Tl.new D B P) d=Tl.new D B P:=by
 have hw:(Nand.new D B P).wornAt d b=0:=by unfold Nand.wornAt;split<;>rfl
 have hn:(Nand.new D B P).next d b=0:=by unfold Nand.next;split<;>rfl
 have h1:(Tl.new D B P).wore b 0=Tl.new D B P:=by
  have h2:=b2c (t:=Tl.new D B P) (by show(List.replicate B Sb.zero).length=B;rw[List.length_replicate]) (b:Int);unfold Tl.wore;rw[a8U]at h2 ⊢;exact h2
 unfold Tl.ofD;dsimp only;rw[hw,hn,h1,if_neg];simp
theorem b6F (D B P:Nat):Tl.of (Nand.new D B P)=Tl.new D B P:=by
 have hd:Dv.seeDead (Nand.new D B P) (Tl.new D B P)=Tl.new D B P:=a3f λi=>by
  show(List.replicate D false).getD i false=false;rw[List.getD_eq_getElem?_getD,List.getElem?_replicate];split<;>rfl
 have h1:∀(b:Nat) (q:List Nat),q.foldl (Tl.ofD (Nand.new D B P) b) (Tl.new D B P)=Tl.new D B P:=by
  intro b q
  induction q with
  | nil=>rfl
  | cons d q ih=>rw[List.foldl_cons,b4Y,ih]
 have h2:∀q:List Nat,q.foldl (Tl.ofB (Nand.new D B P)) (Tl.new D B P)=Tl.new D B P:=by
  intro q
  induction q with
  | nil=>rfl
  | cons b q ih=>
   rw[List.foldl_cons];have:Tl.ofB (Nand.new D B P) (Tl.new D B P) b=Tl.new D B P:=h1 b _;rw[this,ih]
 unfold Tl.of;rw[show(Nand.new D B P).dies=D from rfl,show(Nand.new D B P).blocks=B from rfl,show(Nand.new D B P).pages=P from rfl,hd,h2]
theorem b2h {D B P k m:Nat} {lg:Int} (hO:(Dv.new D B P lg).Ok k m):(Dv.new D B P lg).clear=(Dv.new D B P lg,0)/\(Dv.new D B P lg).room=(Dv.new D B P lg,0):=by
 have hg:=hO.gd.ok.bd16;have hg:(3<=D/\D<=6)/\(8<=B/\B<=16)/\(2<=P/\P<=8):=hg;have hsp:f8 (i9 (Dv.new D B P lg).t (Dv.new D B P lg).T) (Dv.new D B P lg).op (Dv.new D B P lg).t.b=[]:=V4 _ λx hx=>by
  have hx:x<B:=hx;unfold i9 Tl.blank;rw[show(Dv.new D B P lg).t=Tl.new D B P from rfl,a8U,Tl.has_iff.2 (show 0<=(x:Int)/\(x:Int)<(Tl.new D B P).b by show 0<=(x:Int)/\(x:Int)<(B:Int);omega)];simp[Sb.zero]
 have hc:(Dv.new D B P lg).clear=(Dv.new D B P lg,0):=by
  unfold Dv.clear Dv.clearX;rw[hsp];rfl
 have hfr:((Dv.new D B P lg).free:Int)>4:=by
  have h1:=(Inv.new (-1) D B P lg).free_len (k:=k) (m:=m) hO;have h2:(Dv.new D B P lg).t.blanks=B:=by
   show(List.replicate B Sb.zero).countP _=B;rw[List.countP_replicate];rfl
  have h1:(Dv.new D B P lg).free=(Dv.new D B P lg).t.blanks:=h1;omega
 refine⟨hc,?_⟩;unfold Dv.room;rw[hc,if_neg (by simp)];obtain⟨c,hc2⟩:∃c,(Dv.new D B P lg).t.b=c+1:=⟨(Dv.new D B P lg).t.b-1,by show B=B-1+1;omega⟩;rw[hc2];show Dv.roomGo (c+1) (Dv.new D B P lg)=_;unfold Dv.roomGo;rw[if_pos hfr]
theorem a5a {D B P k m:Nat} (hO:(Dv.new D B P (lgN D B P)).Ok k m):s9 (Nand.new D B P)=(Dv.new D B P (lgN D B P),0):=by
 obtain⟨c1,c2⟩:=b2h hO;unfold s9;rw[show(Nand.new D B P).dies=D from rfl,show(Nand.new D B P).blocks=B from rfl,show(Nand.new D B P).pages=P from rfl,b2d,b6F];have e:(⟨Nand.new D B P,Tl.new D B P,Tb.new (lgN D B P),-1,0,0,max 1 1⟩:Dv)=Dv.new D B P (lgN D B P):=rfl;dsimp only;rw[e];have h1:(Dv.new D B P (lgN D B P)).holds [] true=Dv.new D B P (lgN D B P):=rfl;have h2:(Dv.new D B P (lgN D B P)).holds [] false=Dv.new D B P (lgN D B P):=rfl;have h3:(Dv.new D B P (lgN D B P)).torn []=(Dv.new D B P (lgN D B P),0):=rfl;rw[h1,List.take_nil,List.drop_nil,h3];dsimp only;rw[if_neg (by simp),h2,c1];dsimp only;rw[if_neg (by simp),h3];dsimp only;rw[if_neg (by simp)];exact c2
theorem FI.new (fd:Int) {D B P:Nat} (hD:3<=D/\D<=6) (hB:8<=B/\B<=16) (hP:2<=P/\P<=8) (hlg:lgN D B P<=200):FI fd [] (lgN D B P) (Fv.of (Dv.new D B P (lgN D B P))):=
 ⟨Inv.new fd D B P _,⟨rfl,λ_ _ he=>(by cases he)⟩,λ_ _ he=>(by cases he),λ_ _ he=>(by cases he),(by
  show min (max ((lgN D B P:Nat):Int) 0) 65536=_;omega),rfl,hlg,λ_ he=>(by cases he),List.nodup_nil,rfl⟩
namespace Rmy
variable {fd : Int} {S : Dv} {k m β : Nat} {W : List (Int × En)}
theorem pens {E:List En} (h:Rmy fd W S) (hO:S.Ok (8*Dv.fuel+k) m) (hot:Hot2 fd S β) (hr:β<S.rows) (hf:∀e∈E,FitR e) (hl0:E.length≠0) (hnd:(E.map (·.lpn)).Nodup) (hlg:∀e∈E,e.lpn<S.T.logical) (hcap:2*S.T.logical.toNat<=(S.N.blocks-5)*(S.N.pages*(S.N.dies-2))+1) (hnx:S.next<=1099511627775-1200):
  ∃(V:Dv) (n β':Nat),S.pen E=(V,(n:Int),(0:Int))/\1<=n/\n<=E.length/\Rmy fd (M8 W E n) V/\V.Ok k m/\Hot2 fd V β'/\β'<=β/\S.rows+β'<=V.rows+1+β/\S.next<=V.next/\V.next<=S.next+14/\V.N.dead=S.N.dead/\V.N.broken=S.N.broken/\S.N.Like V.N/\V.T.logical=S.T.logical:=by
 obtain⟨V,n,γ,p1,p2,p3,p4⟩:=h.inv.pen_step (E:=E) hO hot hr hf hl0 hnd hlg hnx h.hd;obtain⟨g1,g2⟩:=p2.hot β hot;have hrw:=p2.rows;have hn:=p2.n1;have hlen:(M8 W E n).length=V.T.at_.length:=by
  have:=congrArg List.length p4.keys;simpa using this.symm
 have hal:=b3X p3.T;obtain⟨w1,_⟩:WOk (M8 W E n)/\True:=by
  refine⟨?_,trivial⟩;have:∀j,j<=E.length->WOk (M8 W E j):=by
   intro j
   induction j with
   | zero=>intro _;exact h.wok
   | succ j ih=>
    intro hj;rw[O7];exact(ih (by omega)).put (hf _ (D6 (by omega)))
  exact this n hn
 refine⟨V,n,β-γ,p1,p2.n3,p2.n1,⟨p2.inv,p4,w1,λb hb=>by rw[p2.has]at hb;rw[(p2.sb b hb).1];exact h.held b hb,λhd i j=>by rw[(p2.flags i j).2];exact h.ff (λi=>by rw[<- p2.dead];exact hd i) i j,?_⟩,p3,g2,by omega,by omega,p2.next.1,p2.next.2,p2.dead,p2.broken,p2.like,p2.logical⟩;rw[p2.like.blocks,p2.like.pages,p2.like.dies,hlen];rw[p2.logical]at hal;omega
end Rmy
theorem GI.new (fd:Int) (D B P:Nat) (lg:Int):GI fd [] (Dv.new D B P lg):=
 ⟨Inv.new _ _ _ _ _,⟨rfl,λi e he=>(by cases he)⟩,λi e he=>(by cases he),λi a ha=>(by cases ha),λb r _ _=> .none λd c hc=>(by
  have:(Dv.new D B P lg).N.pageAt d b r=none:=by show(Nand.new D B P).pageAt d b r=none;unfold Nand.pageAt Nand.new;simp
  rw[this]at hc;cases hc),λ_ _ _=>rfl⟩
structure FC (W:List (Int×En)) (lg:Nat) (F:Fv):Prop where
 fi:FI (-1) W lg F
 rmy:Rmy (-1) W F.S
 no:NoF F.S
 rows:5*F.S.N.pages<=F.S.rows+1
 cap:2*lg<=(F.S.N.blocks-5)*(F.S.N.pages*(F.S.N.dies-2))+1
 gi:GI (-1) W F.S
namespace FC
variable {W : List (Int × En)} {lg k m : Nat} {F : Fv}
theorem writes (h:FC W lg F) (hO:F.S.Ok (Dv.costM+(8*Dv.fuel+k)) m) (hnx:F.S.next<=1099511627775-30000000) (hl0:F.L.length≠0):
  ∃(F':Fv) (W':List (Int×En)),F.writes=(F',0)/\FC W' lg F'/\(∀i,cur W' F'.L i=cur W F.L i)/\F'.S.Ok k m/\F'.S.next<=F.S.next+7000/\F'.nx=F.nx/\F'.S.N.broken=F.S.N.broken/\F.S.N.Like F'.S.N/\F'.L.length<F.L.length:=by
 have hg:=hO.gd.ok.bd16;have htb:=hO.t.b;obtain⟨V,β',v1,v2,v3,v4,v5,v6,v7,v8,v9,v10,v11,v12,v13⟩:=h.rmy.room (k:=8*Dv.fuel+k) (hO.less (by
  have:Dv.costR*F.S.t.b<=Dv.costR*16:=Nat.mul_le_mul_left _ (by omega);unfold Dv.costM;omega)) (.calm h.no) (by have:=h.rows;omega) (by omega) (by omega)
 obtain rfl:β'=0:=by omega
 have hmany:=v2.many v3 v4;obtain⟨hg1,hg2⟩:=h.gi.room (k:=8*Dv.fuel+k) hO (.calm h.no) (by have:=h.fi.log;have:=h.fi.lg2;omega) (by omega);rw[v1]at hg1 hg2;have hg1:GI (-1) W V:=hg1;have hg2:Hot2 (-1) V 0:=hg2;have hp:=v11.pages;have hlog:=h.fi.log;have hcap:2*V.T.logical.toNat<=(V.N.blocks-5)*(V.N.pages*(V.N.dies-2))+1:=by
  have:=h.cap;rw[v12,hlog,v11.blocks,v11.pages,v11.dies];omega
 obtain⟨U,n,β2,u1,u2,u3,u4,u5,u6,u7,u8,u9,u10,u11,u12,u13,u14⟩:=v2.pens (E:=F.L) v3 v6 (by omega) (λe he=>(h.fi.des e he).1) hl0 h.fi.nd (λe he=>by rw[v12,hlog];exact(h.fi.des e he).2.2) hcap (by omega);obtain rfl:β2=0:=by omega
 have hgi:GI (-1) (M8 W F.L n) U:=by
  rcases hg1.pen v3 hg2 (λe he=>(h.fi.des e he).1) hl0 h.fi.nd (λe he=>by rw[v12,hlog];exact(h.fi.des e he).2.2) (by omega)with⟨_,hr0⟩ | ⟨U2,n2,q1,_,_,q2,_⟩
  ·omega
  ·rw[u1]at q1;injection q1 with q3 q4;injection q4 with q4 _;have q4:n=n2:=by omega
   rw[q3,q4];exact q2
 obtain⟨w1,w2⟩:=a9c h.fi.wok h.fi.wr (λe he=>⟨(h.fi.des e he).1,(h.fi.des e he).2.1⟩) n u3;have hUno:NoF U:=u6.nof;have hlk:F.S.N.Like U.N:=v11.trans u13;have hwr:F.writes=({F with S:=U,L:=F.L.drop n}.told 0,0):=by
  unfold Fv.writes;rw[v1];dsimp only;rw[if_neg (by decide),u1];dsimp only;rw[Int.toNat_natCast,b1m h.fi.nd]
 refine⟨_,M8 W F.L n,hwr,⟨⟨u4.inv,u4.hd,w1,w2,u14.trans (v12.trans hlog),?_,h.fi.lg2,λx hx=>h.fi.des x (List.mem_of_mem_drop hx),?_,?_⟩,u4,hUno,?_,?_,hgi⟩,b3O h.fi.nd n u3,u5,?_,rfl,u12.trans v10,hlk,?_⟩
 ·have:=h.fi.lgn;unfold Fv.lg at this ⊢;show((lgN U.N.dies U.N.blocks U.N.pages:Nat):Int)=_;rw[hlk.dies,hlk.blocks,hlk.pages];exact this
 ·show((F.L.drop n).map (·.lpn)).Nodup;rw[List.map_drop];exact h.fi.nd.sublist (List.drop_sublist _ _)
 ·show(F.off||(0:Int)==9)=false;rw[h.fi.off];rfl
 ·show 5*U.N.pages<=U.rows+1;rw[u13.pages];omega
 ·show 2*lg<=(U.N.blocks-5)*(U.N.pages*(U.N.dies-2))+1;rw[hlk.blocks,hlk.pages,hlk.dies];exact h.cap
 ·show U.next<=_;omega
 ·show(F.L.drop n).length<_;rw[List.length_drop];omega
theorem put (h:FC W lg F) {e:En} (he:FitR e/\e.role≠4/\e.lpn<(lg:Int)):FC W lg (F.put e)/\∀i,cur W (F.put e).L i=if i=e.lpn then e.data else cur W F.L i:=by
 obtain⟨h1,h2⟩:=h.fi.put he;exact⟨⟨h1,h.rmy,h.no,h.rows,h.cap,h.gi⟩,h2⟩
theorem slots (h:FC W lg F) (hO:F.S.Ok k m):1<=F.S.slots:=by
 have hg:=hO.gd.ok.bd16;exact(h.fi.inv.slots_pos hO (by have:=h.rows;omega)).2
theorem waits (h:FC W lg F) (hO:F.S.Ok (Dv.costM+(8*Dv.fuel+k)) m) (hnx:F.S.next<=1099511627775-30000000) {e:En} (he:FitR e/\e.role≠4/\e.lpn<(lg:Int)):
  ∃(F':Fv) (W':List (Int×En)),F.waits e=(F',0)/\FC W' lg F'/\(∀i,cur W' F'.L i=if i=e.lpn then e.data else cur W F.L i)/\F'.S.Ok k m/\F'.S.next<=F.S.next+7000/\F'.S.N.broken=F.S.N.broken/\F.S.N.Like F'.S.N:=by
 have hlp:=he.1.lpn;unfold Fv.waits;rw[h.fi.ask,h.fi.off,if_neg Bool.false_ne_true,h.fi.lgn,if_neg (by omega)]
 by_cases hs:(F.L.length:Int)>=F.S.slots
 ·rw[if_pos hs];have h1:=h.slots (hO.less (Nat.le_refl _));obtain⟨G,W',w1,w2,w3,w4,w5,_,w6,w7,_⟩:=h.writes hO hnx (by omega);rw[w1];dsimp only;rw[if_neg (by decide)];obtain⟨p1,p2⟩:=w2.put he;exact⟨_,W',rfl,p1,λi=>by rw[p2,w3],w4,w5,w6,w7⟩
 ·rw[if_neg hs];obtain⟨p1,p2⟩:=h.put he;exact⟨_,W,rfl,p1,p2,hO.less (by omega),by show F.S.next<=_;omega,rfl,Nand.Like.refl _⟩
theorem flush_go:∀(f:Nat) (F:Fv) (W:List (Int×En)) (k:Nat),FC W lg F->F.S.Ok (FI.costW*f+k) m->F.L.length<=f->F.S.next+7000*(f:Int)<=1099511627775-30000000->
  ∃(F':Fv) (W':List (Int×En)),Fv.flushGo f F=(F',0)/\FC W' lg F'/\F'.S.Ok k m/\F'.S.next<=F.S.next+7000*(f:Int)/\F'.S.N.broken=F.S.N.broken/\F.S.N.Like F'.S.N/\F'.L=[]/\∀i,cur W' F'.L i=cur W F.L i
 | 0,F,W,k,h,hO,hL,_=>⟨F,W,rfl,h,hO.less (by omega),by omega,rfl,Nand.Like.refl _,List.eq_nil_of_length_eq_zero (by omega),λ_=>rfl⟩
 | f+1,F,W,k,h,hO,hL,hnx=>by
  rw[Fv.flushGo]
  by_cases hl0:F.L.length=0
  ·rw[if_pos hl0];exact⟨F,W,rfl,h,hO.less (by omega),by omega,rfl,Nand.Like.refl _,List.eq_nil_of_length_eq_zero hl0,λ_=>rfl⟩
  ·rw[if_neg hl0];rw[Nat.mul_succ]at hO;obtain⟨G,W',w1,w2,w3,w4,w5,_,w6,w7,w8⟩:=h.writes (k:=FI.costW*f+k) (hO.less (by unfold FI.costW;omega)) (by omega) hl0;rw[w1];dsimp only;rw[if_neg (by decide)];obtain⟨F',W2,r1,r2,r3,r4,r5,r6,r7,r8⟩:=flush_go f G W' k w2 w4 (by omega) (by omega);exact⟨F',W2,r1,r2,r3,by omega,r5.trans w6,w7.trans r6,r7,λi=>(r8 i).trans (w3 i)⟩
theorem flush (h:FC W lg F) (hO:F.S.Ok (FI.costW*200+k) m) (hnx:F.S.next<=1099511627775-50000000):
  ∃(F':Fv) (W':List (Int×En)),F.flush=(F',0)/\FC W' lg F'/\F'.S.Ok k m/\F'.S.next<=F.S.next+1400000/\F'.S.N.broken=F.S.N.broken/\F.S.N.Like F'.S.N/\F'.L=[]/\∀i,cur W' F'.L i=cur W F.L i:=by
 unfold Fv.flush;rw[h.fi.ask,h.fi.off,if_neg Bool.false_ne_true];have hl:=h.fi.len;have h2:=h.fi.lg2;have hm:FI.costW*F.L.length<=FI.costW*200:=Nat.mul_le_mul_left _ (by omega);obtain⟨F',W',r1,r2,r3,r4,r5⟩:=flush_go F.L.length F W k h (hO.less (by omega)) (Nat.le_refl _) (by omega);exact⟨F',W',r1,r2,r3,by omega,r5⟩
theorem new {D B P:Nat} (hD:3<=D/\D<=6) (hB:8<=B/\B<=16) (hP:2<=P/\P<=8) (hlg:lgN D B P<=200) (hcap:2*lgN D B P<=(B-5)*(P*(D-2))+1):FC [] (lgN D B P) (Fv.of (Dv.new D B P (lgN D B P))):=by
 refine⟨FI.new (-1) hD hB hP hlg,⟨Inv.new _ _ _ _ _,⟨rfl,λi e he=>(by cases he)⟩,λi e he=>(by cases he),λb _=>?_,λ_ _ _=>rfl,by simp⟩,NoF.new _ _ _ _,?_,hcap,GI.new _ _ _ _ _⟩
 ·show((Tl.new D B P).at_ b).held=false;rw[a8U];rfl
 ·show 5*P<=(Dv.new D B P (lgN D B P)).rows+1;rw[b0p];have:P*8<=P*B:=Nat.mul_le_mul_left _ hB.1;omega
end FC
theorem V.goS_none {N:Nand} {L:List Fnd} (h:∀i:Nat,(V.standOf (V.of L i)).2=true->(V.standOf (V.of L i)).1.whole=true) (n:Int):∀k,(V.goS N L n k).torn=[]/\(V.goS N L n k).others=[]/\(V.goS N L n k).held=[]
 | 0=>⟨rfl,rfl,rfl⟩
 | k+1=>by
  have ih:=V.goS_none (N:=N) h n k;rw[V.goS_succ];unfold V.step;split
  ·rename_i hs;rw[if_pos (h k hs)];exact ih
  ·exact ih
theorem V.nextOf_le {c:Int} (hc:1<=c):∀(n:Nat) (l:List Fnd),l.length=n->(∀f∈l,f.en.seq+1<=c)->V.nextOf l<=c
 | 0,l,hl,_=>by rw[List.eq_nil_of_length_eq_zero hl];exact hc
 | n+1,l,hl,h=>by
  obtain⟨l',x,rfl⟩:∃l' x,l=l'++[x]:=⟨l.dropLast,l.getLast (λe=>by rw[e]at hl;cases hl),(List.dropLast_concat_getLast _).symm⟩;have hl':l'.length=n:=by simpa using hl
  rw[V.nextOf_snoc];have h1:=V.nextOf_le hc n l' hl' λf hf=>h f (List.mem_append_left _ hf);have h2:=h x (by simp);omega
theorem a1r {t:Tl} (hl:t.l.length=t.b):t.blanks=(List.range t.b).countP λi:Nat=>!(t.at_ (i:Nat)).used:=by
 unfold Tl.blanks Tl.at_;rw[Inv.countP_range_get _ Sb.zero,hl];simp
namespace GI
variable {fd : Int} {W : List (Int × En)} {S : Dv} {k m : Nat}
theorem next_le (h:GI fd W S) (hO:S.Ok k m):(Dv.mt0 S.N).next<=max S.next 1:=by
 have hg:=hO.gd.ok.bd16;have h1:=V.nextOf_le (c:=max S.next 1) (by omega) _ _ rfl λf hf=>by
  obtain⟨b,r,hb,hr,hfr⟩:=V.mem_all.1 hf;rcases(h.dsc b r hb hr).fnd h.inv.lit.off hg.1 hfr with⟨a,ha,hlt⟩ | ⟨⟨w,a,_,ha,hlt⟩,_⟩
  ·have:=(h.inv.st _ a ha).seq;omega
  ·have:=(h.inv.st _ a ha).seq;omega
 show max (V.nextOf (V.all S.N)) 1<=_;omega
theorem rows_mt {V:Dv} (h:GI fd W S) (hO:S.Ok k m) (hlog:S.T.logical=(lgN S.N.dies S.N.blocks S.N.pages:Int)) (hV:V.Ok k m) (hI:Inv fd V) (hT:V.T=(Dv.mt0 S.N).T) (hop:V.op= -1) (hlk:S.N.Like V.N) (hheld:∀b,V.t.has b=true->(V.t.at_ b).held=false) (hsp:f8 (i9 V.t V.T) V.op V.t.b=[]):S.rows<=V.rows+S.N.pages:=by
 obtain⟨W',_,_,hG,_,hblk⟩:=h.mt0 hO hlog;have hb1:=hO.t.b;have hb2:=hV.t.b;have hb3:=hlk.blocks;have hrow:=hO.row;have hbl:S.t.blanks<=V.t.blanks:=by
  rw[a1r hO.t.len,a1r hV.t.len,show V.t.b=S.t.b from by omega];refine List.countP_mono_left λx hx hu=>?_;have hx:=List.mem_range.1 hx;have hhas:S.t.has (x:Int)=true:=Tl.has_iff.2 (by omega);have hhasV:V.t.has (x:Int)=true:=Tl.has_iff.2 (by omega);cases huV:(V.t.at_ (x:Nat)).used with
  | false=>rfl
  | true=>
   exfalso
   have hc:¬V.T.count (x:Int)=0:=λhc=>by
    have:(x:Int)∈f8 (i9 V.t V.T) V.op V.t.b:=mem_pkSome.2 ⟨by omega,by omega,by omega,by
     unfold i9;rw[hI.usable hV hhasV,hc];unfold Tl.blank Tl.held;rw[hhasV,huV,hheld _ hhasV];rfl⟩
    rw[hsp]at this;cases this
   have hcn:=hV.T.cnt (x:Int);obtain⟨y,hy,hyb⟩:=List.countP_pos_iff.1 (show 0<V.T.at_.countP λz=>z.2.block==(x:Int)by unfold Tb.cntB at hcn;omega);have hl:=a1a hV.T hy;rw[hT]at hl;obtain⟨a,ha,hab⟩:=hblk _ _ hl;have hus:=(h.inv.st _ a ha).used;rw[<- hab,show y.2.block=(x:Int)from by simpa using hyb]at hus;rw[hus]at hu;cases hu
 unfold Dv.rows;rw[hop,if_neg (show¬(-1:Int)>=0 by decide),hlk.pages];have:=Nat.mul_le_mul_left S.N.pages hbl;split<;>omega
theorem mounted (h:GI fd W S) (hR:Rmy fd W S) (hO:S.Ok (Dv.costK+k) m) (hlog:S.T.logical=(lgN S.N.dies S.N.blocks S.N.pages:Int)) (hwh:∀i a,Tb.look S.T.at_ i=some a->(M.look S.N (G.parity a.mask a.block a.row) a.block a.row).2=1) (hot:Hot2 fd (Dv.mt0 S.N) 0) (hr:4*S.N.pages<=S.rows) (hnx:S.next<=1099511627775-30000000):
  ∃V W',s9 S.N=(V,0)/\(∀i,Tb.look W' i=Tb.look W i)/\GI fd W' V/\Rmy fd W' V/\Hot2 fd V 0/\V.Ok k m/\(V.free:Int)>4/\V.next<=S.next+6401/\V.N.dead=S.N.dead/\V.N.broken=S.N.broken/\S.N.Like V.N/\V.T.logical=S.T.logical:=by
 have hg:=hO.gd.ok.bd16;have hO1:S.Ok (96+(Dv.costM+k)) m:=hO.less (by unfold Dv.costK;omega);have hn1:=hO.next;have hnle:=h.next_le hO;obtain⟨W',w1,w2,w3,w4,w5⟩:=h.mt0 hO1 hlog;have hlog0:=Dv.mt0_log hO.gd;have hR0:Rmy fd W' (Dv.mt0 S.N):=⟨w3.inv,w3.hd,w3.wok,w4,w3.ff,by have:=hR.cap;show 2*W'.length<=(S.N.blocks-5)*(S.N.pages*(S.N.dies-2))+1;omega⟩;have hO0:(Dv.mt0 S.N).Ok (96+(Dv.costM+k)) m:=Dv.Ok.mt0 hO1.gd;have hall:∀i:Nat,(V.standOf (V.of (V.all S.N) i)).2=true->(V.standOf (V.of (V.all S.N) i)).1.whole=true:=λi hs=>by
  cases ha:Tb.look S.T.at_ (i:Int)with
  | none=>rw[h.stand_none hO ha]at hs;cases hs
  | some a=>
   obtain⟨w,f,_,g2,_,_,_,_,_,_,g9⟩:=h.stand hO ha;rw[g2];show f.whole=true;rw[g9,hwh _ a ha];rfl
 obtain⟨s1,s2,s3⟩:=V.goS_none (N:=S.N) hall (lgN S.N.dies S.N.blocks S.N.pages) (V.size (lgN S.N.dies S.N.blocks S.N.pages));have hs1:(V.scan S.N (lgN S.N.dies S.N.blocks S.N.pages)).torn=[]:=by
  show(V.goS S.N (V.all S.N) (lgN S.N.dies S.N.blocks S.N.pages) (V.size (lgN S.N.dies S.N.blocks S.N.pages))).torn++(V.goS S.N (V.all S.N) (lgN S.N.dies S.N.blocks S.N.pages) (V.size (lgN S.N.dies S.N.blocks S.N.pages))).others=[];rw[s1,s2];rfl
 have hs2:(V.scan S.N (lgN S.N.dies S.N.blocks S.N.pages)).held=[]:=by
  show a3A (V.goS S.N (V.all S.N) (lgN S.N.dies S.N.blocks S.N.pages) (V.size (lgN S.N.dies S.N.blocks S.N.pages))).held=[];rw[s3];exact a1B
 obtain⟨U,u1,u2,u3,u4,_,u6,u7,_,u9,u10,u11,u12,u13,u14,u15⟩:=hR0.clear (β:=0) hO0;have hU0:=w3.clear hO0;obtain⟨U',x1,x2,_⟩:=hU0;rw[u1]at x1;injection x1 with x1 _;subst x1;have hUlog:U.T.logical=(lgN S.N.dies S.N.blocks S.N.pages:Int):=by rw[u6];exact hlog0
 have hrows:=h.rows_mt (V:=U) (hO1.less (show Dv.costM+k<=_ by omega)) hlog u3 u2.inv u6 u7 u13 u2.held u4;have hUt:=u3.t.b;have hU4:=u15 hot;have hp:=u13.pages;have hb:=u13.blocks;have hb0:(Dv.mt0 S.N).N.blocks=S.N.blocks:=rfl;have hp0:(Dv.mt0 S.N).N.pages=S.N.pages:=rfl;obtain⟨V,β',v1,v2,v3,v4,v5,v6,v7,v8,v9,v10,v11,v12,v13⟩:=u2.room (k:=k) (u3.less (by
  have:Dv.costR*U.t.b<=Dv.costR*16:=Nat.mul_le_mul_left _ (by omega);unfold Dv.costM;omega)) hU4 (by omega) (by omega) (by omega)
 obtain rfl:β'=0:=by omega
 obtain⟨y1,y2⟩:=x2.room (k:=k) u3 hU4 (by rw[hUlog];have:=W4 hO.gd.ok;omega) (by omega);rw[v1]at y1 y2;have y1:GI fd W' V:=y1;have y2:Hot2 fd V 0:=y2;refine⟨V,W',?_,w1,y1,v2,v6,v3,v4,by omega,v9.trans u11,v10.trans u12,u13.trans v11,?_⟩
 ·rw[a3E];dsimp only;rw[hs1,hs2,List.take_nil,List.drop_nil];have h1:(Dv.mt0 S.N).holds [] true=Dv.mt0 S.N:=rfl;have h2:(Dv.mt0 S.N).holds [] false=Dv.mt0 S.N:=rfl;have h3:∀Z:Dv,Z.torn []=(Z,0):=λ_=>rfl;rw[h1,h3];dsimp only;rw[if_neg (by simp),h2,u1];dsimp only;rw[if_neg (by simp),h3];dsimp only;rw[if_neg (by simp),v1]
 ·rw[v12,hUlog,hlog]
end GI
theorem Full.par_good {N:Nand} {b r m:Int} {l:List En} (h:Full (-1) N b r m l) (hoff:N.off=false) (hdead:∀i:Nat,N.dead.getD i false=false):(M.look N (G.parity m b r) b r).2=1:=by
 have hx:=List.mem_of_getElem? (M2 b r m l);obtain⟨n1,n2,_⟩:=h.is.inn _ hx;obtain⟨t,ht⟩:=h.good _ hx (by omega);have hrf:N.refuses (G.parity m b r) b r=0:=by
  unfold Nand.refuses;rw[hoff,if_neg (by decide),Nand.geoIn_of ⟨n1,n2⟩ h.is.blk h.is.row,if_neg (by decide),hdead];rfl
 rw[a1b (h.is.sh _ hx).1 hrf ht]
def Nand.cyc (N:Nand):Nand:=(N.setCut (-1) 0).onN
theorem Nand.cyc_same (N:Nand) (h:N.Lit):N.Like N.cyc/\N.cyc.blk=N.blk/\N.cyc.dead=N.dead/\N.cyc.plan=N.plan/\N.cyc.broken=N.broken/\N.cyc.Lit:=by
 have e:N.cyc={N with cuts:=false,left:= -1,keep:=0,off:=false}:=by
  unfold Nand.cyc Nand.setCut Nand.onN;rw[h.off];rfl
 rw[e];exact⟨⟨rfl,rfl,rfl⟩,rfl,rfl,rfl,rfl,⟨rfl,rfl⟩⟩
theorem b0q {N N':Nand} (hl:N.Like N') (ho:N'.off=N.off) (hd:N'.dead=N.dead) (hb:N'.blk=N.blk) (b r s m:Int):R.read N' b r s m=R.read N b r s m:=by
 have hlook:∀d:Int,M.look N' d b r=M.look N d b r:=λd=>by
  have hr:N'.refuses d b r=N.refuses d b r:=by
   unfold Nand.refuses;rw[ho,hl.dies,hl.blocks,hl.pages,hd]
  have hp:N'.pageAt d b r=N.pageAt d b r:=by unfold Nand.pageAt;rw[hb]
  have h1:N'.readE d b r=N.readE d b r:=by unfold Nand.readE;rw[hr,hp]
  have h2:N'.readV d b r=N.readV d b r:=by unfold Nand.readV;rw[hr,hp]
  unfold M.look;simp only[h1,h2]
 have h2:R.look N' b r m=R.look N b r m:=by
  unfold R.look R.ones R.one;simp only[hlook]
 unfold R.read;rw[h2,hl.dies,hl.blocks,hl.pages,ho]
namespace FC
variable {W : List (Int × En)} {lg k m : Nat} {F : Fv}
theorem Inv.cyc {fd:Int} {S:Dv} (h:Inv fd S):Inv fd {S with N:=S.N.cyc}:=by
 obtain⟨c1,c2,c3,c4,c5,c6⟩:=S.N.cyc_same h.lit;refine⟨c6,λi hi=>by show S.N.cyc.dead.getD i false=false;rw[c3];exact h.dead i hi,λa ha=>h.plan a (by rw[<- c4];exact ha),λi j hi=>by show(S.N.cyc.blk i j).met=false/\(S.N.cyc.blk i j).fails=false;rw[c2];exact h.flags i j hi,h.tdead,h.tbad,?_,λb hb hu d hd=>by show(S.N.cyc.blk d b.toNat).cells=[];rw[c2];exact h.blank b hb hu d hd,λi a ha=>?_⟩
 ·rcases h.op with e | e
  ·exact .inl e
  ·refine .inr ⟨by have:=e.blk;show 0<=S.op/\S.op<(S.N.cyc.blocks:Int);rw[c1.blocks];exact this,e.used,by have:=e.row;show 0<=S.row/\S.row<=(S.N.cyc.pages:Int);rw[c1.pages];exact this,by have:=e.mask;show Msk S.N.cyc.dies fd S.mask;rw[c1.dies];exact this,λd hd=>by
    show((S.N.cyc.blk d S.op.toNat).cells.length:Int)<=S.row/\(S.N.cyc.dead.getD d false=false->((S.N.cyc.blk d S.op.toNat).cells.length:Int)=S.row);rw[c2,c3];exact e.cells d hd⟩
 ·have hs:=h.st i a ha;obtain⟨l,g1,g2⟩:=hs.row;exact⟨⟨l,g1.keep c1 λx _=>(by unfold Nand.pageAt;rw[c2]),g2⟩,hs.used,hs.below,hs.seq⟩
theorem Hd.cyc {S:Dv} (h:Hd S W) (hl:S.N.Lit):Hd {S with N:=S.N.cyc} W:=by
 obtain⟨c1,c2,c3,c4,c5,c6⟩:=S.N.cyc_same hl;refine⟨h.keys,λi e he=>?_⟩;obtain⟨h1,a,h2,h3⟩:=h.each i e he;refine⟨h1,a,h2,?_⟩;show R.read S.N.cyc _ _ _ _=_;rw[b0q c1 (c6.off.trans hl.off.symm) c3 c2];exact h3
theorem GI.cyc {fd:Int} {S:Dv} (h:GI fd W S):GI fd W {S with N:=S.N.cyc}:=by
 obtain⟨c1,c2,c3,c4,c5,c6⟩:=S.N.cyc_same h.inv.lit;exact h.same c1 c2 c3 c4 c6 (Inv.cyc h.inv) (Hd.cyc h.hd h.inv.lit)
theorem again (h:FC W lg F) (hO:({F.S with N:=F.S.N.cyc}:Dv).Ok (Dv.costK+k) m) (hnx:F.S.next<=1099511627775-30000000):
  ∃V W',s9 F.S.N.cyc=(V,0)/\FC W' lg (Fv.of V)/\(∀i,cur W' [] i=cur W [] i)/\V.Ok k m/\V.next<=F.S.next+6401/\V.N.broken=F.S.N.broken/\F.S.N.Like V.N:=by
 have hg:=hO.gd.ok.bd16;obtain⟨c1,c2,c3,c4,c5,c6⟩:=F.S.N.cyc_same h.fi.inv.lit;have hG:=GI.cyc h.gi;have hR:Rmy (-1) W {F.S with N:=F.S.N.cyc}:=⟨hG.inv,hG.hd,h.rmy.wok,h.rmy.held,hG.ff,by have:=h.rmy.cap;show 2*W.length<=(F.S.N.cyc.blocks-5)*(F.S.N.cyc.pages*(F.S.N.cyc.dies-2))+1;rw[c1.blocks,c1.pages,c1.dies];exact this⟩;have hno:NoF {F.S with N:=F.S.N.cyc}:=⟨λi=>by show F.S.N.cyc.dead.getD i false=false;rw[c3];exact h.no.dead i,by show F.S.N.cyc.plan=[];rw[c4];exact h.no.plan,λi j=>by show(F.S.N.cyc.blk i j).met=false;rw[c2];exact h.no.met i j⟩;have hlg:=h.fi.lgn;have hlog:({F.S with N:=F.S.N.cyc}:Dv).T.logical=(lgN F.S.N.cyc.dies F.S.N.cyc.blocks F.S.N.cyc.pages:Int):=by
  show F.S.T.logical=_;rw[c1.dies,c1.blocks,c1.pages,h.fi.log,<- hlg];rfl
 have hrw:({F.S with N:=F.S.N.cyc}:Dv).rows=F.S.rows:=by
  unfold Dv.rows;show F.S.N.cyc.pages*F.S.t.blanks+(if F.S.op>=0 then((F.S.N.cyc.pages:Int)-F.S.row).toNat else 0)=_;rw[c1.pages]
 have hrows:=h.rows;obtain⟨V,W',v1,v2,v3,v4,v5,v6,v7,v8,v9,v10,v11,v12⟩:=hG.mounted hR hO hlog (λi a ha=>by
  obtain⟨l,g1,_⟩:=(hG.inv.st i a ha).row;exact g1.par_good c6.off hno.dead) (.calm ⟨hno.dead,hno.plan,hno.met⟩) (by show 4*F.S.N.cyc.pages<=_;rw[hrw,c1.pages];have:2<=F.S.N.cyc.pages:=hg.2.2.1;rw[c1.pages]at this;omega) hnx
 have hlk:F.S.N.Like V.N:=c1.trans v11;have hmany:=v4.many v6 v7;have hcur:∀i,cur W' [] i=cur W [] i:=λi=>by unfold cur;rw[v2]
 refine⟨V,W',v1,⟨⟨v4.inv,v4.hd,v4.wok,λi e he=>h.fi.wr i e (by rw[<- v2];exact he),v12.trans h.fi.log,?_,h.fi.lg2,λe he=>(by cases he),List.nodup_nil,rfl⟩,v4,v5.nof,by show 5*V.N.pages<=V.rows+1;omega,?_,v3⟩,hcur,v6,v8,v10.trans c5,hlk⟩
 ·unfold Fv.lg at hlg ⊢;show((lgN V.N.dies V.N.blocks V.N.pages:Nat):Int)=_;rw[hlk.dies,hlk.blocks,hlk.pages];exact hlg
 ·show 2*lg<=(V.N.blocks-5)*(V.N.pages*(V.N.dies-2))+1;rw[hlk.blocks,hlk.pages,hlk.dies];exact h.cap
end FC
end Go.Proofs.YtpohajhbfllbbaaGreat
