/- Helpers, proved here. No condition. -/
import Derived.Test.YtdocmcapegcoeaaGreatB06
import Derived.Test.YtdocmcapegcoeaaGreatB13
import Derived.Test.YtdocmcapegcoeaaGreatB14
import Derived.Test.YtdocmcapegcoeaaGreatB18
import Derived.Test.YtdocmcapegcoeaaGreatB22
import Derived.Test.YtdocmcapegcoeaaGreatB24
import Derived.Test.YtdocmcapegcoeaaGreatB25
import Derived.Test.YtdocmcapegcoeaaGreatB28
set_option maxRecDepth 20000
set_option linter.all false
namespace Go.Proofs.YtdocmcapegcoeaaGreat
open Go
namespace Inv
variable {fd : Int} {m : Nat}
end Inv
namespace Inv
variable {fd : Int} {S : Dv} {k m : Nat}
end Inv
namespace Inv
variable {fd : Int} {S : Dv} {k m : Nat}
end Inv
namespace Inv
variable {fd : Int} {S : Dv} {k m : Nat}
end Inv
namespace Inv
variable {fd : Int} {S : Dv} {k m : Nat}
end Inv
namespace Inv
variable {fd : Int} {S : Dv} {k m : Nat} {W : List (Int × En)}
end Inv
namespace Rmy
variable {fd : Int} {S : Dv} {k m β : Nat} {W : List (Int × En)}
end Rmy
namespace Rmy
variable {fd : Int} {S : Dv} {k m β : Nat} {W : List (Int × En)}
end Rmy
namespace Rmy
variable {fd : Int} {S : Dv} {k m β : Nat} {W : List (Int × En)}
end Rmy
def wI (i:Nat):List (Int×En):=(List.range i).map λj:Nat=>((j:Int),e18 j ((j:Int)+1))
theorem wI_succ (i:Nat):wI (i+1)=wI i++[((i:Int),e18 i ((i:Int)+1))]:=by unfold wI;rw[List.range_succ,List.map_append];rfl
theorem put1_new {α:Type} {k:Int} {v:α}:∀{l:List (Int×α)},k∉l.map (·.1)->Tb.put1 l k v=l++[(k,v)]
 | [],_=>rfl
 | x::l,h=>by
  simp only[List.map_cons,List.mem_cons,not_or]at h;simp only[Tb.put1];rw[if_neg h.1,put1_new h.2];rfl
theorem wI_put (i:Nat):Tb.put1 (wI i) (i:Int) (e18 i ((i:Int)+1))=wI (i+1):=by
 rw[wI_succ,put1_new];intro h;simp only[wI,List.map_map,List.mem_map,List.mem_range,Function.comp]at h;obtain⟨j,hj,e⟩:=h;omega
theorem wI_look (i:Nat):∀j:Nat,Tb.look (wI i) (j:Int)=if j<i then some (e18 j ((j:Int)+1))else none:=by
 induction i with
 | zero=>intro j;rfl
 | succ i ih=>
  intro j;rw[<- wI_put,Tb.look_put1,ih]
  by_cases h:j=i
  ·subst h;rw[if_pos rfl,if_pos (by omega)]
  ·rw[if_neg (by omega)]
   by_cases h2:j<i
   ·rw[if_pos h2,if_pos (by omega)]
   ·rw[if_neg h2,if_neg (by omega)]
theorem wI_wput (i:Nat) {E:List En}:∀n,(∀j:Nat,j<n->E.getD j En.zero=e18 ((i:Int)+j) ((i:Int)+j+1))->wput (wI i) E n=wI (i+n)
 | 0,_=>rfl
 | n+1,h=>by
  rw[wput_succ,wI_wput i n λj hj=>h j (by omega),h n (by omega),<- Nat.add_assoc,<- wI_put];have:((i+n:Nat):Int)=(i:Int)+n:=by omega
  rw[this];rfl
namespace SqC
variable {D B P count i r k m : Nat} {S : Dv}
end SqC
structure CutI (C:En->Prop) (W:List (Int×En)) (S:Dv):Prop where
 inv:Inv (-1) S
 no:NoF S
 hd:Hd S W
 msk:∀i a,Tb.look S.T.at_ i=some a->a.mask=L.all S.N.dies
 dsc:DscA C S.N
structure RestI (C:En->Prop) (W:List (Int×En)) (S:Dv) (N':Nand):Prop where
 ci:CutI C W S
 dsc:DscA C N'
 like:S.N.Like N'
 dead:N'.dead=S.N.dead
 broken:N'.broken=S.N.broken
 pages:∀i a,Tb.look S.T.at_ i=some a->∀d:Int,N'.pageAt d a.block a.row=S.N.pageAt d a.block a.row
namespace CutI
variable {C : En → Prop} {W : List (Int × En)} {S : Dv} {k m : Nat} {l : List En}
theorem pen (h:CutI C W S) (hO:S.Ok (8*Dv.fuel+k) m) (hr:0<S.rows) (hf:∀e∈l,FitR e) (hl0:l.length≠0) (hnd:(l.map (·.lpn)).Nodup) (hlg:∀e∈l,e.lpn<S.T.logical) (hnx:S.next<=1099511627775-7) (hC:∀i,i<l.length->i<S.N.dies-1->C {l.getD i En.zero with seq:=S.next+i}):
  S.pen l=(wroteP S.at1 l,(S.at1.fit l:Int),(0:Int))/\S.at1.fit l=min l.length (S.N.dies-1)/\CutI C (wput W l (S.at1.fit l)) (wroteP S.at1 l)/\(wroteP S.at1 l).Ok k m/\(wroteP S.at1 l).rows+1=S.rows/\(wroteP S.at1 l).next=S.next+(S.at1.fit l:Int)/\(wroteP S.at1 l).T.logical=S.T.logical/\S.N.Like (wroteP S.at1 l).N/\(wroteP S.at1 l).N.broken=S.N.broken/\(wroteP S.at1 l).N.dead=S.N.dead/\
  ∀(c:Nat) (kp:Int),kp<=32->(S.N.dies<=c->(S.armed c kp).pen l=((wroteP S.at1 l).armed (c-S.N.dies) kp,(S.at1.fit l:Int),(0:Int)))/\(c<S.N.dies->∃N',(S.armed c kp).pen l=({S.at1.wrote l with N:=N'},(0:Int),(9:Int))/\RestI C W S N'):=by
 have hg:=hO.gd.ok.bd16;obtain⟨p1,p2,p3,p4⟩:=h.inv.pen_calm hO h.no hr hf hl0 hnx;have hdt:∀x∈l,x.data.length=16:=λx hx=>(hf x hx).len;have hok:=Dv.pen_keep hO hdt;rw[p1]at hok;have hat:=Dv.at1_like S;have ho:=p2.inv.opn p4.left;have hms:=ho.mask;rw[hat.1]at hms;obtain⟨m1,m2⟩:=msk_all hms hg.1;have hmQ:S.at1.mask=L.all S.at1.N.dies:=by rw[hat.1];exact m1
 have hfit:S.at1.fit l=min l.length (S.N.dies-1):=by unfold Dv.fit;rw[m2];omega
 have hlgQ:∀e∈l,e.lpn<S.at1.T.logical:=λe he=>by rw[hat.2.1];exact hlg e he
 obtain⟨l1,l2⟩:=p4.look p2.inv p3 hf hlgQ hnd;have hH:=(h.hd.went h.inv p2).wrote p2.inv p3 p4 hf hlgQ hnd;have hkind:∀e∈S.at1.es l,e.role=3\/C e:=DscA.kind λi hi hi2=>by
  rw[hat.2.2];exact hC i hi (by rw[m2]at hi2;omega)
 have hdQ:DscA C S.at1.N:=by rw[hat.1];exact h.dsc
 have hlk:S.N.Like (wroteP S.at1 l).N:=p2.like.trans p4.turn.like;have hrw:=p4.rows p2.inv;have hrw2:=p2.rows;refine⟨p1,hfit,⟨p4.inv p2.inv p3,(h.no.went p2).wrote p4,hH,λi a ha=>?_,hdQ.wrote p2.inv p3 p4 hf hmQ hkind⟩,hok.1,by omega,?_,hok.2.2,hlk,p4.turn.broken.trans p2.broken,p4.turn.dead.trans p2.dead,λc kp hk=>?_⟩
 ·by_cases hex:∃j,j<S.at1.fit l/\(l.getD j En.zero).lpn=i
  ·obtain⟨j,hj,rfl⟩:=hex;rw[l1 j hj]at ha;injection ha with ha;rw[<- ha,hlk.dies];exact m1
  ·rw[l2 i λj hj e=>hex ⟨j,hj,e⟩,hat.2.1]at ha;rw[hlk.dies];exact h.msk i a ha
 ·show S.at1.next+(S.at1.fit l:Int)=_;rw[hat.2.2]
 ·obtain⟨g1,g2⟩:=h.inv.pen_arm (c:=c) (kp:=kp) hO h.no hr hf hl0 hnx;refine⟨g1,λhc=>?_⟩;obtain⟨N',g3,g4⟩:=g2 hc;rw[<- hat.1]at g4;obtain⟨d1,d2⟩:=hdQ.torn p2.inv p3 (h.no.went p2) p4 hf hmQ hkind hk g4;refine⟨N',g3,h,d1,by have:=g4.like;rw[hat.1]at this;exact this,by have:=g4.dead;rw[hat.1]at this;exact this,by have:=g4.broken;rw[hat.1]at this;exact this,λi a ha d=>?_⟩;have:=d2 i a (p2.inv.st i a (by rw[hat.2.1];exact ha)) d;rw[hat.1]at this;exact this
theorem found {N':Nand} (h:RestI C W S N') {n:Nat} (hn:n<=65536) (hC:∀e,C e->e.role=1\/e.role=2\/e.role=4) {i:Nat} {e:En} (hi:i<n) (he:Tb.look W (i:Int)=some e) (hr:e.role≠3):∃x y,Tb.look (V.scan N'.onN n).tb.at_ (i:Int)=some x/\C y/\y.lpn=i/\x.seq=y.seq/\R.read N'.onN x.block x.row x.slot x.mask=(y,0):=by
 obtain⟨_,a,ha,hra⟩:=h.ci.hd.each _ _ he;obtain⟨y,hy,_,_,hyr⟩:=h.ci.inv.read ha;rw[hra]at hy;have:y.role=e.role:=by injection hy with hy;rw[<- hy]
 exact scan_found (N2:=N'.onN) hn h.ci.inv h.ci.no (λb r hb hr=>(h.dsc b r hb hr).less ⟨rfl,rfl,rfl⟩ λ_ _ hc=> .inr hc) hC rfl ⟨h.like.dies,h.like.blocks,h.like.pages⟩ h.dead hi ha (by rw[<- hyr,this];exact hr) (h.ci.msk _ a ha) (λd=>h.pages _ a ha d)
theorem kinds {N':Nand} (h:RestI C W S N') {n:Nat} (hn:n<=65536) (hC:∀e,C e->e.role=1\/e.role=2\/e.role=4) {i:Nat} {x:AtV} (hx:Tb.look (V.scan N'.onN n).tb.at_ (i:Int)=some x):∃y,C y/\y.lpn=i/\x.seq=y.seq:=
 by
  obtain⟨y,y1,y2,y3,_⟩:=(scan_dsc (N:=N'.onN) hn rfl (λb r hb hr=>(h.dsc b r hb hr).less ⟨rfl,rfl,rfl⟩ λ_ _ hc=> .inr hc) hC i).1 x hx;exact⟨y,y1,y2,y3⟩
end CutI
namespace Hd
end Hd
def Cp (e:En):Prop:=e.role=1/\e.seq=e.lpn+1
theorem Cp.kind:∀e,Cp e->e.role=1\/e.role=2\/e.role=4:=λ_ h=> .inl h.1
def l2 (n:Int):List En:=[e18 n (n+1),e18 (n+1) (n+2)]
structure PcS (D B P rows:Nat) (S:Dv):Prop where
 sq:SeqI D B P rows S
 ci:CutI Cp (wI (2*rows)) S
 next:S.next=((2*rows:Nat):Int)+1
 log:S.T.logical=500
theorem hd_new (D B P:Nat) (lg:Int):Hd (Dv.new D B P lg) []:=⟨rfl,λ_ _ he=>(by cases he)⟩
theorem CutI.new (C:En->Prop) (D B P:Nat) (lg:Int):CutI C [] (Dv.new D B P lg):=⟨Inv.new _ _ _ _ _,NoF.new _ _ _ _,hd_new D B P lg,λ_ _ ha=>(by cases ha),DscA.new C D B P⟩
namespace PcS
variable {D B P rows k m : Nat} {S : Dv}
theorem new (D B P:Nat):PcS D B P 0 (Dv.new D B P 500):=⟨SeqI.new D B P 500,CutI.new _ _ _ _ _,rfl,rfl⟩
theorem rp (h:PcS D B P rows S) (hO:S.Ok k m) (hr:rows<16):∃q r,rows=q*P+r/\r<P/\q<B/\0<S.rows/\(3<=D/\D<=6):=by
 have hg:=hO.gd.ok.bd16;rw[h.sq.dies,h.sq.blocks,h.sq.pages]at hg;have h1:rows/P<B:=by
  rw[Nat.div_lt_iff_lt_mul (by omega)];have:8*2<=B*P:=Nat.mul_le_mul hg.2.1.1 hg.2.2.1;omega
 have h2:rows=rows/P*P+rows % P:=by rw[Nat.mul_comm];exact(Nat.div_add_mod rows P).symm
 have h3:rows % P<P:=Nat.mod_lt _ (by omega);exact⟨rows/P,rows % P,h2,h3,h1,h.sq.rows_pos hO h2 h3 h1,hg.1⟩
theorem fits {n:Nat} (h:n<=100):(∀e∈l2 n,FitR e)/\(∀e∈l2 n,e.data.length=16):=by
 have:∀e∈l2 n,FitR e:=λe he=>by
  simp only[l2,List.mem_cons,List.not_mem_nil,or_false]at he;rcases he with rfl | rfl
  ·exact e18_fit (by omega)
  ·exact⟨by show 0<=(n:Int)+1/\(n:Int)+1<=65535;omega, .inl rfl,rfl⟩
 exact⟨this,λe he=>(this e he).len⟩
theorem step (h:PcS D B P rows S) (hO:S.Ok (8*Dv.fuel+k) m) (hr:rows<16):∃V,S.pen (l2 ((2*rows:Nat):Int))=(V,(2:Int),(0:Int))/\PcS D B P (rows+1) V/\V.Ok k m:=by
 obtain⟨q,r,e1,e2,e3,e4,e5⟩:=h.rp hO hr;obtain⟨f1,f2⟩:=fits (n:=2*rows) (by omega);obtain⟨p1,p2,p3,p4,p5,p6,p7⟩:=h.sq.pen (l:=l2 ((2*rows:Nat):Int)) hO e1 e2 e3 f1 (by simp[l2]) (by rw[h.next];omega);obtain⟨c1,c2,c3,c4,c5,c6,c7,c8,c9,c10,c11⟩:=h.ci.pen (l:=l2 ((2*rows:Nat):Int)) hO e4 f1 (by simp[l2]) (by simp[l2,e18];omega) (λe he=>by
  rw[h.log];simp only[l2,List.mem_cons,List.not_mem_nil,or_false]at he;rcases he with rfl | rfl
  ·show((2*rows:Nat):Int)<500;omega
  ·show((2*rows:Nat):Int)+1<500;omega) (by rw[h.next];omega) (λi hi _=>by
  have hi:i<2:=hi;rw[h.next];rcases Nat.lt_or_ge i 1 with h1 | h1
  ·obtain rfl:i=0:=by omega
   exact⟨rfl,by show((2*rows:Nat):Int)+1+((0:Nat):Int)=((2*rows:Nat):Int)+1;omega⟩
  ·obtain rfl:i=1:=by omega
   exact⟨rfl,by show((2*rows:Nat):Int)+1+((1:Nat):Int)=((2*rows:Nat):Int)+1+1;omega⟩)
 have hf2:S.at1.fit (l2 ((2*rows:Nat):Int))=2:=by rw[c2,h.sq.dies];show min 2 (D-1)=2;omega
 rw[hf2]at c1 c3 c6;have hw:wput (wI (2*rows)) (l2 ((2*rows:Nat):Int)) 2=wI (2*(rows+1)):=by
  rw[wI_wput (2*rows) 2 λj hj=>?_]
  ·rfl
  ·rcases Nat.lt_or_ge j 1 with h1 | h1
   ·obtain rfl:j=0:=by omega
    show e18 _ _=e18 _ _;rw[show((2*rows:Nat):Int)+((0:Nat):Int)=((2*rows:Nat):Int)from by omega]
   ·obtain rfl:j=1:=by omega
    show e18 _ _=e18 _ _;rw[show((2*rows:Nat):Int)+2=((2*rows:Nat):Int)+((1:Nat):Int)+1 from by omega];rfl
 rw[hw]at c3;exact⟨_,c1,⟨p3,c3,by rw[c6,h.next];omega,c7.trans h.log⟩,c4⟩
theorem keyslen (h:Hd S (wI k)):S.T.at_.length=k:=by
 have:=congrArg List.length h.keys;simp only[List.length_map,wI,List.length_range]at this;exact this
theorem cut (h:PcS D B P rows S) (hO:S.Ok (8*Dv.fuel+k) m) (hr:rows<16) {c:Nat} (hc:c<D) (kp:Int):
  ∃U,({S with N:=S.N.setCut c kp}:Dv).Ok (8*Dv.fuel+k) m/\({S with N:=S.N.setCut c kp}:Dv).pen [e18 ((2*rows:Nat):Int) (((2*rows:Nat):Int)+1)]=(U,(0:Int),(9:Int))/\U.T.at_.length=2*rows/\U.N.Gd k m/\
   (∀i,i<2*rows->∃x,Tb.look (V.scan U.N.onN 500).tb.at_ (i:Int)=some x/\x.seq=(i:Int)+1)/\∀x,Tb.look (V.scan U.N.onN 500).tb.at_ ((2*rows:Nat):Int)=some x->x.seq=((2*rows:Nat):Int)+1:=by
 obtain⟨q,r,e1,e2,e3,e4,e5⟩:=h.rp hO hr;have hf:∀e∈[e18 ((2*rows:Nat):Int) (((2*rows:Nat):Int)+1)],FitR e:=λe he=>by simp at he;rw[he];exact e18_fit (by omega)
 have hdt:∀e∈[e18 ((2*rows:Nat):Int) (((2*rows:Nat):Int)+1)],e.data.length=16:=λe he=>(hf e he).len;obtain⟨c1,c2,c3,c4,c5,c6,c7,c8,c9,c10,c11⟩:=h.ci.pen (l:=[e18 ((2*rows:Nat):Int) (((2*rows:Nat):Int)+1)]) hO e4 hf (by simp) (by simp) (λe he=>by
  rw[h.log];simp at he;rw[he];show((2*rows:Nat):Int)<500;omega) (by rw[h.next];omega) (λi hi _=>by
  have hi:i<1:=hi;obtain rfl:i=0:=by omega
  rw[h.next];exact⟨rfl,by show((2*rows:Nat):Int)+1+((0:Nat):Int)=((2*rows:Nat):Int)+1;omega⟩)
 obtain⟨_,g2⟩:=c11 c (min (max kp 0) 32) (by omega);obtain⟨N',g3,g4⟩:=g2 (by rw[h.sq.dies];exact hc);have hs:S.N.setCut c kp=arm S.N c (min (max kp 0) 32):=setCut_arm h.ci.inv.lit.off c kp;have hOk:({S with N:=S.N.setCut c kp}:Dv).Ok (8*Dv.fuel+k) m:=⟨hO.gd.cut _ _ (by omega) (by omega),hO.t.like (Nand.like_cut _ _ _),hO.T,hO.sl,hO.row,hO.next⟩;have hpen:({S with N:=S.N.setCut c kp}:Dv).pen [e18 ((2*rows:Nat):Int) (((2*rows:Nat):Int)+1)]=({S.at1.wrote [e18 ((2*rows:Nat):Int) (((2*rows:Nat):Int)+1)]with N:=N'},(0:Int),(9:Int)):=by
  rw[hs];exact g3
 have hk:=(Dv.pen_keep hOk hdt).1;rw[hpen]at hk;obtain⟨n5,hn5⟩:∃n5:Nat,n5=500:=⟨_,rfl⟩;have e500:((n5:Nat):Int)=500:=by omega
 refine⟨_,hOk,hpen,?_,hk.gd,λi hi=>?_,λx hx=>?_⟩
 ·show S.at1.T.at_.length=_;rw[(Dv.at1_like S).2.1];exact keyslen h.ci.hd
 ·have hlk:Tb.look (wI (2*rows)) (i:Int)=some (e18 i ((i:Int)+1)):=by rw[wI_look,if_pos hi]
  obtain⟨x,y,x1,x2,x3,x4,_⟩:=CutI.found g4 (n:=n5) (by omega) Cp.kind (i:=i) (by omega) hlk (by show(1:Int)≠3;decide);rw[e500]at x1;dsimp only;exact⟨x,x1,by rw[x4,x2.2,x3]⟩
 ·dsimp only at hx;obtain⟨y,y1,y2,y3⟩:=CutI.kinds g4 (n:=n5) (by omega) Cp.kind (i:=2*rows) (by rw[e500];exact hx);rw[y3,y1.2,y2]
end PcS
theorem cnt_one {p:Nat->Bool} {i:Nat} (hp:p i=true):∀n,(∀j,j<n->j≠i->p j=false)->(List.range n).countP p=if i<n then 1 else 0
 | 0,_=>rfl
 | n+1,h=>by
  rw[List.range_succ,List.countP_append,cnt_one hp n (λj hj=>h j (by omega)),List.countP_singleton]
  by_cases e:n=i
  ·subst e;rw[hp,if_neg (Nat.lt_irrefl n),if_pos rfl,if_pos (Nat.lt_succ_self n)]
  ·rw[h n (by omega) e,if_neg Bool.false_ne_true,Nat.add_zero]
   by_cases h2:i<n
   ·rw[if_pos h2,if_pos (by omega)]
   ·rw[if_neg h2,if_neg (by omega)]
def missN (g:Nat->Bool) (k:Nat):Nat:=(List.range k).countP λi=>!g i
theorem missN_succ (g:Nat->Bool) (k:Nat):missN g (k+1)=missN g k+(if g k then 0 else 1):=by
 unfold missN;rw[List.range_succ,List.countP_append,List.countP_singleton];cases g k<;>rfl
theorem missN_le (g:Nat->Bool) (k:Nat):missN g k<=k:=by
 unfold missN;have:=List.countP_le_length (p:=λi=>!g i) (l:=List.range k)
 rwa [List.length_range]at this
theorem miss_rest {f:Fd} {i n:Nat} (hn:f.slots.length=n) (hi:i<n) (hg:f.good.getD i false=false) (hr:R.rest f i=true):missN (λj=>f.good.getD j false) n=1:=by
 unfold missN;rw[cnt_one (i:=i) (show(!(f.good.getD i false))=true by rw[hg];rfl) n,if_pos hi];intro j hj hji;unfold R.rest at hr;rw[hn,List.all_eq_true]at hr;have:=hr j (List.mem_range.2 hj);simp only[Bool.or_eq_true,beq_iff_eq,hji,false_or]at this;show(!(f.good.getD j false))=false;rw[this];rfl
def betB (x b:Fnd):Bool:=decide (x.en.seq>b.en.seq)||(x.en.seq==b.en.seq&&x.whole&& !b.whole)
theorem betB_eq (x b:Fnd):betB x b=V.behind b x:=by
 unfold betB V.behind
 by_cases h:b.en.seq=x.en.seq
 ·rw[if_neg (by simpa using h),h,decide_eq_false (by omega),beq_self_eq_true];rfl
 ·rw[if_pos h,beq_eq_false_iff_ne.2 (λe=>h e.symm)];simp
theorem stand_none {l:List Fnd} (h:(V.standOf l).2=false):(V.standOf l).1=Fnd.zero:=by
 revert h
 unfold V.standOf;cases V.tops l with
 | nil=>intro _;rfl
 | cons f o=>intro h;cases h
theorem stand_role {l:List Fnd} (hr:∀f∈l,f.en.role≠0):(V.standOf l).1.en.role=0↔(V.standOf l).2=false:=by
 constructor
 ·intro h;cases h2:(V.standOf l).2 with
  | false=>rfl
  | true=>exact absurd h (hr _ (V.standOf_mem h2))
 ·intro h;rw[stand_none h];rfl
def bestF (L:List Fnd) (k:Int):Fnd:=(V.standOf (V.of L k)).1
theorem bestF_snoc (L:List Fnd) (x:Fnd) (hr:∀f∈L,f.en.role≠0) (k:Int):bestF (L++[x]) k=if x.en.lpn=k/\((bestF L k).en.role=0\/betB x (bestF L k)=true)then x else bestF L k:=by
 unfold bestF;rw[V.of_snoc]
 by_cases h:x.en.lpn=k
 ·have hs:=stand_role (l:=V.of L k) (λf hf=>hr f (List.mem_filter.1 hf).1);rw[if_pos h,V.standOf_snoc,betB_eq]
  by_cases h2:(V.standOf (V.of L k)).2=false\/V.behind (V.standOf (V.of L k)).1 x=true
  ·rw[if_pos h2,if_pos ⟨h,h2.imp hs.2 id⟩]
  ·rw[if_neg h2,if_neg (λh3=>h2 (h3.2.imp hs.1 id))]
 ·rw[if_neg h,if_neg (λh3=>h h3.1)]
theorem of_in (L:List Fnd) (m:Nat) (k:Nat) (hk:k<m):V.of (L.filter λf=>decide (f.en.lpn<(m:Int))) (k:Int)=V.of L (k:Int):=by
 unfold V.of;rw[List.filter_filter];refine List.filter_congr λf _=>?_
 by_cases h:f.en.lpn=(k:Int)
 ·rw[beq_iff_eq.2 h,decide_eq_true (by omega)];rfl
 ·rw[beq_eq_false_iff_ne.2 h];rfl
theorem look_fine {N:Nand} {x y z:Int} (h:(M.look N x y z).2=1):M.bad (M.look N x y z).1 x y z=false/\0<=x:=by
 have hx:0<=x:=by
  rcases Int.lt_or_le x 0 with hx | hx
  ·exfalso
   have hr:N.refuses x y z=9\/N.refuses x y z=3:=by
    unfold Nand.refuses;split
    ·exact .inl rfl
    ·have:geoIn N.dies N.blocks N.pages x y z=false:=by
      unfold geoIn;rw[decide_eq_false (by omega)];rfl
     rw[if_pos this];exact .inr rfl
   have he:N.readE x y z=9\/N.readE x y z=3:=by
    unfold Nand.readE;rcases hr with hr | hr<;>rw[hr]<;>simp
   unfold M.look at h;simp only at h;rcases he with he | he<;>rw[he]at h<;>simp at h
  ·exact hx
 refine⟨?_,hx⟩;unfold M.look at h ⊢;dsimp only at h ⊢;split
 ·rename_i h0;rw[if_pos h0]at h;split
  ·rename_i h1;rw[if_pos h1]at h;simp at h
  ·rename_i h1;simp only[not_or]at h1;simpa using h1.2
 ·rename_i h0;rw[if_neg h0]at h;split at h
  ·simp at h
  ·split at h<;>simp at h
theorem entry_role {s:Sh} (h:S.entry s=true):s.role=1\/s.role=2\/s.role=3\/s.role=4:=by
 unfold S.entry at h;split at h
 ·exact .inl (by assumption)
 ·split at h
  ·rename_i h1;rcases h1 with h1 | h1
   ·exact .inr (.inl h1)
   ·exact .inr (.inr (.inr h1))
  ·split at h
   ·exact .inr (.inr (.inl (by assumption)))
   ·cases h
theorem may_role {s:Sh} (h:S.may s=true) (hk:s.kind≠2):s.role=1\/s.role=2\/s.role=3\/s.role=4:=by
 unfold S.may at h;rw[decide_eq_false hk]at h;simp only[Bool.false_or,Bool.and_eq_true]at h;exact entry_role h.2.2
theorem fnd_role {N:Nand} {b r:Int} {f:Fnd} (h:f∈R.all N b r):f.en.role=1\/f.en.role=2\/f.en.role=4:=by
 unfold R.all at h;rw[List.mem_flatMap]at h;obtain⟨m,_,h⟩:=h;unfold R.allM at h;rw[List.mem_filterMap]at h;obtain⟨k,hk,h⟩:=h;rw[List.mem_range,(look_len N b r m).1]at hk;unfold R.fnd at h;split at h
 ·rename_i hc;injection h with h;subst h;simp only[Bool.and_eq_true,bne_iff_ne,ne_eq]at hc;obtain⟨h1,h3⟩:=hc;dsimp only;have key:(R.enAt (R.look N b r m) k).role=1\/(R.enAt (R.look N b r m) k).role=2\/(R.enAt (R.look N b r m) k).role=3\/(R.enAt (R.look N b r m) k).role=4:=by
   obtain⟨e2,e1⟩:=look_slot N b r m hk;unfold R.enAt;unfold R.okAt at h1;split
   ·rename_i hg;rw[List.getD_eq_getElem?_getD,e2,Option.getD_some];rw[e1]at hg;unfold R.one at hg ⊢;simp only[Bool.and_eq_true,beq_iff_eq]at hg;obtain⟨hl,hm⟩:=hg;obtain⟨hb,hx⟩:=look_fine hl;refine may_role (look_may hl) λhkd=>?_;simp only[M.bad,Bool.or_eq_false_iff,bne_eq_false_iff_eq,Bool.not_eq_false']at hb;obtain⟨⟨⟨b1,b2⟩,b3⟩,b4⟩:=hb;rw[hm,b1,b2,hkd,beq_self_eq_true,beq_iff_eq]at b4;obtain⟨o1,o2⟩:=oth_die m b r k
    by_cases hlt:k<(othI m b r).length
    ·have:=o2 k rfl hlt;have hmem:=List.mem_of_getElem? this;unfold othI at hmem;split at hmem
     ·have:=(List.mem_filter.1 hmem).2;simp only[bne_iff_ne,ne_eq]at this;exact this b4.symm
     ·cases hmem
    ·have:=o1 (.inr (by omega));omega
   ·rename_i hg;rw[Bool.not_eq_true]at hg;rw[hg,Bool.false_or]at h1;unfold R.mendB at h1;simp only[Bool.and_eq_true]at h1;have hb:=h1.2;unfold R.mend;rw[if_pos (by rw[Bool.and_eq_true];exact h1.1),W.back,if_pos hb];unfold W.backB at hb;simp only[Bool.and_eq_true]at hb;exact may_role (s:=W.sh _ _ _ _) hb.2 (show(1:Int)≠2 by decide)
  omega
 ·cases h
theorem all_role {N:Nand} {f:Fnd} (h:f∈V.all N):f.en.role=1\/f.en.role=2\/f.en.role=4:=by
 unfold V.all at h;rw[List.mem_flatMap]at h;obtain⟨b,_,h⟩:=h;rw[List.mem_flatMap]at h;obtain⟨r,_,h⟩:=h;exact fnd_role h
def topK (L:List Fnd) (k:Int) (i:Nat):Int:=((L.take i).filter λf=>f.en.lpn==k&&f.whole).foldl (λm f=>max m f.en.seq) (-1)
theorem topK_succ (L:List Fnd) (k:Int) (i:Nat) (x:Fnd) (h:L[i]? =some x):topK L k (i+1)=if(x.en.lpn==k&&x.whole)=true then max (topK L k i) x.en.seq else topK L k i:=by
 unfold topK;rw[List.take_add_one,h,Option.toList_some,List.filter_append]
 by_cases hp:(x.en.lpn==k&&x.whole)=true
 ·have e:[x].filter (λf=>f.en.lpn==k&&f.whole)=[x]:=by rw[List.filter_cons,if_pos hp];rfl
  rw[if_pos hp,e,List.foldl_append];rfl
 ·have e:[x].filter (λf=>f.en.lpn==k&&f.whole)=[]:=by rw[List.filter_cons,if_neg hp];rfl
  rw[if_neg hp,e,List.append_nil]
theorem topK_all (L:List Fnd) (k:Int):topK L k L.length=V.topSeq ((V.of L k).filter λf=>f.whole):=by
 unfold topK V.topSeq V.of;rw[List.take_length,List.filter_filter];congr 1;exact List.filter_congr λf _=>Bool.and_comm _ _
def heldK (H:List Int) (L:List Fnd) (k:Int) (t:Int) (i:Nat):List Int:=(((L.take i).filter λf=>f.en.lpn==k&&f.whole&&f.en.seq==t).map (·.block)).foldl insI H
theorem heldK_succ (H:List Int) (L:List Fnd) (k t:Int) (i:Nat) (x:Fnd) (h:L[i]? =some x):heldK H L k t (i+1)=if(x.en.lpn==k&&x.whole&&x.en.seq==t)=true then insI (heldK H L k t i) x.block else heldK H L k t i:=by
 unfold heldK;rw[List.take_add_one,h,Option.toList_some,List.filter_append]
 by_cases hp:(x.en.lpn==k&&x.whole&&x.en.seq==t)=true
 ·have e:[x].filter (λf=>f.en.lpn==k&&f.whole&&f.en.seq==t)=[x]:=by rw[List.filter_cons,if_pos hp];rfl
  rw[if_pos hp,e,List.map_append,List.foldl_append];rfl
 ·have e:[x].filter (λf=>f.en.lpn==k&&f.whole&&f.en.seq==t)=[]:=by rw[List.filter_cons,if_neg hp];rfl
  rw[if_neg hp,e,List.append_nil]
theorem normI_app (H:List Int):∀B:List Int,normI (H++B)=B.foldl insI (normI H):=by
 intro B;have:∀k,k<=B.length->normI (H++B.take k)=(B.take k).foldl insI (normI H):=by
  intro k
  induction k with
  | zero=>intro _;simp
  | succ k ih=>
   intro hk;rw[List.take_add_one,List.getElem?_eq_getElem (by omega),Option.toList_some,<- List.append_assoc,normI_snoc,List.foldl_append,ih (by omega)];rfl
 have h:=this B.length (Nat.le_refl _)
 rwa [List.take_length]at h
theorem heldK_all (H:List Int) (L:List Fnd) (k:Int) (h0:∀f∈L,0<=f.en.seq):heldK (normI H) L k (topK L k L.length) L.length=normI (H++V.holds (V.of L k)):=by
 rw[normI_app,topK_all];unfold heldK V.holds;rw[List.take_length,V.tops_whole ((V.of L k).filter λf=>f.whole) (λf hf=>⟨(List.mem_filter.1 hf).2,h0 f (List.mem_filter.1 (List.mem_filter.1 hf).1).1⟩)];congr 2;unfold V.of;rw[List.filter_filter,List.filter_filter];refine List.filter_congr λf _=>?_;cases f.en.lpn==k<;>cases f.whole<;>simp
theorem heldK_len (H:List Int) (L:List Fnd) (k t:Int) (i:Nat):(heldK H L k t i).length<=H.length+i:=by
 have hi:∀(l:List Int) (b:Int),(insI l b).length<=l.length+1:=by
  intro l
  induction l with
  | nil=>intro b;simp[insI]
  | cons x l ih=>
   intro b;simp only[insI];split
   ·rw[List.length_cons,List.length_cons];have:=ih b;omega
   ·split
    ·omega
    ·simp
 have hf:∀(B:List Int) (H:List Int),(B.foldl insI H).length<=H.length+B.length:=by
  intro B
  induction B with
  | nil=>intro H;simp
  | cons b B ih=>
   intro H;rw[List.foldl_cons,List.length_cons];have:=ih (insI H b);have:=hi H b;omega
 unfold heldK;refine Nat.le_trans (hf _ _) ?_;rw[List.length_map];have:=List.length_filter_le (λf:Fnd=>f.en.lpn==k&&f.whole&&f.en.seq==t) (L.take i);rw[List.length_take]at this;omega
end Go.Proofs.YtdocmcapegcoeaaGreat
namespace Go.Proofs.YtdocmcapegcoeaaGreat
open Go Go.RowKit
def stL (o:Option AtV):List Value:=[.bool o.isSome, .int .i64 (o.getD AtV.zero).block, .int .i64 (o.getD AtV.zero).row, .int .i64 (o.getD AtV.zero).slot, .int .i64 (o.getD AtV.zero).mask, .int .i64 (o.getD AtV.zero).seq, .int .i64 (o.getD AtV.zero).role]
def stC (l:List (Int×AtV)) (m:Nat):List Value:=(List.range m).flatMap λi=>stL (Tb.look l (i:Nat))
theorem range_get {m i:Nat} (h:i<m):(List.range m)[i]? =some i:=List.getElem?_range h
theorem stC_len (l:List (Int×AtV)) (m:Nat):(stC l m).length=m*7:=by
 unfold stC
 induction m with
 | zero=>rfl
 | succ m ih=>rw[List.range_succ,List.flatMap_append,List.length_append,ih,Nat.succ_mul];rfl
theorem stC_at (l:List (Int×AtV)) {m i:Nat} (h:i<m):((stC l m).drop (i*7)).take 7=stL (Tb.look l (i:Nat)):=flat_get (λi:Nat=>stL (Tb.look l (i:Nat))) 7 (λ_=>rfl) (List.range m) i i (range_get h)
theorem stC_cell (l:List (Int×AtV)) {m i:Nat} (h:i<m) (j:Nat) (hj:j<7):(stC l m)[i*7+j]? =(stL (Tb.look l (i:Nat)))[j]?:=by
 rw[<- stC_at l h,List.getElem?_take,if_pos hj,List.getElem?_drop]
theorem stC_zero (m:Nat):(List.replicate m (stL none)).flatten=stC [] m:=by
 unfold stC
 induction m with
 | zero=>rfl
 | succ m ih=>rw[List.range_succ,List.flatMap_append,<- ih,List.replicate_succ',List.flatten_append];simp[Tb.look]
theorem stC_put (l:List (Int×AtV)) {m i:Nat} (h:i<m) (a:AtV):(stC l m).take (i*7)++stL (some a)++(stC l m).drop (i*7+7)=stC (Tb.put1 l i a) m:=by
 have hlen:=stC_len l m;have hlen2:=stC_len (Tb.put1 l i a) m;apply List.ext_getElem?;intro n;rcases Nat.lt_or_ge n (m*7)with hn | hn
 ·have hk:n/7<m:=by omega
  have hj:n % 7<7:=Nat.mod_lt _ (by decide);have hnn:n=n/7*7+n % 7:=by omega
  have hr:(stC (Tb.put1 l i a) m)[n]? =(stL (if n/7=i then some a else Tb.look l ((n/7:Nat):Int)))[n % 7]?:=by
   conv=>lhs;rw[hnn]
   rw[stC_cell _ hk _ hj,Tb.look_put1]
   by_cases e:n/7=i
   ·rw[if_pos e,if_pos (by omega)]
   ·rw[if_neg e,if_neg (by omega)]
  rw[hr];have hmid:(stL (some a)).length=7:=rfl;have htk:((stC l m).take (i*7)).length=i*7:=by rw[List.length_take,hlen];omega
  rcases Nat.lt_trichotomy (n/7) i with h1 | h1 | h1
  ·rw[if_neg (by omega),List.getElem?_append_left (by rw[List.length_append,htk];omega),List.getElem?_append_left (by rw[htk];omega),List.getElem?_take,if_pos (by omega)]
   conv=>lhs;rw[hnn]
   rw[stC_cell _ hk _ hj]
  ·rw[if_pos h1,List.getElem?_append_left (by rw[List.length_append,htk,hmid];omega),List.getElem?_append_right (by rw[htk];omega),htk];congr 1;omega
  ·rw[if_neg (by omega),List.getElem?_append_right (by rw[List.length_append,htk,hmid];omega),List.length_append,htk,hmid,List.getElem?_drop,show i*7+7+(n-(i*7+7))=n from by omega]
   conv=>lhs;rw[hnn]
   rw[stC_cell _ hk _ hj]
 ·have e1:(stC (Tb.put1 l i a) m)[n]? =none:=List.getElem?_eq_none (by rw[hlen2];exact hn);rw[e1];refine List.getElem?_eq_none ?_;rw[List.length_append,List.length_append,List.length_take,List.length_drop,hlen];show min (i*7) (m*7)+7+(m*7-(i*7+7))<=n;omega
def RefP (q:Nat) (t:Tb) (m:Nat) (g:Nat):List Atom:=[.pt q 82 [.slice (some ⟨g,0,none⟩) m m, .int .i64 t.next], .pt g 79 (stC t.at_ m)]
def RefA (q:Nat) (t:Tb) (m:Nat):Atom:=exA λg:Nat=>RefP q t m g
theorem mm13 (n:Int):(if(if(65536:Int)<n then 65536 else n)>0 then(if(65536:Int)<n then 65536 else n)else 0)=min (max n 0) 65536:=by
 by_cases h:(65536:Int)<n
 ·simp only[if_pos h];rw[if_pos (by decide)];omega
 ·simp only[if_neg h];split<;>omega
theorem f13_New (n:Int) (m:Nat) (hm:min (max n 0) 65536=(m:Int)):Fn Tryz.prog 82 [.int .i64 n] [] (λv As=>∃q,v= .pointer (some ⟨q,0,none⟩)/\As=[RefA q (Tb.new n) m]):=by
 have hm1:m<=65536:=by omega
 refine Fn.enter [0] Tryz.func82 rfl rfl rfl λX F hX=>?_;refine J.qn hX 9 λ_=>?_;rw[mm13,hm];refine J.makeMany hX tk 2 rfl rfl rfl rfl rfl rfl rfl rfl rfl rfl rfl ?_ ?_ (λ_=>rfl) (λ_=>rfl) λg=>⟨trivial,?_⟩
 ·simp only[maxLen];omega
 ·omega
 have hz:(List.replicate m [Value.bool false, .int .i64 0, .int .i64 0, .int .i64 0, .int .i64 0, .int .i64 0, .int .i64 0]).flatten=stC (Tb.new n).at_ m:=stC_zero m;rw[hz];refine J.q hX λbs=>?_;refine J.close (f:=λg:Nat=>RefP (bs 0) (Tb.new n) m g) g [2,1] rfl rfl rfl ?_;refine J.q hX λ_=>?_;refine J.ru hX [2] ?_;exact⟨bs 0,rfl,rfl⟩
theorem f13_Put (q:Nat) (t:Tb) (m:Nat) (e:En) (b r s mk:Int) (hl:0<=e.lpn/\e.lpn<(m:Int)) (hm:m<=65536) (hlog:t.logical=(m:Int)) (hr:e.role=1\/e.role=2\/e.role=4) (hs:0<=e.seq/\e.seq<=1099511627775) (hno:Tb.look t.at_ e.lpn=none):
  Fn Tryz.prog 85 [.pointer (some ⟨q,0,none⟩),enV e,plV b r s, .int .i64 mk] [RefA q t m] (λv As=>v= .bool true/\As=[RefA q (t.put e b r s mk) m]):=by
 obtain⟨i,hi⟩:=Int.eq_ofNat_of_zero_le hl.1;have him:i<m:=by omega
 have hput:t.put e b r s mk=⟨t.logical,Tb.put1 t.at_ e.lpn ⟨b,r,s,mk,e.seq,e.role⟩,Tb.cnt2 t e b,if e.seq>=t.next then e.seq+1 else t.next⟩:=by
  have ho:t.ok e=true:=by
   unfold Tb.ok;rw[hlog,decide_eq_false (by omega),decide_eq_false (by omega)];rcases hr with h | h | h<;>rw[h]<;>rfl
  have he:t.elder e=false:=by unfold Tb.elder;rw[hno]
  unfold Tb.put Tb.putB;rw[ho,he];rfl
 have hcell0:=stC_cell t.at_ him 0 (by decide);rw[<- hi,hno]at hcell0;refine Fn.enter [2,0,0,0] Tryz.func85 rfl rfl rfl λX F hX=>?_;refine J.open_ (α:=Nat) 1 rfl rfl (λ_=>rfl) λg=>?_;refine J.q hX λ_=>?_;refine J.plan (.of [0,5,8,12,16,21,24,28,32,37,40,44,48,52,56,61,64,68,72,77,80,84,88,92,97,100,104,108,112,116,120,124,129,132,137,140,144,149,152,156,161,164,168,172,177,180,185,188,192,197,200,204,208]) [] [1,2,3,4] (by rw[hX.hP];kernel_rfl) (by kernel_rfl) ?_;refine J.qn hX 1 λ_=>?_;refine J.run hX tk 400 (λb5=>rfl) (λb5=>?_) (λb5=>?_)
 ·(repeat' (first | exact Conj.nil | refine Conj.cons ?_ ?_ | exact rfl | exact hq | (rw[hq];rfl) | (rw[(Bool.not_eq_true' _).mp hq]) | intro hq | omega | (simp;done) | (simp_all;done)))
 have hgd:(decide (e.lpn<0)||decide (e.lpn>=(m:Int))||e.role !=1&&e.role !=2&&e.role !=4)=false:=by
  rw[decide_eq_false (by omega),decide_eq_false (by omega)];rcases hr with h | h | h<;>rw[h]<;>rfl
 rw[hgd];refine J.valT hX (.bool false) 0 rfl rfl (λhg a w he hC=>?_) rfl ?_
 ·exact load1_run tk rfl rfl he rfl rfl rfl (hC rfl _ (cget_mem (i:=2) rfl)) (by rw[show 0+e.lpn.toNat*7+0=i*7+0 from by omega];exact hcell0)
 refine J.run hX tk 400 (λb6=>rfl) (λb6=>?_) (λb6=>?_)
 ·(repeat' (first | exact Conj.nil | refine Conj.cons ?_ ?_ | exact rfl | exact(λhq=>absurd hq (by decide)) | intro hq | omega))
 refine J.valT hX (.int .i64 0) 0 rfl rfl (λhg a w he hC=>by simp[G.on]at hg) rfl ?_;refine J.run hX tk 400 (λb7=>rfl) (λb7=>?_) (λb7=>?_)
 ·(repeat' (first | exact Conj.nil | refine Conj.cons ?_ ?_ | exact rfl | exact(λhq=>absurd hq (by decide)) | intro hq | omega))
 refine J.q hX λ_=>?_;refine J.cF ?_;refine J.q hX λ_=>?_;refine J.plan (.of [0,4,8,13,16,21,25,28,32,37,40,45,48,52,59]) [13,14] [1,3,4] (by rw[hX.hP];kernel_rfl) (by kernel_rfl) ?_;refine J.qn hX 2 λ_=>?_;refine J.run hX tk 400 (λb11=>rfl) (λb11=>?_) (λb11=>?_)
 ·(repeat' (first | exact Conj.nil | refine Conj.cons ?_ ?_ | exact rfl | exact(λhq=>absurd hq (by decide)) | intro hq | omega))
 refine J.storeN hX tk 2 rfl rfl rfl rfl rfl rfl rfl rfl rfl rfl rfl rfl rfl ?_ (stC (Tb.put1 t.at_ i ⟨b,r,s,mk,e.seq,e.role⟩) m) ?_ rfl (λ_=>rfl) ⟨trivial,?_⟩
 ·rw[stC_len];show 0+e.lpn.toNat*7+7<=m*7;omega
 ·rw[show 0+e.lpn.toNat*7=i*7 from by omega];exact stC_put t.at_ him ⟨b,r,s,mk,e.seq,e.role⟩
 refine J.q hX λ_=>?_;refine J.plan (.of [0,5,8,12,16,21,24]) [] [1,2,3,4] (by rw[hX.hP];kernel_rfl) (by kernel_rfl) ?_;refine J.qn hX 2 λ_=>?_;refine J.q hX λ_=>?_;refine J.cond rfl (λhq=>?_) (λhq=>?_)
 ·have hq2:e.seq>=t.next:=by simpa using hq
  refine J.q hX λ_=>?_;refine J.close (f:=λg:Nat=>RefP q (t.put e b r s mk) m g) g [1,2] rfl (by rw[hput,if_pos hq2,hi];rfl) rfl ?_;refine J.q hX λ_=>?_;exact J.ru hX [1] ⟨rfl,rfl⟩
 ·have hq2:¬e.seq>=t.next:=by simpa using hq
  refine J.q hX λ_=>?_;refine J.close (f:=λg:Nat=>RefP q (t.put e b r s mk) m g) g [1,2] rfl (by rw[hput,if_neg hq2,hi];rfl) rfl ?_;refine J.q hX λ_=>?_;exact J.ru hX [1] ⟨rfl,rfl⟩
theorem f13_better (x b:Fnd):Fn Tryz.prog 84 [fdV x,fdV b] [] (λv As=>v= .bool (betB x b)/\As=[]):=by
 refine Fn.enter [0,0] Tryz.func84 rfl rfl rfl λX F hX=>?_;refine J.run hX tk 400 (λb1=>rfl) (λb1=>?_) (λb1=>?_)
 ·(repeat' (first | exact Conj.nil | refine Conj.cons ?_ ?_ | exact rfl | intro hq | assumption | (simp_all;done)))
 refine J.q hX λ_=>?_;exact J.ru hX [] ⟨rfl,rfl⟩
theorem ne_and24 (x:Int):(x !=2&&x !=4)= !(x==2||x==4):=by
 simp only[bne,Bool.not_or]
theorem blank_iff (N:Nand) (b r:Int):V.blankRow N b r=true↔∀d:Nat,d<N.dies->((M.look N (d:Nat) b r).2==2||(M.look N (d:Nat) b r).2==4)=true:=by
 unfold V.blankRow M.rowN;rw[List.all_eq_true];constructor
 ·intro h d hd;exact h _ (List.mem_map.2 ⟨d,List.mem_range.2 hd,rfl⟩)
 ·intro h x hx;obtain⟨d,hd,rfl⟩:=List.mem_map.1 hx;exact h d (List.mem_range.1 hd)
theorem last_no {N:Nand} {f:Fnd} {r0 r:Nat} (hr:f.row=(r0:Int)) (h1:r0<r) (h2:r<N.pages) (h3:V.blankRow N f.block (r:Nat)=false):V.last N f=false:=by
 unfold V.last;rw[Bool.and_eq_false_iff];left;rw[List.all_eq_false];refine⟨r,List.mem_range.2 h2,?_⟩;rw[h3,hr,decide_eq_false (by omega)];exact Bool.false_ne_true
theorem last_yes {N:Nand} {f:Fnd} {r0:Nat} (hr:f.row=(r0:Int)) (h:∀r:Nat,r0<r->r<N.pages->V.blankRow N f.block (r:Nat)=true):V.last N f=((M.look N (G.parity f.mask f.block f.row) f.block f.row).2 !=4):=by
 have:((List.range N.pages).all λr:Nat=>decide ((r:Int)<=f.row)||V.blankRow N f.block r)=true:=by
  rw[List.all_eq_true];intro r hrm;rw[hr,Bool.or_eq_true]
  by_cases hle:(r:Int)<=(r0:Int)
  ·exact .inl (decide_eq_true hle)
  ·exact .inr (h r (by omega) (List.mem_range.1 hrm))
 unfold V.last;rw[this];show(_ !=(4:Int))=_;rfl
theorem f13_last (p:Nat) (N:Nand) (hN:N.Ok) (hR:N.Room) (f:Fnd) (r0:Nat) (hr:f.row=(r0:Int)) (hr2:r0<=1000):Fn Tryz.prog 86 [.pointer (some ⟨p,0,none⟩),fdV f] [NandA p N]
  (λv As=>v= .bool (V.last N f)/\As=[NandA p N]):=by
 have hbd:=hN.bd;have e5:f.row+1=((r0+1:Nat):Int):=by omega
 refine Fn.enter [2,0] Tryz.func86 rfl rfl rfl λX F hX=>?_;refine J.q hX λbb=>?_;rw[e5];refine J.q hX λ_=>?_;refine J.lo (α:=Nat) (λr=>r0<r/\r<=1100/\∀r':Nat,r0<r'->r'<r->V.blankRow N f.block (r':Nat)=true) (λr=>[⟨5, .int .i64 r,0, .tt⟩,⟨3, .pointer (some ⟨bb 0,0,none⟩),3, .tt⟩,⟨0, .pointer (some ⟨p,0,none⟩),2, .tt⟩]) [] (λr=>[]) (λr=>N.pages-r) (r0+1) (⟨by omega,by omega,λr' h1 h2=>by omega⟩) rfl ?_ (λ_=>rfl) λr hI=>?_
 ·rfl
 obtain⟨hI1,hI2,hI3⟩:=hI;refine J.q hX λ_=>?_;refine J.cb hX (n_Geo p N) [1] ?_;refine cpq ⟨_,rfl,trivial,?_⟩;refine J.q hX λ_=>?_;refine J.cond rfl (λh1=>?_) (λh1=>?_)
 ·simp only[decide_eq_true_eq,Int.ofNat_lt]at h1;refine J.q hX λb7=>?_;refine J.lo (α:=Nat) (λd=>d<=N.dies/\∀d':Nat,d'<d->((M.look N (d':Nat) f.block (r:Nat)).2==2||(M.look N (d':Nat) f.block (r:Nat)).2==4)=true) (λd=>[⟨6, .int .i64 d,0, .tt⟩,⟨5, .int .i64 r,0, .tt⟩,⟨3, .pointer (some ⟨bb 0,0,none⟩),3, .tt⟩,⟨0, .pointer (some ⟨p,0,none⟩),2, .tt⟩]) [] (λd=>[]) (λd=>N.dies-d) (0) (⟨Nat.zero_le _,λd' h=>by omega⟩) rfl ?_ (λ_=>rfl) λd hI=>?_
  ·rfl
  obtain⟨hJ1,hJ2⟩:=hI;refine J.q hX λ_=>?_;refine J.cb hX (n_Geo p N) [1] ?_;refine cpq ⟨_,rfl,trivial,?_⟩;refine J.q hX λ_=>?_;refine J.cond rfl (λh2=>?_) (λh2=>?_)
  ·simp only[decide_eq_true_eq,Int.ofNat_lt]at h2;refine J.q hX λ_=>?_;refine J.cb hX (f9_Look p N hN hR d f.block r) [1] ?_;refine cpq ⟨_,rfl,trivial,?_⟩;refine J.q hX λ_=>?_;refine J.cond rfl (λh3=>?_) (λh3=>?_)
   ·have hnb:V.blankRow N f.block (r:Nat)=false:=by
     rw[Bool.eq_false_iff];intro hb;have:=(blank_iff N f.block r).1 hb d h2;have h3':((M.look N (d:Nat) f.block (r:Nat)).2 !=2&&(M.look N (d:Nat) f.block (r:Nat)).2 !=4)=true:=h3;rw[ne_and24,this]at h3';cases h3'
    refine J.q hX λ_=>?_;refine J.ru hX [1] ?_;exact⟨by rw[last_no hr hI1 h1 hnb],rfl⟩
   ·have hok:((M.look N (d:Nat) f.block (r:Nat)).2==2||(M.look N (d:Nat) f.block (r:Nat)).2==4)=true:=by
     have h3':((M.look N (d:Nat) f.block (r:Nat)).2 !=2&&(M.look N (d:Nat) f.block (r:Nat)).2 !=4)=false:=h3;rw[ne_and24,Bool.not_eq_false']at h3';exact h3'
    refine J.q hX λ_=>?_;refine J.nS (d+1) (⟨by omega,λd' hd'=>by
     rcases Nat.lt_succ_iff_lt_or_eq.1 hd' with h | h
     ·exact hJ2 d' h
     ·rw[h];exact hok⟩) (by omega) [0,1,2] rfl rfl
  simp only[decide_eq_false_iff_not,Int.ofNat_lt]at h2;have hbl:V.blankRow N f.block (r:Nat)=true:=(blank_iff N f.block r).2 λd' hd'=>hJ2 d' (by omega);refine J.q hX λ_=>?_;refine J.nS (r+1) (⟨by omega,by omega,λr' h3 h4=>by
   rcases Nat.lt_succ_iff_lt_or_eq.1 h4 with h | h
   ·exact hI3 r' h3 h
   ·rw[h];exact hbl⟩) (by omega) [0,1,2] rfl rfl
 simp only[decide_eq_false_iff_not,Int.ofNat_lt]at h1;have hlast:=last_yes hr λr' h2 h3=>hI3 r' h2 (by omega);refine J.q hX λ_=>?_;refine J.plan (.take true 0 (.take false 1 (.take true 2 (.take true 3 (.take false 4 (.take true 5 (.take true 6 (.take false 7 (.take true 9 (.take true 10 (.take false 11 (.take true 12 (.take true 13 (.take false 14 (.alt false 8 ((.of [60,66,71])) (.alt false 16 ((.of [34,60,71])) .non)))))))))))))))) [17] [2] (by rw[hX.hP];kernel_rfl) (by kernel_rfl) ?_;refine J.join (α:=Nat) (λx=>[⟨9, .pointer (some ⟨x,0,none⟩),4, .tt⟩,⟨3, .pointer (some ⟨bb 0,0,none⟩),3, .tt⟩,⟨0, .pointer (some ⟨p,0,none⟩),2, .tt⟩]) (λx=>[.hp F,NandA p N, .pt (bb 0) 142 (fnL f), .pt x 53 [.int .i64 (G.parity f.mask f.block f.row), .int .i64 f.block, .int .i64 f.row]]) (λhj=>?_) (λx=>?_)
 ·refine J.q hX λ_=>?_;refine J.alts ?_ ?_
  ·refine J.q hX λ_=>?_;refine J.cb hX (f6_Parity f.mask f.block f.row) [] ?_;refine cpq ⟨_,rfl,(by first | exact trivial | (repeat' (first | exact trivial | refine⟨rfl,?_⟩))),?_⟩;refine J.qn hX 2 λb7=>?_;refine J.qn hX 2 λ_=>?_;exact J.goto [0,1,2,3] (hj (b7 0)) ⟨rfl,rfl,rfl,trivial⟩ rfl rfl
  ·refine J.qn hX 1 λb7=>?_;refine J.q hX λ_=>?_;refine J.cb hX (f6_Parity f.mask f.block f.row) [] ?_;refine cpq ⟨_,rfl,(by first | exact trivial | (repeat' (first | exact trivial | refine⟨rfl,?_⟩))),?_⟩;refine J.qn hX 3 λ_=>?_;exact J.goto [0,1,2,3] (hj (b7 0)) ⟨rfl,rfl,rfl,trivial⟩ rfl rfl
 refine J.q hX λ_=>?_;refine J.cb hX (f9_Look p N hN hR (G.parity f.mask f.block f.row) f.block f.row) [1] ?_;refine cpq ⟨_,rfl,trivial,?_⟩;refine J.q hX λ_=>?_;refine J.ru hX [1] ?_;exact⟨by rw[hlast],rfl⟩
end Go.Proofs.YtdocmcapegcoeaaGreat
