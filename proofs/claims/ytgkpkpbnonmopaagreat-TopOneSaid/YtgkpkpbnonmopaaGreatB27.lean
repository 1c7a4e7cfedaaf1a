/- Helpers, proved here. No condition. -/
import Derived.Test.YtgkpkpbnonmopaaGreatB06
import Derived.Test.YtgkpkpbnonmopaaGreatB08
import Derived.Test.YtgkpkpbnonmopaaGreatB19
import Derived.Test.YtgkpkpbnonmopaaGreatB23
import Derived.Test.YtgkpkpbnonmopaaGreatB26
set_option maxRecDepth 20000
set_option linter.all false
namespace Go.Proofs.YtgkpkpbnonmopaaGreat
open Go Go.RowKit
namespace Inv
variable {fd : Int} {S : Dv} {k m : Nat} {W : List (Int × En)}
end Inv
def cur (W:List (Int×En)) (L:List En) (i:Int):List UInt8:=match L.find? (λx=>x.lpn==i)with
 | some e=>e.data
 | none=>match Tb.look W i with
  | some e=>e.data
  | none=>zeros16
structure FI (fd:Int) (W:List (Int×En)) (lg:Nat) (F:Fv):Prop where
 inv:Inv fd F.S
 hd:Hd F.S W
 wok:WOk W
 wr:∀i e,Tb.look W i=some e->e.role≠4
 log:F.S.T.logical=(lg:Int)
 lgn:F.lg=(lg:Int)
 lg2:lg<=200
 des:∀e∈F.L,FitR e/\e.role≠4/\e.lpn<(lg:Int)
 nd:(F.L.map (·.lpn)).Nodup
 off:F.off=false
theorem find_none {L:List En} {i:Int}:L.find? (λx=>x.lpn==i)=none↔i∉L.map (·.lpn):=by
 rw[List.find?_eq_none];constructor
 ·intro h hm;obtain⟨x,hx,e⟩:=List.mem_map.1 hm;exact h x hx (by simp[e])
 ·intro h x hx hb;exact h (List.mem_map.2 ⟨x,hx,by simpa using hb⟩)
theorem b1L {L:List En} (hnd:(L.map (·.lpn)).Nodup) {e:En} (he:e∈L):L.find? (λx=>x.lpn==e.lpn)=some e:=by
 induction L with
 | nil=>cases he
 | cons x L ih=>
  simp only[List.map_cons,List.nodup_cons]at hnd;rw[List.find?_cons];rcases List.mem_cons.1 he with rfl | he
  ·simp
  ·have:(x.lpn==e.lpn)=false:=by
    rw[beq_eq_false_iff_ne];intro e2;exact hnd.1 (by rw[e2];exact List.mem_map_of_mem he)
   rw[this];exact ih hnd.2 he
theorem a5R {L:List En} (hnd:(L.map (·.lpn)).Nodup) (n:Nat):H1 L (L.take n)=L.drop n:=by
 unfold H1;have hsp:L=L.take n++L.drop n:=(List.take_append_drop n L).symm;have hnd2:=hnd;rw[hsp,List.map_append,List.nodup_append]at hnd2;obtain⟨_,_,hdis⟩:=hnd2
 conv=>lhs;arg 2;rw[hsp]
 rw[List.filter_append];have h1:(L.take n).filter (λx=>!((L.take n).any λe=>e.lpn==x.lpn&&e.seq==x.seq))=[]:=by
  rw[List.filter_eq_nil_iff];intro x hx;have:((L.take n).any λe=>e.lpn==x.lpn&&e.seq==x.seq)=true:=List.any_eq_true.2 ⟨x,hx,by simp⟩;rw[this];simp
 have h2:(L.drop n).filter (λx=>!((L.take n).any λe=>e.lpn==x.lpn&&e.seq==x.seq))=L.drop n:=by
  rw[List.filter_eq_self];intro x hx;have:((L.take n).any λe=>e.lpn==x.lpn&&e.seq==x.seq)=false:=by
   rw[<- Bool.not_eq_true,List.any_eq_true];rintro⟨e,he,hb⟩;simp only[Bool.and_eq_true,beq_iff_eq]at hb;exact hdis _ (List.mem_map_of_mem he) _ (List.mem_map_of_mem hx) hb.1
  rw[this];rfl
 rw[h1,h2];rfl
theorem a8v {W:List (Int×En)} {L:List En} (hnd:(L.map (·.lpn)).Nodup) (n:Nat) (hn:n<=L.length) (i:Int):cur (K8 W L n) (L.drop n) i=cur W L i:=by
 have hdisj:∀a b,a<b->b<n->(L.getD a En.zero).lpn≠(L.getD b En.zero).lpn:=λa b hab hb e=>by
  have g1:a<L.length:=by omega
  have g2:b<L.length:=by omega
  have h3:(L.map (·.lpn))[a]? =(L.map (·.lpn))[b]?:=by
   rw[List.getElem?_map,List.getElem?_map,List.getElem?_eq_getElem g1,List.getElem?_eq_getElem g2];rw[List.getD_eq_getElem?_getD,List.getD_eq_getElem?_getD,List.getElem?_eq_getElem g1,List.getElem?_eq_getElem g2]at e;exact congrArg some e
  have:=(List.getElem?_inj (by rw[List.length_map];exact g1) hnd).1 h3;omega
 obtain⟨w1,w2⟩:=K7 (W:=W) (l:=L) n hdisj;have hsp:L=L.take n++L.drop n:=(List.take_append_drop n L).symm;have hnd2:=hnd;rw[hsp,List.map_append,List.nodup_append]at hnd2;obtain⟨hn1,hn2,hdis⟩:=hnd2
 by_cases hi:i∈(L.take n).map (·.lpn)
 ·obtain⟨e,he,rfl⟩:=List.mem_map.1 hi;have hf:=b1L hnd (List.mem_of_mem_take he);have hnone:(L.drop n).find? (λx=>x.lpn==e.lpn)=none:=find_none.2 λhm=>hdis _ hi _ hm rfl;obtain⟨j,hj,hje⟩:=List.mem_iff_getElem.1 he;rw[List.length_take]at hj;have hge:L.getD j En.zero=e:=by
   rw[List.getD_eq_getElem?_getD,List.getElem?_eq_getElem (by omega),Option.getD_some,<- hje,List.getElem_take]
  have hl:=w1 j (by omega);rw[hge]at hl;unfold cur;rw[hnone,hf];dsimp only;rw[hl]
 ·have h1:(L.take n).find? (λx=>x.lpn==i)=none:=find_none.2 hi;have h2:L.find? (λx=>x.lpn==i)=(L.drop n).find? (λx=>x.lpn==i):=by
   conv=>lhs;rw[hsp]
   rw[List.find?_append,h1];rfl
  have h3:Tb.look (K8 W L n) i=Tb.look W i:=w2 i λj hj e=>hi (List.mem_map.2 ⟨L.getD j En.zero,by
   rw[List.getD_eq_getElem?_getD,List.getElem?_eq_getElem (by omega),Option.getD_some];exact List.mem_iff_getElem.2 ⟨j,by rw[List.length_take];omega,List.getElem_take ..⟩,e⟩)
  unfold cur;rw[h2,h3]
theorem a6d {W:List (Int×En)} {L:List En} (hW:WOk W) (hr:∀i e,Tb.look W i=some e->e.role≠4) (hL:∀e∈L,FitR e/\e.role≠4):∀n,n<=L.length->WOk (K8 W L n)/\∀i e,Tb.look (K8 W L n) i=some e->e.role≠4
 | 0,_=>⟨hW,hr⟩
 | n+1,hn=>by
  obtain⟨h1,h2⟩:=a6d hW hr hL n (by omega);have hm:=hL _ (K0 (show n<L.length by omega));rw[P8];refine⟨h1.put hm.1,λi e he=>?_⟩;rw[Tb.look_put1]at he;split at he
  ·injection he with he;rw[<- he];exact hm.2
  ·exact h2 i e he
namespace FI
variable {fd : Int} {W : List (Int × En)} {lg k m : Nat} {F : Fv}
theorem ask (h:FI fd W lg F):F.ask=F:=by
 unfold Fv.ask;rw[h.inv.lit.off,h.off];have:=h.off;cases F;dsimp only at this;rw[this];rfl
theorem len (h:FI fd W lg F):F.L.length<=lg:=by
 have h1:=a0y (K:=F.L.map (·.lpn)) (M:=(List.range lg).map λi:Nat=>(i:Int)) h.nd λx hx=>by
  obtain⟨e,he,rfl⟩:=List.mem_map.1 hx;obtain⟨d1,_,d3⟩:=h.des e he;have:=d1.lpn;exact List.mem_map.2 ⟨e.lpn.toNat,List.mem_range.2 (by omega),by omega⟩
 simpa using h1
theorem get (h:FI fd W lg F) (i:Int):F.get i=(cur W F.L i,0):=by
 unfold Fv.get cur W5;cases hf:F.L.find? (λx=>x.lpn==i)with
 | some e=>rfl
 | none=>
  dsimp only;rw[if_neg Bool.false_ne_true];cases hw:Tb.look W i with
  | none=>rw[h.hd.none hw]
  | some e=>
   obtain⟨h1,a,ha,hr⟩:=h.hd.each i e hw;obtain⟨y,hy,_,_,hyr⟩:=h.inv.read ha;have hwe:=h.wok i e hw;rw[hr]at hy;have her:e.role=a.role:=by injection hy with hy;rw[<- hyr,<- hy]
   have h4:=h.wr i e hw;rw[ha];dsimp only;rcases hwe.2.role with r | ⟨r | r,hz⟩
   ·rw[if_neg (by omega),if_neg (by omega),hr];dsimp only;rw[if_neg];rintro(x | x | x)
    ·exact x rfl
    ·exact x hwe.1
    ·exact x rfl
   ·rw[if_pos (by omega),hz]
   ·exact absurd r h4
theorem read (h:FI fd W lg F) (i:Int):F.read i=if i<0\/i>=(lg:Int)then(F,zeros16,3)else(F,cur W F.L i,0):=by
 unfold Fv.read;rw[h.ask,h.off,if_neg Bool.false_ne_true,h.lgn,h.get]
theorem writes (h:FI fd W lg F) (hO:F.S.Ok (Dv.costM+(8*Dv.fuel+k)) m) (hnx:F.S.next<=1099511627775-30000000):
  ∃(F':Fv) (e:Int) (W':List (Int×En)),F.writes=(F',e)/\(e=0\/e=11)/\FI fd W' lg F'/\(∀i,cur W' F'.L i=cur W F.L i)/\F'.S.Ok k m/\F'.S.next<=F.S.next+20000000/\F'.nx=F.nx/\F'.S.N.broken=F.S.N.broken/\F.S.N.Like F'.S.N/\F'.L.length<=F.L.length/\(e=0->F.L.length≠0->F'.L.length<F.L.length):=by
 obtain⟨U,e,u1,u2,u3,u4⟩:=h.inv.room_any hO h.hd h.wok (by have:=h.log;have:=h.lg2;omega) (by omega);have n1:=u3.next;have hlgU:∀V:Dv,U.N.Like V.N->(Fv.lg {F with S:=V})=(lg:Int):=λV hl=>by
  have:=h.lgn;unfold Fv.lg at this ⊢;have hl2:=u3.like.trans hl;show((lgN V.N.dies V.N.blocks V.N.pages:Nat):Int)=_;rw[hl2.dies,hl2.blocks,hl2.pages];exact this
 have hwr:F.writes=(let r:=F.S.room;if r.2≠0 then({F with S:=r.1}.told r.2,r.2)else
  let w:=r.1.pen F.L
  ({F with S:=w.1,L:=H1 F.L (F.L.take w.2.1.toNat)}.told w.2.2,w.2.2)):=rfl
 rw[u1]at hwr;dsimp only at hwr;rcases u2 with rfl | rfl
 ·rw[if_neg (by decide)]at hwr
  by_cases hl0:F.L.length=0
  ·have hL:F.L=[]:=List.eq_nil_of_length_eq_zero hl0;have hpen:U.pen F.L=(U,0,0):=by
    show Dv.write (159+1) U F.L=_;rw[Dv.write_succ,if_pos hl0]
   rw[hpen]at hwr;dsimp only at hwr;rw[show H1 F.L (F.L.take (0:Int).toNat)=F.L from by rw[hL];rfl]at hwr;refine⟨_,0,W,hwr, .inl rfl,⟨u3.inv,u3.hd,h.wok,h.wr,u3.logical.trans h.log,hlgU U (Nand.Like.refl _),h.lg2,h.des,h.nd,?_⟩,λi=>rfl,u4.less (by omega),?_,rfl,u3.broken,u3.like,Nat.le_refl _,λ_ h2=>absurd hl0 h2⟩
   ·show(F.off||(0:Int)==9)=false;rw[h.off];rfl
   ·show U.next<=_;omega
  ·obtain⟨V,n,e,p1,p2,p3,p4⟩:=u3.inv.pen_any u4 u3.hd (λe he=>(h.des e he).1) hl0 h.nd (λe he=>by rw[u3.logical,h.log];exact(h.des e he).2.2) (by omega);have n2:=p3.next;have hn:n<=F.L.length:=by omega
   rw[p1]at hwr;dsimp only at hwr;rw[Int.toNat_natCast,a5R h.nd]at hwr;obtain⟨w1,w2⟩:=a6d h.wok h.wr (λe he=>⟨(h.des e he).1,(h.des e he).2.1⟩) n hn;refine⟨_,e,K8 W F.L n,hwr,by omega,⟨p3.inv,p3.hd,w1,w2,p3.logical.trans (u3.logical.trans h.log),hlgU V p3.like,h.lg2,λx hx=>h.des x (List.mem_of_mem_drop hx),?_,?_⟩,a8v h.nd n hn,p4,?_,rfl,p3.broken.trans u3.broken,u3.like.trans p3.like,?_,λhe0 _=>?_⟩
   ·show((F.L.drop n).map (·.lpn)).Nodup;rw[List.map_drop];exact h.nd.sublist (List.drop_sublist _ _)
   ·show(F.off||e==9)=false;rw[h.off];rcases p2 with⟨rfl,_⟩ | ⟨rfl,_⟩<;>rfl
   ·show V.next<=_;omega
   ·show(F.L.drop n).length<=_;rw[List.length_drop];omega
   ·show(F.L.drop n).length<_;rw[List.length_drop];omega
 ·rw[if_pos (by decide)]at hwr;refine⟨_,11,W,hwr, .inr rfl,⟨u3.inv,u3.hd,h.wok,h.wr,u3.logical.trans h.log,hlgU U (Nand.Like.refl _),h.lg2,h.des,h.nd,?_⟩,λi=>rfl,u4.less (by omega),?_,rfl,u3.broken,u3.like,Nat.le_refl _,λh1=>by cases h1⟩
  ·show(F.off||(11:Int)==9)=false;rw[h.off];rfl
  ·show U.next<=_;omega
end FI
theorem a8n {L:List En} {i j:Int} (h:i≠j):(L.filter λx=>!(x.lpn==j)).find? (λx=>x.lpn==i)=L.find? (λx=>x.lpn==i):=by
 induction L with
 | nil=>rfl
 | cons x L ih=>
  rw[List.filter_cons]
  by_cases e:x.lpn=j
  ·have h1:(!(x.lpn==j))=false:=by simp[e]
   have h2:(x.lpn==i)=false:=by rw[beq_eq_false_iff_ne];omega
   rw[h1,if_neg Bool.false_ne_true,ih,List.find?_cons,h2]
  ·have h1:(!(x.lpn==j))=true:=by simp[e]
   rw[h1,if_pos rfl,List.find?_cons,List.find?_cons,ih]
theorem b6D (W:List (Int×En)) (L:List En) (e:En) (i:Int):cur W (I7 L e) i=if i=e.lpn then e.data else cur W L i:=by
 unfold cur I7;rw[List.find?_append]
 by_cases h:i=e.lpn
 ·subst h;have h1:(L.filter λx=>!(x.lpn==e.lpn)).find? (λx=>x.lpn==e.lpn)=none:=by
   rw[List.find?_eq_none];intro x hx hb;have:=(List.mem_filter.1 hx).2;rw[hb]at this;cases this
  rw[h1,if_pos rfl];simp
 ·rw[a8n h,if_neg h];have h2:[e].find? (λx=>x.lpn==i)=none:=by
   rw[List.find?_eq_none];intro x hx hb;simp at hx;subst hx;exact h (eq_of_beq hb).symm
  rw[h2,Option.or_none]
namespace FI
variable {fd : Int} {W : List (Int × En)} {lg k m : Nat} {F : Fv}
theorem put (h:FI fd W lg F) {e:En} (he:FitR e/\e.role≠4/\e.lpn<(lg:Int)):FI fd W lg (F.put e)/\∀i,cur W (F.put e).L i=if i=e.lpn then e.data else cur W F.L i:=by
 refine⟨⟨h.inv,h.hd,h.wok,h.wr,h.log,h.lgn,h.lg2,λx hx=>?_,?_,h.off⟩,λi=>b6D W F.L {e with seq:=F.nx} i⟩
 ·have hx:x∈(F.L.filter λy:En=>!(y.lpn==e.lpn))++[({e with seq:=F.nx}:En)]:=hx;rcases List.mem_append.1 hx with hx | hx
  ·exact h.des x (List.mem_filter.1 hx).1
  ·simp at hx;rw[hx];exact⟨⟨he.1.lpn,he.1.role,he.1.len⟩,he.2.1,he.2.2⟩
 ·show(((F.L.filter λy:En=>!(y.lpn==e.lpn))++[({e with seq:=F.nx}:En)]).map (·.lpn)).Nodup;rw[List.map_append,List.nodup_append];refine⟨List.Nodup.sublist ((List.filter_sublist (p:=λx:En=>!(x.lpn==e.lpn)) (l:=F.L)).map (·.lpn)) h.nd,by simp,λa ha b hb hab=>?_⟩;obtain⟨x,hx,rfl⟩:=List.mem_map.1 ha;simp at hb;have:=(List.mem_filter.1 hx).2;rw[hab,hb]at this;simp at this
theorem waits (h:FI fd W lg F) (hO:F.S.Ok (Dv.costM+(8*Dv.fuel+k)) m) (hnx:F.S.next<=1099511627775-30000000) {e:En} (he:0<=e.lpn->e.lpn<(lg:Int)->FitR e/\e.role≠4):
  ∃(F':Fv) (er:Int) (W':List (Int×En)),F.waits e=(F',er)/\FI fd W' lg F'/\F'.S.Ok k m/\F'.S.next<=F.S.next+20000000/\F'.S.N.broken=F.S.N.broken/\F.S.N.Like F'.S.N/\
   ((er=0/\0<=e.lpn/\e.lpn<(lg:Int)/\∀i,cur W' F'.L i=if i=e.lpn then e.data else cur W F.L i)\/((er=3/\¬(0<=e.lpn/\e.lpn<(lg:Int))\/er=11)/\∀i,cur W' F'.L i=cur W F.L i)):=by
 unfold Fv.waits;rw[h.ask,h.off,if_neg Bool.false_ne_true,h.lgn]
 by_cases hr:e.lpn<0\/e.lpn>=(lg:Int)
 ·rw[if_pos hr];exact⟨F,3,W,rfl,h,hO.less (by omega),by omega,rfl,Nand.Like.refl _, .inr ⟨.inl ⟨rfl,by omega⟩,λ_=>rfl⟩⟩
 ·rw[if_neg hr];obtain⟨h1,h2⟩:=he (by omega) (by omega)
  by_cases hs:(F.L.length:Int)>=F.S.slots
  ·rw[if_pos hs];obtain⟨G,er,W',w1,w2,w3,w4,w5,w6,_,w7,w8,_,_⟩:=h.writes hO hnx;rw[w1];dsimp only;rcases w2 with rfl | rfl
   ·rw[if_neg (by decide)];obtain⟨p1,p2⟩:=w3.put (e:=e) ⟨h1,h2,by omega⟩;exact⟨_,0,W',rfl,p1,w5,w6,w7,w8, .inl ⟨rfl,by omega,by omega,λi=>by rw[p2,w4]⟩⟩
   ·rw[if_pos (by decide)];exact⟨_,11,W',rfl,w3,w5,w6,w7,w8, .inr ⟨.inr rfl,w4⟩⟩
  ·rw[if_neg hs];obtain⟨p1,p2⟩:=h.put (e:=e) ⟨h1,h2,by omega⟩;exact⟨_,0,W,rfl,p1,hO.less (by omega),by show F.S.next<=_;omega,rfl,Nand.Like.refl _, .inl ⟨rfl,by omega,by omega,p2⟩⟩
def costW:Nat:=Dv.costM+8*Dv.fuel
end FI
theorem b6I (D B P:Nat):V.all (Nand.new D B P)=[]:=by
 unfold V.all;rw[List.flatMap_eq_nil_iff];intro b _;rw[List.flatMap_eq_nil_iff];intro r _;refine b2c λd=>?_;have:=a9j (N:=Nand.new D B P) (d:=(d:Nat)) (b:=(b:Nat)) (r:=(r:Nat)) (Nat.zero_le _);omega
theorem b0s (N:Nand) (n:Int):∀k,V.goS N [] n k=⟨Tb.new n,[],[],[]⟩
 | 0=>rfl
 | k+1=>by
  rw[V.goS_succ,b0s N n k];unfold V.step;rw[if_neg];show¬(V.standOf (V.of [] k)).2=true;rw[show V.of [] (k:Int)=[]from rfl,V.standOf_nil];exact Bool.false_ne_true
theorem b2Q (D B P:Nat) (n:Int):V.scan (Nand.new D B P) n=⟨Tb.new n,[],0,[],1,0⟩:=by
 unfold V.scan V.scanOf;rw[b6I,b0s];have h1:p6 (J5 [])=[]:=a5s;dsimp only;rw[h1];rfl
theorem b2P {t:Tl} (hl:t.l.length=t.b) (k:Int):t.set k (t.at_ k)=t:=by
 unfold Tl.set;split
 ·rename_i h;have hk:=Tl.get_at hl h;have:t.l.set k.toNat (t.at_ k)=t.l:=by
   apply List.ext_getElem?;intro i;rw[List.getElem?_set];split
   ·rename_i e;subst e;rw[hk];split
    ·rfl
    ·rename_i h2;rw[List.getElem?_eq_none (by omega)]at hk;cases hk
   ·rfl
  rw[this]
 ·rfl
theorem a9G (D B P:Nat) (b:Int):(Tl.new D B P).at_ b=Sb.zero:=by
 unfold Tl.new Tl.at_;dsimp only;rw[List.getD_eq_getElem?_getD,List.getElem?_replicate];split<;>rfl
theorem b5U (D B P:Nat) (b d:Nat):Tl.ofD (Nand.new D B P) b (Tl.new D B P) d=Tl.new D B P:=by
 have hw:(Nand.new D B P).wornAt d b=0:=by unfold Nand.wornAt;split<;>rfl
 have hn:(Nand.new D B P).next d b=0:=by unfold Nand.next;split<;>rfl
 have h1:(Tl.new D B P).wore b 0=Tl.new D B P:=by
  have h2:=b2P (t:=Tl.new D B P) (by show(List.replicate B Sb.zero).length=B;rw[List.length_replicate]) (b:Int);unfold Tl.wore;rw[a9G]at h2 ⊢;exact h2
 unfold Tl.ofD;dsimp only;rw[hw,hn,h1,if_neg];simp
theorem b7x (D B P:Nat):Tl.of (Nand.new D B P)=Tl.new D B P:=by
 have hd:Dv.seeDead (Nand.new D B P) (Tl.new D B P)=Tl.new D B P:=a8U λi=>by
  show(List.replicate D false).getD i false=false;rw[List.getD_eq_getElem?_getD,List.getElem?_replicate];split<;>rfl
 have h1:∀(b:Nat) (q:List Nat),q.foldl (Tl.ofD (Nand.new D B P) b) (Tl.new D B P)=Tl.new D B P:=by
  intro b q
  induction q with
  | nil=>rfl
  | cons d q ih=>rw[List.foldl_cons,b5U,ih]
 have h2:∀q:List Nat,q.foldl (Tl.ofB (Nand.new D B P)) (Tl.new D B P)=Tl.new D B P:=by
  intro q
  induction q with
  | nil=>rfl
  | cons b q ih=>
   rw[List.foldl_cons];have:Tl.ofB (Nand.new D B P) (Tl.new D B P) b=Tl.new D B P:=h1 b _;rw[this,ih]
 unfold Tl.of;rw[show(Nand.new D B P).dies=D from rfl,show(Nand.new D B P).blocks=B from rfl,show(Nand.new D B P).pages=P from rfl,hd,h2]
theorem b2W {D B P k m:Nat} {lg:Int} (hO:(Dv.new D B P lg).Ok k m):(Dv.new D B P lg).clear=(Dv.new D B P lg,0)/\(Dv.new D B P lg).room=(Dv.new D B P lg,0):=by
 have hg:=hO.gd.ok.bd16;have hg:(3<=D/\D<=6)/\(8<=B/\B<=16)/\(2<=P/\P<=8):=hg;have hsp:g7 (j8 (Dv.new D B P lg).t (Dv.new D B P lg).T) (Dv.new D B P lg).op (Dv.new D B P lg).t.b=[]:=a0O _ λx hx=>by
  have hx:x<B:=hx;unfold j8 Tl.blank;rw[show(Dv.new D B P lg).t=Tl.new D B P from rfl,a9G,Tl.has_iff.2 (show 0<=(x:Int)/\(x:Int)<(Tl.new D B P).b by show 0<=(x:Int)/\(x:Int)<(B:Int);omega)];simp[Sb.zero]
 have hc:(Dv.new D B P lg).clear=(Dv.new D B P lg,0):=by
  unfold Dv.clear Dv.clearX;rw[hsp];rfl
 have hfr:((Dv.new D B P lg).free:Int)>4:=by
  have h1:=(Inv.new (-1) D B P lg).free_len (k:=k) (m:=m) hO;have h2:(Dv.new D B P lg).t.blanks=B:=by
   show(List.replicate B Sb.zero).countP _=B;rw[List.countP_replicate];rfl
  have h1:(Dv.new D B P lg).free=(Dv.new D B P lg).t.blanks:=h1;omega
 refine⟨hc,?_⟩;unfold Dv.room;rw[hc,if_neg (by simp)];obtain⟨c,hc2⟩:∃c,(Dv.new D B P lg).t.b=c+1:=⟨(Dv.new D B P lg).t.b-1,by show B=B-1+1;omega⟩;rw[hc2];show Dv.roomGo (c+1) (Dv.new D B P lg)=_;unfold Dv.roomGo;rw[if_pos hfr]
theorem a0B {D B P k m:Nat} (hO:(Dv.new D B P (lgN D B P)).Ok k m):A6 (Nand.new D B P)=(Dv.new D B P (lgN D B P),0):=by
 obtain⟨c1,c2⟩:=b2W hO;unfold A6;rw[show(Nand.new D B P).dies=D from rfl,show(Nand.new D B P).blocks=B from rfl,show(Nand.new D B P).pages=P from rfl,b2Q,b7x];have e:(⟨Nand.new D B P,Tl.new D B P,Tb.new (lgN D B P),-1,0,0,max 1 1⟩:Dv)=Dv.new D B P (lgN D B P):=rfl;dsimp only;rw[e];have h1:(Dv.new D B P (lgN D B P)).holds [] true=Dv.new D B P (lgN D B P):=rfl;have h2:(Dv.new D B P (lgN D B P)).holds [] false=Dv.new D B P (lgN D B P):=rfl;have h3:(Dv.new D B P (lgN D B P)).torn []=(Dv.new D B P (lgN D B P),0):=rfl;rw[h1,List.take_nil,List.drop_nil,h3];dsimp only;rw[if_neg (by simp),h2,c1];dsimp only;rw[if_neg (by simp),h3];dsimp only;rw[if_neg (by simp)];exact c2
theorem FI.new (fd:Int) {D B P:Nat} (hD:3<=D/\D<=6) (hB:8<=B/\B<=16) (hP:2<=P/\P<=8) (hlg:lgN D B P<=200):FI fd [] (lgN D B P) (Fv.of (Dv.new D B P (lgN D B P))):=
 ⟨Inv.new fd D B P _,⟨rfl,λ_ _ he=>(by cases he)⟩,λ_ _ he=>(by cases he),λ_ _ he=>(by cases he),(by
  show min (max ((lgN D B P:Nat):Int) 0) 65536=_;omega),rfl,hlg,λ_ he=>(by cases he),List.nodup_nil,rfl⟩
namespace Rmy
variable {fd : Int} {S : Dv} {k m β : Nat} {W : List (Int × En)}
theorem pens {E:List En} (h:Rmy fd W S) (hO:S.Ok (8*Dv.fuel+k) m) (hot:Hot2 fd S β) (hr:β<S.rows) (hf:∀e∈E,FitR e) (hl0:E.length≠0) (hnd:(E.map (·.lpn)).Nodup) (hlg:∀e∈E,e.lpn<S.T.logical) (hcap:2*S.T.logical.toNat<=(S.N.blocks-5)*(S.N.pages*(S.N.dies-2))+1) (hnx:S.next<=1099511627775-1200):
  ∃(V:Dv) (n β':Nat),S.pen E=(V,(n:Int),(0:Int))/\1<=n/\n<=E.length/\Rmy fd (K8 W E n) V/\V.Ok k m/\Hot2 fd V β'/\β'<=β/\S.rows+β'<=V.rows+1+β/\S.next<=V.next/\V.next<=S.next+14/\V.N.dead=S.N.dead/\V.N.broken=S.N.broken/\S.N.Like V.N/\V.T.logical=S.T.logical:=by
 obtain⟨V,n,γ,p1,p2,p3,p4⟩:=h.inv.pen_step (E:=E) hO hot hr hf hl0 hnd hlg hnx h.hd;obtain⟨g1,g2⟩:=p2.hot β hot;have hrw:=p2.rows;have hn:=p2.n1;have hlen:(K8 W E n).length=V.T.at_.length:=by
  have:=congrArg List.length p4.keys;simpa using this.symm
 have hal:=a9H p3.T;obtain⟨w1,_⟩:WOk (K8 W E n)/\True:=by
  refine⟨?_,trivial⟩;have:∀j,j<=E.length->WOk (K8 W E j):=by
   intro j
   induction j with
   | zero=>intro _;exact h.wok
   | succ j ih=>
    intro hj;rw[P8];exact(ih (by omega)).put (hf _ (K0 (by omega)))
  exact this n hn
 refine⟨V,n,β-γ,p1,p2.n3,p2.n1,⟨p2.inv,p4,w1,λb hb=>by rw[p2.has]at hb;rw[(p2.sb b hb).1];exact h.held b hb,λhd i j=>by rw[(p2.flags i j).2];exact h.ff (λi=>by rw[<- p2.dead];exact hd i) i j,?_⟩,p3,g2,by omega,by omega,p2.next.1,p2.next.2,p2.dead,p2.broken,p2.like,p2.logical⟩;rw[p2.like.blocks,p2.like.pages,p2.like.dies,hlen];rw[p2.logical]at hal;omega
end Rmy
theorem GI.new (fd:Int) (D B P:Nat) (lg:Int):GI fd [] (Dv.new D B P lg):=
 ⟨Inv.new _ _ _ _ _,⟨rfl,λi e he=>(by cases he)⟩,λi e he=>(by cases he),λi a ha=>(by cases ha),λb r _ _=> .none λd c hc=>(by
  have:(Dv.new D B P lg).N.pageAt d b r=none:=by show(Nand.new D B P).pageAt d b r=none;unfold Nand.pageAt Nand.new;simp
  rw[this]at hc;cases hc),λ_ _ _=>rfl⟩
structure FC (W:List (Int×En)) (lg:Nat) (F:Fv):Prop where
 fi:FI (-1) W lg F
 rmy:Rmy (-1) W F.S
 no:NoF F.S
 rows:5*F.S.N.pages<=F.S.rows+1
 cap:2*lg<=(F.S.N.blocks-5)*(F.S.N.pages*(F.S.N.dies-2))+1
 gi:GI (-1) W F.S
namespace FC
variable {W : List (Int × En)} {lg k m : Nat} {F : Fv}
theorem writes (h:FC W lg F) (hO:F.S.Ok (Dv.costM+(8*Dv.fuel+k)) m) (hnx:F.S.next<=1099511627775-30000000) (hl0:F.L.length≠0):
  ∃(F':Fv) (W':List (Int×En)),F.writes=(F',0)/\FC W' lg F'/\(∀i,cur W' F'.L i=cur W F.L i)/\F'.S.Ok k m/\F'.S.next<=F.S.next+7000/\F'.nx=F.nx/\F'.S.N.broken=F.S.N.broken/\F.S.N.Like F'.S.N/\F'.L.length<F.L.length:=by
 have hg:=hO.gd.ok.bd16;have htb:=hO.t.b;obtain⟨V,β',v1,v2,v3,v4,v5,v6,v7,v8,v9,v10,v11,v12,v13⟩:=h.rmy.room (k:=8*Dv.fuel+k) (hO.less (by
  have:Dv.costR*F.S.t.b<=Dv.costR*16:=Nat.mul_le_mul_left _ (by omega);unfold Dv.costM;omega)) (.calm h.no) (by have:=h.rows;omega) (by omega) (by omega)
 obtain rfl:β'=0:=by omega
 have hmany:=v2.many v3 v4;obtain⟨hg1,hg2⟩:=h.gi.room (k:=8*Dv.fuel+k) hO (.calm h.no) (by have:=h.fi.log;have:=h.fi.lg2;omega) (by omega);rw[v1]at hg1 hg2;have hg1:GI (-1) W V:=hg1;have hg2:Hot2 (-1) V 0:=hg2;have hp:=v11.pages;have hlog:=h.fi.log;have hcap:2*V.T.logical.toNat<=(V.N.blocks-5)*(V.N.pages*(V.N.dies-2))+1:=by
  have:=h.cap;rw[v12,hlog,v11.blocks,v11.pages,v11.dies];omega
 obtain⟨U,n,β2,u1,u2,u3,u4,u5,u6,u7,u8,u9,u10,u11,u12,u13,u14⟩:=v2.pens (E:=F.L) v3 v6 (by omega) (λe he=>(h.fi.des e he).1) hl0 h.fi.nd (λe he=>by rw[v12,hlog];exact(h.fi.des e he).2.2) hcap (by omega);obtain rfl:β2=0:=by omega
 have hgi:GI (-1) (K8 W F.L n) U:=by
  rcases hg1.pen v3 hg2 (λe he=>(h.fi.des e he).1) hl0 h.fi.nd (λe he=>by rw[v12,hlog];exact(h.fi.des e he).2.2) (by omega)with⟨_,hr0⟩ | ⟨U2,n2,q1,_,_,q2,_⟩
  ·omega
  ·rw[u1]at q1;injection q1 with q3 q4;injection q4 with q4 _;have q4:n=n2:=by omega
   rw[q3,q4];exact q2
 obtain⟨w1,w2⟩:=a6d h.fi.wok h.fi.wr (λe he=>⟨(h.fi.des e he).1,(h.fi.des e he).2.1⟩) n u3;have hUno:NoF U:=u6.nof;have hlk:F.S.N.Like U.N:=v11.trans u13;have hwr:F.writes=({F with S:=U,L:=F.L.drop n}.told 0,0):=by
  unfold Fv.writes;rw[v1];dsimp only;rw[if_neg (by decide),u1];dsimp only;rw[Int.toNat_natCast,a5R h.fi.nd]
 refine⟨_,K8 W F.L n,hwr,⟨⟨u4.inv,u4.hd,w1,w2,u14.trans (v12.trans hlog),?_,h.fi.lg2,λx hx=>h.fi.des x (List.mem_of_mem_drop hx),?_,?_⟩,u4,hUno,?_,?_,hgi⟩,a8v h.fi.nd n u3,u5,?_,rfl,u12.trans v10,hlk,?_⟩
 ·have:=h.fi.lgn;unfold Fv.lg at this ⊢;show((lgN U.N.dies U.N.blocks U.N.pages:Nat):Int)=_;rw[hlk.dies,hlk.blocks,hlk.pages];exact this
 ·show((F.L.drop n).map (·.lpn)).Nodup;rw[List.map_drop];exact h.fi.nd.sublist (List.drop_sublist _ _)
 ·show(F.off||(0:Int)==9)=false;rw[h.fi.off];rfl
 ·show 5*U.N.pages<=U.rows+1;rw[u13.pages];omega
 ·show 2*lg<=(U.N.blocks-5)*(U.N.pages*(U.N.dies-2))+1;rw[hlk.blocks,hlk.pages,hlk.dies];exact h.cap
 ·show U.next<=_;omega
 ·show(F.L.drop n).length<_;rw[List.length_drop];omega
theorem put (h:FC W lg F) {e:En} (he:FitR e/\e.role≠4/\e.lpn<(lg:Int)):FC W lg (F.put e)/\∀i,cur W (F.put e).L i=if i=e.lpn then e.data else cur W F.L i:=by
 obtain⟨h1,h2⟩:=h.fi.put he;exact⟨⟨h1,h.rmy,h.no,h.rows,h.cap,h.gi⟩,h2⟩
theorem slots (h:FC W lg F) (hO:F.S.Ok k m):1<=F.S.slots:=by
 have hg:=hO.gd.ok.bd16;exact(h.fi.inv.slots_pos hO (by have:=h.rows;omega)).2
theorem waits (h:FC W lg F) (hO:F.S.Ok (Dv.costM+(8*Dv.fuel+k)) m) (hnx:F.S.next<=1099511627775-30000000) {e:En} (he:FitR e/\e.role≠4/\e.lpn<(lg:Int)):
  ∃(F':Fv) (W':List (Int×En)),F.waits e=(F',0)/\FC W' lg F'/\(∀i,cur W' F'.L i=if i=e.lpn then e.data else cur W F.L i)/\F'.S.Ok k m/\F'.S.next<=F.S.next+7000/\F'.S.N.broken=F.S.N.broken/\F.S.N.Like F'.S.N:=by
 have hlp:=he.1.lpn;unfold Fv.waits;rw[h.fi.ask,h.fi.off,if_neg Bool.false_ne_true,h.fi.lgn,if_neg (by omega)]
 by_cases hs:(F.L.length:Int)>=F.S.slots
 ·rw[if_pos hs];have h1:=h.slots (hO.less (Nat.le_refl _));obtain⟨G,W',w1,w2,w3,w4,w5,_,w6,w7,_⟩:=h.writes hO hnx (by omega);rw[w1];dsimp only;rw[if_neg (by decide)];obtain⟨p1,p2⟩:=w2.put he;exact⟨_,W',rfl,p1,λi=>by rw[p2,w3],w4,w5,w6,w7⟩
 ·rw[if_neg hs];obtain⟨p1,p2⟩:=h.put he;exact⟨_,W,rfl,p1,p2,hO.less (by omega),by show F.S.next<=_;omega,rfl,Nand.Like.refl _⟩
theorem flush_go:∀(f:Nat) (F:Fv) (W:List (Int×En)) (k:Nat),FC W lg F->F.S.Ok (FI.costW*f+k) m->F.L.length<=f->F.S.next+7000*(f:Int)<=1099511627775-30000000->
  ∃(F':Fv) (W':List (Int×En)),Fv.flushGo f F=(F',0)/\FC W' lg F'/\F'.S.Ok k m/\F'.S.next<=F.S.next+7000*(f:Int)/\F'.S.N.broken=F.S.N.broken/\F.S.N.Like F'.S.N/\F'.L=[]/\∀i,cur W' F'.L i=cur W F.L i
 | 0,F,W,k,h,hO,hL,_=>⟨F,W,rfl,h,hO.less (by omega),by omega,rfl,Nand.Like.refl _,List.eq_nil_of_length_eq_zero (by omega),λ_=>rfl⟩
 | f+1,F,W,k,h,hO,hL,hnx=>by
  rw[Fv.flushGo]
  by_cases hl0:F.L.length=0
  ·rw[if_pos hl0];exact⟨F,W,rfl,h,hO.less (by omega),by omega,rfl,Nand.Like.refl _,List.eq_nil_of_length_eq_zero hl0,λ_=>rfl⟩
  ·rw[if_neg hl0];rw[Nat.mul_succ]at hO;obtain⟨G,W',w1,w2,w3,w4,w5,_,w6,w7,w8⟩:=h.writes (k:=FI.costW*f+k) (hO.less (by unfold FI.costW;omega)) (by omega) hl0;rw[w1];dsimp only;rw[if_neg (by decide)];obtain⟨F',W2,r1,r2,r3,r4,r5,r6,r7,r8⟩:=flush_go f G W' k w2 w4 (by omega) (by omega);exact⟨F',W2,r1,r2,r3,by omega,r5.trans w6,w7.trans r6,r7,λi=>(r8 i).trans (w3 i)⟩
theorem flush (h:FC W lg F) (hO:F.S.Ok (FI.costW*200+k) m) (hnx:F.S.next<=1099511627775-50000000):
  ∃(F':Fv) (W':List (Int×En)),F.flush=(F',0)/\FC W' lg F'/\F'.S.Ok k m/\F'.S.next<=F.S.next+1400000/\F'.S.N.broken=F.S.N.broken/\F.S.N.Like F'.S.N/\F'.L=[]/\∀i,cur W' F'.L i=cur W F.L i:=by
 unfold Fv.flush;rw[h.fi.ask,h.fi.off,if_neg Bool.false_ne_true];have hl:=h.fi.len;have h2:=h.fi.lg2;have hm:FI.costW*F.L.length<=FI.costW*200:=Nat.mul_le_mul_left _ (by omega);obtain⟨F',W',r1,r2,r3,r4,r5⟩:=flush_go F.L.length F W k h (hO.less (by omega)) (Nat.le_refl _) (by omega);exact⟨F',W',r1,r2,r3,by omega,r5⟩
theorem new {D B P:Nat} (hD:3<=D/\D<=6) (hB:8<=B/\B<=16) (hP:2<=P/\P<=8) (hlg:lgN D B P<=200) (hcap:2*lgN D B P<=(B-5)*(P*(D-2))+1):FC [] (lgN D B P) (Fv.of (Dv.new D B P (lgN D B P))):=by
 refine⟨FI.new (-1) hD hB hP hlg,⟨Inv.new _ _ _ _ _,⟨rfl,λi e he=>(by cases he)⟩,λi e he=>(by cases he),λb _=>?_,λ_ _ _=>rfl,by simp⟩,NoF.new _ _ _ _,?_,hcap,GI.new _ _ _ _ _⟩
 ·show((Tl.new D B P).at_ b).held=false;rw[a9G];rfl
 ·show 5*P<=(Dv.new D B P (lgN D B P)).rows+1;rw[b0W];have:P*8<=P*B:=Nat.mul_le_mul_left _ hB.1;omega
end FC
namespace GI
variable {fd : Int} {W : List (Int × En)} {S : Dv} {k m : Nat}
end GI
namespace FC
variable {W : List (Int × En)} {lg k m : Nat} {F : Fv}
end FC
structure Fl where
 at_:Int
 kind:Int
 x:Int
 y:Int
 z:Int
 n:Int
 xx:Int
deriving DecidableEq
def dF:Fl:=⟨0,0,0,0,0,0,0⟩
def flC (f:Fl):List Value:=[iI f.at_,iI f.kind,iI f.x,iI f.y,iI f.z,iI f.n,iI f.xx]
def flV (f:Fl):Value:= .agg #[iI f.at_,iI f.kind,iI f.x,iI f.y,iI f.z,iI f.n,iI f.xx]
def i7 (l:List Fl):List Value:=l.flatMap flC
theorem C7 (l:List Fl):(i7 l).length=l.length*7:=by
 induction l with
 | nil=>rfl
 | cons x l ih=>simp only[i7,List.flatMap_cons,List.length_append,List.length_cons]at ih ⊢;rw[ih,show(flC x).length=7 from rfl];omega
theorem D8:∀(l:List Fl) (r:List Value) (k:Nat) (x:Fl),l[k]? =some x->((i7 l++r).drop (k*7)).take 7=flC x
 | [],_,_,_,h=>by simp at h
 | y::l,r,0,x,h=>by simp at h;subst h;simp[i7,flC]
 | y::l,r,k+1,x,h=>by
  have:=D8 l r k x (by simpa using h);rw[show(k+1)*7=7+k*7 from by omega,<- List.drop_drop,show(i7 (y::l)++r).drop 7=i7 l++r from rfl];exact this
theorem O0:∀(l:List Fl) (r:List Value) (k:Nat) (x:Fl),k<l.length->(i7 l++r).take (k*7)++flC x++(i7 l++r).drop (k*7+7)=i7 (l.set k x)++r
 | [],_,_,_,h=>by simp at h
 | y::l,r,0,x,h=>by rw[Nat.zero_mul,List.take_zero];rfl
 | y::l,r,k+1,x,h=>by
  have:=O0 l r k x (by simpa using h);rw[List.set_cons_succ,show i7 (y::l)++r=flC y++(i7 l++r)from by simp[i7],show(k+1)*7=(flC y).length+k*7 from by show _=7+k*7;omega,List.take_length_add_append,show(flC y).length+k*7+7=(flC y).length+(k*7+7)from by omega,List.drop_length_add_append,List.append_assoc,List.append_assoc,<- List.append_assoc (List.take _ _),this];simp[i7]
def a4Q (l:List Fl) (j:Nat):List Fl:=(l.set j (l.getD (j-1) dF)).set (j-1) (l.getD j dF)
def a3E (f:Fl->Fl->Int):Nat->List Fl->List Fl
 | 0,l=>l
 | j+1,l=>if f (l.getD (j+1) dF) (l.getD j dF)<0 then a3E f j (a4Q l (j+1))else l
def E6 (f:Fl->Fl->Int) (l:List Fl):Nat->List Fl
 | 0=>l
 | k+1=>a3E f (k+1) (E6 f l k)
def B5 (f:Fl->Fl->Int) (l:List Fl):List Fl:=E6 f l (l.length-1)
theorem a1k (l:List Fl) (j:Nat):(a4Q l j).length=l.length:=by simp[a4Q]
theorem b0P (l:List Fl) (j:Nat) (h:j+1<l.length):(a4Q l (j+1)).Perm l:=by
 induction l generalizing j with
 | nil=>simp at h
 | cons x l ih=>
  cases j with
  | zero=>
   cases l with
   | nil=>simp at h
   | cons y l=>simp only[a4Q,List.set_cons_succ,List.set_cons_zero,Nat.add_sub_cancel,Nat.zero_add,List.getD_cons_zero,List.getD_cons_succ];exact List.Perm.swap _ _ _
  | succ j=>
   have:=ih j (by simpa using h);simp only[a4Q,Nat.add_sub_cancel,List.set_cons_succ,List.getD_cons_succ]at this ⊢;exact this.cons x
theorem a0N (f:Fl->Fl->Int):∀(j:Nat) (l:List Fl),j<l.length->(a3E f j l).Perm l
 | 0,l,_=>List.Perm.refl _
 | j+1,l,h=>by
  unfold a3E;split
  ·exact(a0N f j _ (by rw[a1k];omega)).trans (b0P l j h)
  ·exact List.Perm.refl _
theorem a1D (f:Fl->Fl->Int) (l:List Fl):∀k,k<l.length->(E6 f l k).Perm l/\(E6 f l k).length=l.length
 | 0,_=>⟨List.Perm.refl _,rfl⟩
 | k+1,h=>by
  obtain⟨h1,h2⟩:=a1D f l k (by omega);exact⟨(a0N f (k+1) _ (by omega)).trans h1,by rw[E6,(a0N f (k+1) _ (by omega)).length_eq,h2]⟩
theorem a2G (f:Fl->Fl->Int) (l:List Fl):(B5 f l).Perm l:=by
 cases l with
 | nil=>exact List.Perm.refl _
 | cons x l=>exact(a1D f (x::l) _ (by simp)).1
theorem a5f (f:Fl->Fl->Int):∀(j:Nat) (l:List Fl),(a3E f j l).length=l.length
  | 0,l=>rfl
  | j + 1, l => by unfold a3E; split
                   · rw[a5f f j,a1k]
                   · rfl
theorem a2H (f:Fl->Fl->Int) (l:List Fl):∀k,(E6 f l k).length=l.length
 | 0=>rfl
 | k+1=>by rw[E6,a5f,a2H f l k]
theorem b6l (c:Nat) (f:Fl->Fl->Int) (hcal:o0 Tryz.prog c=true) (hf:∀x y,Fn Tryz.prog c [flV x,flV y] [] (λv As=>v=iI (f x y)/\As=[]))
  (g n cap:Nat) (l:List Fl) (hl:l.length=n) (hn:n<=4611686018427387904) (r:List Value):FP 249 [.slice (some ⟨g,0,none⟩) n cap,iI 0,iI n,fnV c] [.pt g 54 (i7 l++r)]
  (λv As=>v= .tuple #[]/\As=[.pt g 54 (i7 (B5 f l)++r)]):=by
 refine FE [2,0,0,0] Tryz.func249 λX F hX=>?_;refine J.q λ_=>?_;refine J.lo (α:=Nat) (λi=>1<=i/\i<=max 1 n) (λi=>[si 8 i,⟨0, .slice (some ⟨g,0,none⟩) n cap,2, .tt⟩,si 1 0,si 2 n,⟨3,fnV c,0, .tt⟩]) [1] (λi=>[.pt g 54 (i7 (E6 f l (i-1))++r)]) (λi=>n-i) (1) (⟨by omega,by omega⟩) rfl ?_ (λ_=>rfl) λi hI=>?_
 ·rfl
 refine J.qd (λ_ h1=>?_) λ_ h1=>?_
 ·simp only[decide_eq_true_eq,Int.ofNat_lt]at h1;refine J.q λ_=>?_;refine J.lo (α:=(Nat×List Fl)) (λy=>y.1<=i/\y.2.length=n/\a3E f y.1 y.2=E6 f l i) (λy=>[si 9 y.1,si 8 i,⟨0, .slice (some ⟨g,0,none⟩) n cap,2, .tt⟩,si 1 0,si 2 n,⟨3,fnV c,0, .tt⟩]) [1] (λy=>[.pt g 54 (i7 y.2++r)]) (λy=>y.1) ((i,E6 f l (i-1))) (⟨Nat.le_refl _,by rw[a2H,hl],by obtain⟨k,rfl⟩:∃k,i=k+1:=⟨i-1,by omega⟩;rfl⟩) rfl ?_ (λ_=>rfl) λy hI=>?_
  ·rfl
  obtain⟨j,m⟩:=y;dsimp only at hI ⊢;have hget:∀e,e<n->m[e]? =some (m.getD e dF):=λe he=>by rw[List.getD_eq_getElem?_getD,List.getElem?_eq_getElem (by omega),Option.getD_some]
  rcases Nat.eq_zero_or_pos j with h2 | h2
  ·subst h2;refine J.pn 4 (.of [0,4,8,12,16,20,24,28,33,36,40,44,48,53,58,60,64]) [] [1] λ_ _=>?_;rw[show decide (((0:Nat):Int)>0)=false from rfl];refine J.q λ_=>?_;refine J.vT (flV dF) rfl rfl (λhg a w he hC=>by simp[G.on]at hg) ?_;refine J.q λ_=>?_;refine J.vT (flV dF) rfl rfl (λhg a w he hC=>by simp[G.on]at hg) ?_;refine J.q λ_=>?_;refine J.gcase hX rfl rfl rfl ⟨rfl,trivial⟩ (λh=>by cases h) (λ_=>?_);refine J.vT (.bool false) rfl rfl (λhg a w he hC=>by simp[G.on]at hg) ?_;refine J.qF λ_=>?_;have hm:m=E6 f l (i+1-1):=hI.2.2;rw[hm];refine J.q λ_=>?_;refine J.nS (i+1) (⟨by omega,by omega⟩) (by omega) [0,1] rfl rfl
  ·obtain⟨j,rfl⟩:∃k,j=k+1:=⟨j-1,by omega⟩;refine J.pn 4 (.of [0,4,8,12,16,20,24,28,33,36,40,44,48,53,58,60,64]) [] [1] λ_ _=>?_;rw[show decide (((j+1:Nat):Int)>0)=true from decide_eq_true (by omega)];refine J.q λ_=>?_;refine J.vT (flV (m.getD (j+1) dF)) rfl rfl (λhg a w he hC=>?_) ?_
   ·exact m6 tk rfl rfl he hg rfl rfl (hC rfl _ (i9 (i:=1) rfl)) (by rw[show 0+((j+1:Nat):Int).toNat*7=(j+1)*7 from by omega];exact D8 m r _ _ (hget _ (by omega))) rfl
   refine J.q λ_=>?_;refine J.vT (flV (m.getD j dF)) rfl rfl (λhg a w he hC=>?_) ?_
   ·exact m6 tk rfl rfl he hg rfl rfl (hC rfl _ (i9 (i:=1) rfl)) (by rw[show 0+(((j+1:Nat):Int)-1).toNat*7=j*7 from by omega];exact D8 m r _ _ (hget _ (by omega))) rfl
   refine J.q λ_=>?_;refine J.call hX hcal (hf (m.getD (j+1) dF) (m.getD j dF)) [] 0 rfl rfl rfl rfl (by(repeat' (first | exact Conj.nil | refine Conj.cons ?_ ?_ | omega | exact hq0 | (simpa using hq0) | (exactλh=>h) | exact rfl | (intro hq;have hq0:=hq;try simp only[Bool.and_eq_true,Bool.or_eq_true,decide_eq_true_eq,Bool.not_eq_true',decide_eq_false_iff_not]at hq) | (simp;done) | (simp;omega) | decide))) rfl rfl (λ_=>rfl) ?_;refine cpq ⟨_,rfl,⟨rfl,trivial⟩,?_⟩;refine J.qd (λ_ h3=>?_) λ_ h3=>?_
   ·simp only[Bool.true_and,decide_eq_true_eq]at h3;refine J.pq (.take true 0 (.take true 1 (.take true 2 (.take true 3 (.take true 4 (.take true 5 (.take true 6 (.take true 7 (.take true 8 (.take true 10 (.take true 11 (.take true 12 (.alt false 9 ((.of [54,56,62,64,71])) (.alt false 13 ((.of [38,56,62,64,71])) .non)))))))))))))) [16,17] [] λ_ _=>?_;refine J.alts ?_ ?_
    ·refine J.v (flV (m.getD j dF)) rfl rfl (λhg a w he hs=>?_) ?_
     ·exact m6 tk rfl rfl he hg rfl rfl (hs.get (i:=1) rfl) (by rw[show 0+(((j+1:Nat):Int)-1).toNat*7=j*7 from by omega];exact D8 m r _ _ (hget _ (by omega))) rfl
     refine J.q λ_=>?_;refine J.v (flV (m.getD (j+1) dF)) rfl rfl (λhg a w he hs=>?_) ?_
     ·exact m6 tk rfl rfl he hg rfl rfl (hs.get (i:=1) rfl) (by rw[show 0+((j+1:Nat):Int).toNat*7=(j+1)*7 from by omega];exact D8 m r _ _ (hget _ (by omega))) rfl
     refine J.q λ_=>?_;refine J.storeN hX tk 1 rfl rfl rfl rfl rfl rfl rfl rfl rfl rfl rfl rfl rfl ?_ (i7 (m.set (j+1) (m.getD j dF))++r) ?_ rfl (λ_=>rfl) ⟨trivial,?_⟩
     ·rw[List.length_append,C7];show 0+((j+1:Nat):Int).toNat*7+7<=_;omega
     ·rw[show 0+((j+1:Nat):Int).toNat*7=(j+1)*7 from by omega];exact O0 m r (j+1) _ (by omega)
     refine J.q λ_=>?_;refine J.storeN hX tk 1 rfl rfl rfl rfl rfl rfl rfl rfl rfl rfl rfl rfl rfl ?_ (i7 (a4Q m (j+1))++r) ?_ rfl (λ_=>rfl) ⟨trivial,?_⟩
     ·rw[List.length_append,C7,List.length_set];show 0+(((j+1:Nat):Int)-1).toNat*7+7<=_;omega
     ·rw[show 0+(((j+1:Nat):Int)-1).toNat*7=j*7 from by omega];exact O0 _ r j _ (by rw[List.length_set];omega)
     refine J.q λ_=>?_;rw[show((j+1:Nat):Int)-1=(j:Int)from by omega];refine J.q λ_=>?_;refine J.nS ((j,a4Q m (j+1))) (⟨by dsimp only;omega,by rw[a1k];exact hI.2.1,by rw[<- hI.2.2];exact(if_pos h3).symm⟩) (by dsimp only;omega) [0,1] rfl rfl
    ·refine J.v (flV (m.getD (j+1) dF)) rfl rfl (λhg a w he hs=>?_) ?_
     ·exact m6 tk rfl rfl he hg rfl rfl (hs.get (i:=1) rfl) (by rw[show 0+((j+1:Nat):Int).toNat*7=(j+1)*7 from by omega];exact D8 m r _ _ (hget _ (by omega))) rfl
     refine J.q λ_=>?_;refine J.v (flV (m.getD j dF)) rfl rfl (λhg a w he hs=>?_) ?_
     ·exact m6 tk rfl rfl he hg rfl rfl (hs.get (i:=1) rfl) (by rw[show 0+(((j+1:Nat):Int)-1).toNat*7=j*7 from by omega];exact D8 m r _ _ (hget _ (by omega))) rfl
     refine J.q λ_=>?_;refine J.storeN hX tk 1 rfl rfl rfl rfl rfl rfl rfl rfl rfl rfl rfl rfl rfl ?_ (i7 (m.set (j+1) (m.getD j dF))++r) ?_ rfl (λ_=>rfl) ⟨trivial,?_⟩
     ·rw[List.length_append,C7];show 0+((j+1:Nat):Int).toNat*7+7<=_;omega
     ·rw[show 0+((j+1:Nat):Int).toNat*7=(j+1)*7 from by omega];exact O0 m r (j+1) _ (by omega)
     refine J.q λ_=>?_;refine J.storeN hX tk 1 rfl rfl rfl rfl rfl rfl rfl rfl rfl rfl rfl rfl rfl ?_ (i7 (a4Q m (j+1))++r) ?_ rfl (λ_=>rfl) ⟨trivial,?_⟩
     ·rw[List.length_append,C7,List.length_set];show 0+(((j+1:Nat):Int)-1).toNat*7+7<=_;omega
     ·rw[show 0+(((j+1:Nat):Int)-1).toNat*7=j*7 from by omega];exact O0 _ r j _ (by rw[List.length_set];omega)
     refine J.q λ_=>?_;rw[show((j+1:Nat):Int)-1=(j:Int)from by omega];refine J.q λ_=>?_;refine J.nS ((j,a4Q m (j+1))) (⟨by dsimp only;omega,by rw[a1k];exact hI.2.1,by rw[<- hI.2.2];exact(if_pos h3).symm⟩) (by dsimp only;omega) [0,1] rfl rfl
   ·simp only[Bool.true_and,decide_eq_false_iff_not]at h3;have hm:m=E6 f l (i+1-1):=by rw[show i+1-1=i from rfl,<- hI.2.2];exact(if_neg h3).symm
    rw[hm];refine J.q λ_=>?_;refine J.nS (i+1) (⟨by omega,by omega⟩) (by omega) [0,1] rfl rfl
 ·simp only[decide_eq_false_iff_not,Int.ofNat_lt]at h1;have hi:E6 f l (i-1)=B5 f l:=by
   rw[B5,hl,show i-1=n-1 from by omega]
  rw[hi];refine J.q λ_=>?_;refine J.f [1] ?_;exact⟨rfl,rfl⟩
def Y8 (f n t l p d:Nat) (F:Fv):Atom:= .pt f 125 [pp n,pp t,pp l,pp p,pp d,iI F.nx, .bool F.off]
def FvP (f p n t l d:Nat) (F:Fv):List Atom:=[Y8 f n t l p d F,R6 p n t l F.S,j4 n F.S.N,TlA t F.S.t,TbA l F.S.T,O9 d F.L]
theorem y0 (f n t l p d:Nat) (Z:Fv) (hN:Z.S.N.Ok):FP 31 [pp f] [Y8 f n t l p d Z,j4 n Z.S.N] (λv As=>v=iI Z.lg/\As=[Y8 f n t l p d Z,j4 n Z.S.N]):=by
 have hbd:=hN.bd16;have hlg:=a9p Z.S.N.dies Z.S.N.blocks Z.S.N.pages (by omega) (by omega);refine FE [2] Tryz.func31 λX F hX=>?_;refine J.qF λ_=>?_;refine J.qp (R9 n Z.S.N) [2] λ_=>?_;refine J.qp (a2h Z.S.N.dies Z.S.N.blocks Z.S.N.pages hN.geo) [] λ_=>?_;rw[hlg];exact J.qx [1,2]
theorem X7 (f n t l p d:Nat) (Z:Fv):FP 48 [pp f] [Y8 f n t l p d Z,O9 d Z.L] (λv As=>v=iI Z.L.length/\As=[Y8 f n t l p d Z,O9 d Z.L]):=by
 refine FE [2] Tryz.func48 λX F hX=>?_;refine J.qF λ_=>?_;refine J.qp (a8u d Z.L) [2] λ_=>?_;exact J.qx [1,2]
theorem R1 (f n t l p d:Nat) (Z:Fv):FP 81 [pp f] [Y8 f n t l p d Z,j4 n Z.S.N] (λv As=>v=iI (if Z.ask.off=true then 9 else 0)/\As=[Y8 f n t l p d Z.ask,j4 n Z.S.N]):=by
 have hask:Y8 f n t l p d Z.ask= .pt f 125 [pp n,pp t,pp l,pp p,pp d,iI Z.nx, .bool (Z.off||Z.S.N.off)]:=rfl;have hoa:Z.ask.off=(Z.off||Z.S.N.off):=rfl;rw[hask,hoa];unfold Y8;generalize Z.off=o;refine FE [2] Tryz.func81 λX F hX=>?_;refine J.qF λ_=>?_;refine J.q λ_=>?_;refine J.gcase hX rfl rfl rfl trivial (λhb=>?_) (λhb=>?_)
 ·rw[Bool.not_eq_true']at hb;subst hb;refine J.qp (a1u n Z.S.N) [2] λ_=>?_;refine J.qd (λ_ h1=>?_) λ_ h1=>?_
  ·simp only[Bool.false_or,Bool.not_not]at h1;refine J.qr [1,2] λ_=>?_;rw[h1];exact⟨rfl,rfl⟩
  ·simp only[Bool.false_or,Bool.not_not]at h1;refine J.qr [1,2] λ_=>?_;rw[h1];exact⟨rfl,rfl⟩
 ·rw[Bool.not_eq_false']at hb;subst hb;refine J.q λ_=>?_;refine J.v (.bool false) rfl rfl (λhg a w he hw=>by simp[G.on]at hg) ?_;refine J.qT λ_=>?_;exact J.qx [1,2]
theorem a6N (f n t l p d:Nat) (Z:Fv) (e:Int):FP 89 [pp f,iI e] [Y8 f n t l p d Z] (λv As=>v=iI e/\As=[Y8 f n t l p d (Z.told e)]):=by
 refine FE [2,0] Tryz.func89 λX F hX=>?_;exact J.qx [1]
abbrev a2n (d:List UInt8):Value:= .agg (n7 d).toArray
theorem Fv.slot_bd {S:Dv} {k m:Nat} (hO:S.Ok k m) (i:Int):0<=((Tb.look S.T.at_ i).getD AtV.zero).slot/\((Tb.look S.T.at_ i).getD AtV.zero).slot<=1000:=by
 cases hl:Tb.look S.T.at_ i with
 | none=>show(0:Int)<=0/\(0:Int)<=1000;omega
 | some a=>exact hO.sl _ (Tb.look_mem hl)
theorem E7 (f p n t l d:Nat) (Z:Fv) (k m:Nat) (hO:Z.Ok k m) (i:Int):FP 32 [pp f,iI i] (FvP f p n t l d Z)
  (λv As=>v= .tuple #[a2n (Z.read i).2.1,iI (Z.read i).2.2]/\As=FvP f p n t l d (Z.read i).1):=by
 have hlen:=hO.len;have hN:=hO.dv.gd.ok;refine FE [2,0] Tryz.func32 λX F hX=>?_;refine J.q λbz=>?_;refine J.cb (R1 f n t l p d Z) [1,3] ?_;refine cpq ⟨_,rfl,trivial,?_⟩;have hrd:Z.read i=(if Z.ask.off=true then(Z.ask,zeros16,9)else if i<0\/i>=Z.ask.lg then(Z.ask,zeros16,3)else(Z.ask,Z.ask.get i)):=rfl;obtain⟨Y,hY⟩:∃Y,Y=Z.ask:=⟨_,rfl⟩;have e1:Z.S=Y.S:=by rw[hY];rfl
 have e2:Z.L=Y.L:=by rw[hY];rfl
 rw[<- hY,e1,e2];rw[<- hY]at hrd;rw[e1]at hN;rw[e2]at hlen;cases ho:Y.off with
 | true=>
  rw[ho,if_pos rfl]at hrd;refine J.qT λ_=>?_;refine J.qr [1,2,3,4,5,6] λ_=>?_;rw[hrd];exact⟨rfl,rfl⟩
 | false=>
  rw[ho,if_neg Bool.false_ne_true]at hrd;refine J.qF λ_=>?_;refine J.q λ_=>?_;refine J.gcase hX rfl rfl rfl trivial (λhb=>?_) (λhb=>?_)
  ·have hi:decide (i<0)=false:=by simpa using hb
   rw[hi];refine J.qp (y0 f n t l p d Y hN) [1,3] λ_=>?_;simp only[decide_eq_false_iff_not]at hi;refine J.qd (λ_ h1=>?_) λ_ h1=>?_
   ·simp only[Bool.false_or,ge_iff_le,decide_eq_true_eq]at h1;rw[if_pos (.inr h1)]at hrd;refine J.qr [1,2,3,4,5,6] λ_=>?_;rw[hrd];exact⟨rfl,rfl⟩
   simp only[Bool.false_or,ge_iff_le,decide_eq_false_iff_not]at h1;rw[if_neg (by omega)]at hrd;refine J.qp (b6Z d Y.L (by omega) i) [6] λ_=>?_;have hge:Y.get i=(if(W5 Y.L i).2=true then((W5 Y.L i).1.data,0)else match Tb.look Y.S.T.at_ i with
    | none=>(zeros16,0)
    | some a=>if a.role=2 then(zeros16,0)else if a.role=4 then(zeros16,10)else
     let x:=R.read Y.S.N a.block a.row a.slot a.mask
     if x.2≠0\/x.1.lpn≠i\/x.1.seq≠a.seq then(zeros16,10)else(x.1.data,0):List UInt8×Int):=rfl
   obtain⟨⟨we,wb⟩,hw⟩:∃w,w=W5 Y.L i:=⟨_,rfl⟩;rw[<- hw]at hge ⊢;dsimp only at hge ⊢;refine J.qd (λ_ h2=>?_) λ_ h2=>?_
   ·rw[if_pos h2]at hge;refine J.qr [1,2,3,4,5,6] λ_=>?_;rw[hrd,hge];exact⟨rfl,rfl⟩
   rw[h2,if_neg Bool.false_ne_true]at hge;refine J.qp (a1V l Y.S.T i) [5] λ_=>?_;obtain⟨a,ha⟩:∃a,a=(Tb.look Y.S.T.at_ i).getD AtV.zero:=⟨_,rfl⟩;obtain⟨is,his⟩:∃b,b=(Tb.look Y.S.T.at_ i).isSome:=⟨_,rfl⟩;have hslot:=Fv.slot_bd hO.dv i;rw[e1]at hslot;rw[<- ha]at hslot;rw[<- ha,<- his];cases is with
   | false=>
    cases hl:Tb.look Y.S.T.at_ i with
    | some x=>rw[hl]at his;cases his
    | none=>
     rw[hl]at hge;refine J.q λbd=>?_;refine J.cT ?_;refine J.qr [1,2,3,4,5,6] λ_=>?_;rw[hrd,hge];exact⟨rfl,rfl⟩
   | true=>
    cases hl:Tb.look Y.S.T.at_ i with
    | none=>rw[hl]at his;cases his
    | some x=>
     rw[hl]at ha hge;obtain rfl:a=x:=ha;dsimp only at hge;refine J.q λbd=>?_;refine J.cond rfl (λh3=>?_) (λh3=>?_)
     ·simp only[Bool.not_true,Bool.false_or,beq_iff_eq]at h3;rw[if_pos h3]at hge;refine J.qr [1,2,3,4,5,6] λ_=>?_;rw[hrd,hge];exact⟨rfl,rfl⟩
     simp only[Bool.not_true,Bool.false_or,beq_eq_false_iff_ne,ne_eq]at h3;rw[if_neg h3]at hge;refine J.qd (λ_ h4=>?_) λ_ h4=>?_
     ·simp only[beq_iff_eq]at h4;rw[if_pos h4]at hge;refine J.qr [1,2,3,4,5,6] λ_=>?_;rw[hrd,hge];exact⟨rfl,rfl⟩
     simp only[beq_eq_false_iff_ne,ne_eq]at h4;rw[if_neg h4]at hge;have hr:=hO.dv.gd.room;rw[e1]at hr;refine J.p (.take true 0 (.take true 1 (.take true 2 (.take false 3 (.take true 4 (.take false 5 (.take true 6 (.take false 7 (.alt false 8 ((.of [36,40,44,50,54,56])) (.alt false 12 ((.of [34,36,40,44,54,56])) .non)))))))))) [14] [1,2,3,4,5,6,7,8,9] λ_=>?_;obtain⟨⟨re,rx⟩,hre⟩:∃w,w=R.read Y.S.N a.block a.row a.slot a.mask:=⟨_,rfl⟩;rw[<- hre]at hge;dsimp only at hge;refine J.join (α:=Nat) (λx=>[si 12 rx,⟨11,pp x,10, .tt⟩,⟨9,pp (bd 0),9, .tt⟩,si 1 i,⟨4,pp (bz 0),8, .tt⟩]) (λx=>[.hp F,Y8 f n t l p d Y,R6 p n t l Y.S,j4 n Y.S.N,TlA t Y.S.t,TbA l Y.S.T,O9 d Y.L, .pt (bz 0) 29 (n7 zeros16), .pt (bd 0) 138 [iI a.block,iI a.row,iI a.slot,iI a.mask,iI a.seq,iI a.role], .pt x 132 (enL re)]) (λhj=>?_) (λx=>?_)
     ·refine J.q λ_=>?_;refine J.alts ?_ ?_
      ·refine J.qp (a6w n Y.S.N hN hr a.block a.row a.slot a.mask (by omega) (by omega)) [3] λ_=>?_;rw[<- hre];refine J.qn 7 λbe=>?_;exact J.goto [0,1,2,3,4,5,6,7,9,10] (hj (be 0)) ⟨rfl,rfl,rfl,rfl,rfl,trivial⟩ rfl rfl
      ·refine J.qn 1 λbe=>?_;refine J.qp (a6w n Y.S.N hN hr a.block a.row a.slot a.mask (by omega) (by omega)) [3] λ_=>?_;rw[<- hre];refine J.qn 6 λ_=>?_;exact J.goto [0,1,2,3,4,5,6,7,9,10] (hj (be 0)) ⟨rfl,rfl,rfl,rfl,rfl,trivial⟩ rfl rfl
     refine J.qn 6 λ_=>?_;cases hx:(rx !=0)with
     | true=>
      have hx':rx≠0:=by simpa using hx
      rw[if_pos (.inl hx')]at hge;refine J.qT λ_=>?_;refine J.qr [1,2,3,4,5,6] λ_=>?_;rw[hrd,hge];exact⟨rfl,rfl⟩
     | false=>
      have hx':rx=0:=by simpa using hx
      refine J.qn 6 λ_=>?_;cases hy:(re.lpn !=i)with
      | true=>
       have hy':re.lpn≠i:=by simpa using hy
       rw[if_pos (.inr (.inl hy'))]at hge;refine J.qT λ_=>?_;refine J.qr [1,2,3,4,5,6] λ_=>?_;rw[hrd,hge];exact⟨rfl,rfl⟩
      | false=>
       have hy':re.lpn=i:=by simpa using hy
       refine J.qd (λ_ h5=>?_) λ_ h5=>?_
       ·have hz:re.seq≠a.seq:=by simpa using h5
        rw[if_pos (.inr (.inr hz))]at hge;refine J.qr [1,2,3,4,5,6] λ_=>?_;rw[hrd,hge];exact⟨rfl,rfl⟩
       ·have hz:re.seq=a.seq:=by simpa using h5
        rw[if_neg (by rw[hx',hy',hz];simp)]at hge;refine J.qr [1,2,3,4,5,6] λ_=>?_;rw[hrd,hge];exact⟨rfl,rfl⟩
  ·have hi:decide (i<0)=true:=by simpa using hb
   rw[hi];refine J.q λ_=>?_;refine J.v (.bool false) rfl rfl (λhg a w he hw=>by simp[G.on]at hg) ?_;simp only[decide_eq_true_eq]at hi;rw[if_pos (.inl hi)]at hrd;refine J.qT λ_=>?_;refine J.qr [1,2,3,4,5,6] λ_=>?_;rw[hrd];exact⟨rfl,rfl⟩
theorem b6y (L:List En):dkN L (L.length:Int)=L.length:=by unfold dkN;omega
theorem a7l:∀(f:Nat) (S:Dv) (l:List En),(Dv.write f S l).2.1<=l.length
 | 0,S,l=>by show(0:Int)<=(l.length:Int);omega
 | f+1,S,l=>by
  rw[Dv.write_succ];have hf:=Dv.fit_le S.at1 l;split
  ·show(0:Int)<=(l.length:Int);omega
  split
  ·show(0:Int)<=(l.length:Int);omega
  split
  ·show(0:Int)<=(l.length:Int);omega
  split
  ·show(0:Int)<=(l.length:Int);omega
  split
  ·show(S.at1.fit l:Int)<=(l.length:Int);omega
  split
  ·show(0:Int)<=(l.length:Int);omega
  ·exact a7l f _ l
theorem a5J (f p n t l d:Nat) (Z:Fv) (k m:Nat) (hO:Z.Ok (Fv.cW+k) m) (hm:m<=12):FP 87 [pp f] (FvP f p n t l d Z)
  (λv As=>v=iI Z.writes.2/\As=FvP f p n t l d Z.writes.1):=by
 have hlen:=hO.len;have hQ1:Z.S.Ok (Dv.costM+(8*Dv.fuel+k)) m:=hO.dv.less (by unfold Fv.cW;omega);have hr:=Dv.room_keep hQ1;have hw:Z.writes=(let r:=Z.S.room
  if r.2≠0 then({Z with S:=r.1}.told r.2,r.2)
  else
   let w:=r.1.pen Z.L
   ({Z with S:=w.1,L:=H1 Z.L (Z.L.take w.2.1.toNat)}.told w.2.2,w.2.2)):=rfl
 refine FE [2] Tryz.func87 λX F hX=>?_;refine J.p (.of [0,4,8,13,16,20,24,29,32,36,40,45,48,52,56,61,67,68]) [16,17] [1,6] λ_=>?_;refine J.qp (a1l n t l p Z.S _ m hQ1 hm) [2,3,4,5] λ_=>?_;dsimp only at hw;generalize Z.S.room=W at hw hr ⊢;obtain⟨P,er⟩:=W;dsimp only at hw hr ⊢;rw[show Y8 f n t l p d Z=Y8 f n t l p d {Z with S:=P}from rfl];refine J.qd (λ_ h2=>?_) λ_ h2=>?_
 ·simp only[bne_iff_ne,ne_eq]at h2;rw[if_pos h2]at hw;refine J.qp (a6N f n t l p d {Z with S:=P} er) [1] λ_=>?_;refine J.qr [1,2,3,4,5,6] λ_=>?_;rw[hw];exact⟨rfl,rfl⟩
 simp only[bne_eq_false_iff_eq]at h2;rw[if_neg (by rw[h2];decide)]at hw;refine J.p (.of [0,4,8,13,16,20,24,29,34,38,40]) [10] [1,2,3,4,5,6] λ_=>?_;refine J.qp (a8u d Z.L) [6] λ_=>?_;refine J.qc (b0y d Z.L (by omega) Z.L.length) [6] λ_=>?_;rintro v As ⟨a,c,rfl,rfl⟩;refine⟨_,rfl,(by first | exact trivial | (repeat' (first | exact trivial | refine⟨rfl,?_⟩))),?_⟩;rw[b6y,List.take_of_length_le (Nat.le_refl _)];refine J.know (λh' s=>J8 (show O3 _ _ a Z.L.length c _ _ from s.get (i:=7) rfl)) λhcap=>?_;rw[a3f];have hpb:0<=(P.pen Z.L).2.1/\(P.pen Z.L).2.1<=7:=a1c _ _ _;have hple:=a7l Dv.fuel P Z.L;have hple:(P.pen Z.L).2.1<=Z.L.length:=hple;refine J.q λ_=>?_;refine J.ca hX (by kernel_rfl) (a0h p n t l P _ m hr.1 (c9 132 19 a Z.L.length c (d6 Z.L)) (oad a) Z.L.length c Z.L (I0 132 19 a Z.L.length c (d6 Z.L)) rfl (by omega) hO.dat) [2,3,4,5,7] 0 rfl rfl rfl rfl rfl rfl (λ_=>rfl) ?_;refine cpq ⟨_,rfl,trivial,?_⟩;generalize P.pen Z.L=W at hw hpb hple ⊢;obtain⟨Q,kk,er2⟩:=W;dsimp only at hw hpb hple ⊢;obtain⟨v,rfl⟩:=Int.eq_ofNat_of_zero_le hpb.1;rw[Int.toNat_natCast]at hw;have hvl:v<=Z.L.length:=by omega
 have hRd:Rd (c9 132 19 a Z.L.length c (d6 Z.L)) (oad a) 19 v (d6 (Z.L.take v)):=by
  have:=(I0 132 19 a Z.L.length c (d6 Z.L)).take v hvl
  rwa [Y6]at this
 refine J.pn 6 (.of [0,4,8,13,16,20,24,30]) [] [1,2,3,4,5] λ_ _=>?_;refine J.vT (.slice (oad a) v c) rfl rfl (λhg aa w he hC=>a0q tk rfl rfl rfl he rfl rfl rfl rfl (by omega)) ?_;refine J.qc (b4L d Z.L (by omega) (c9 132 19 a Z.L.length c (d6 Z.L)) (oad a) v c (Z.L.take v) hRd (by rw[List.length_take];omega) (by omega)) [6,7] λ_=>?_;rintro v2 As ⟨rfl,rfl⟩;refine⟨_,rfl,(by first | exact trivial | (repeat' (first | exact trivial | refine⟨rfl,?_⟩))),?_⟩;rw[show Y8 f n t l p d {Z with S:=P}=Y8 f n t l p d {Z with S:=Q,L:=H1 Z.L (Z.L.take v)}from rfl];refine J.qc (a6N f n t l p d {Z with S:=Q,L:=H1 Z.L (Z.L.take v)} er2) [1] λ_=>?_;rintro v2 As ⟨rfl,rfl⟩;refine⟨_,rfl,trivial,?_⟩;refine J.qr [1,2,3,4,5,6] λ_=>?_;rw[hw];exact⟨rfl,rfl⟩
end Go.Proofs.YtgkpkpbnonmopaaGreat
