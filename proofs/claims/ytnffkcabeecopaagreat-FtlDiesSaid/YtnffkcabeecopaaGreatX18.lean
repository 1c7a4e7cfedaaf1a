/- Helpers. No condition. -/
import Derived.Test.YtnffkcabeecopaaGreatX00
import Derived.Test.YtnffkcabeecopaaGreatX09
import Derived.Test.YtnffkcabeecopaaGreatX13
import Derived.Test.YtnffkcabeecopaaGreatX14
import Derived.Test.YtnffkcabeecopaaGreatX15
import Derived.Test.YtnffkcabeecopaaGreatX16
import Derived.Test.YtnffkcabeecopaaGreatX17
set_option maxRecDepth 20000
set_option linter.all false
namespace Go.Proofs.YtnffkcabeecopaaGreat
open Go Go.RowKit
structure Any (fd:Int) (W:List (Int×En)) (S V:Dv) (c:Nat):Prop where
 inv:Inv fd V
 hd:Hd V W
 next:S.next<=V.next/\V.next<=S.next+c
 logical:V.T.logical=S.T.logical
 broken:V.N.broken=S.N.broken
 like:S.N.Like V.N
namespace Any
variable {fd : Int} {W W' : List (Int × En)} {S U V : Dv} {c c' : Nat}
theorem refl (h:Inv fd S) (hd:Hd S W):Any fd W S S 0:=⟨h,hd,by omega,rfl,rfl,Nand.Like.refl _⟩
theorem trans (h:Any fd W S U c) (h2:Any fd W' U V c'):Any fd W' S V (c+c'):=
 ⟨h2.inv,h2.hd,by have:=h.next;have:=h2.next;omega,h2.logical.trans h.logical,h2.broken.trans h.broken,h.like.trans h2.like⟩
theorem more (h:Any fd W S V c) (hc:c<=c'):Any fd W S V c':=⟨h.inv,h.hd,by have:=h.next;omega,h.logical,h.broken,h.like⟩
end Any
namespace Inv
variable {fd : Int} {m : Nat}
theorem pen_any {S:Dv} {k:Nat} {W:List (Int×En)} {l:List En} (h:Inv fd S) (hO:S.Ok (8*Dv.fuel+k) m) (hW:Hd S W) (hf:∀e∈l,FitR e) (hl0:l.length≠0) (hnd:(l.map (·.lpn)).Nodup) (hlg:∀e∈l,e.lpn<S.T.logical) (hnx:S.next<=1099511627775-1200):
  ∃(V:Dv) (n:Nat) (e:Int),S.pen l=(V,(n:Int),e)/\(e=0/\1<=n/\n<=l.length\/e=11/\n=0)/\Any fd (a2I W l n) S V 1000/\V.Ok k m:=by
 have hrw:=Dv.rows_le hO;have hg:=hO.gd.ok.bd16;have hdt:∀x∈l,x.data.length=16:=λx hx=>(hf x hx).len;have hkeep:=Dv.pen_keep hO hdt;obtain⟨γ,Q,w1,w2⟩:=h.write_any (l:=l) 136 23 S k (m:=m) hO hrw hf hl0 (by omega);have hr:=w1.rows;have hn:=w1.next;rcases w2 with⟨w2,w3,w4⟩ | w4
 ·have w4:S.pen l=(U5 Q l,(Q.fit l:Int),(0:Int)):=w4;have hfit:=Dv.fit_le Q l;have hs:=Dv.left_spec w3.left;have h1:1<=Q.fit l:=by unfold Dv.fit;omega
  have hlgQ:∀e∈l,e.lpn<Q.T.logical:=λe he=>by rw[w1.T];exact hlg e he
  have hH:=(hW.went h w1).wrote w1.inv w2 w3 hf hlgQ hnd;rw[w4]at hkeep;refine⟨U5 Q l,Q.fit l,0,w4, .inl ⟨rfl,h1,hfit.2.1⟩,⟨w3.inv w1.inv w2,hH,?_,hkeep.2.2,w3.turn.broken.trans w1.broken,hkeep.2.1⟩,hkeep.1⟩;show S.next<=Q.next+(Q.fit l:Int)/\Q.next+(Q.fit l:Int)<=_;omega
 ·have w4:S.pen l=(Q,(0:Int),(11:Int)):=w4;rw[w4]at hkeep;exact⟨Q,0,11,w4, .inr ⟨rfl,rfl⟩,⟨w1.inv,hW.went h w1,by omega,hkeep.2.2,w1.broken,hkeep.2.1⟩,hkeep.1⟩
theorem carry_any:∀(f:Nat) (S:Dv) (I:List Int) (done:Int) (W:List (Int×En)) (k:Nat),Inv fd S->S.Ok (Dv.cost*f+k) m->I.length<=f->Hd S W->WOk W->(∀i∈I,(Tb.look W i).isSome=true)->I.Nodup->S.next+1000*(f:Int)<=1099511627775-1300->
  ∃(V:Dv) (n e:Int),Dv.carryGo f S I done=(V,n,e)/\(e=0\/e=11)/\Any fd W S V (1000*f)/\V.Ok k m
 | 0,S,I,done,W,k,h,hO,_,hH,_,_,_,_=>⟨S,done,0,rfl, .inl rfl,Any.refl h hH,hO.less (by omega)⟩
 | f+1,S,I,done,W,k,h,hO,hL,hH,hW,hin,hnd,hnx=>by
  by_cases hl0:I.length=0
  ·have:I=[]:=m6 hl0;subst this;exact⟨S,done,0,by rw[Dv.carryGo,f0 (show([]:List Int).length=0 from rfl)], .inl rfl,(Any.refl h hH).more (j8 _),hO.less (by omega)⟩
  ·have hg:=hO.gd.ok.bd16;obtain⟨c,hc⟩:∃c,(max S.slots 1).toNat=c:=⟨_,rfl⟩;have hc2:1<=c:=by omega
   obtain⟨E,e1,e2,e3,e4,e5⟩:=hH.rds hW (I.take c) λi hi=>hin i (I0 hi);have hEl:E.length=min c I.length:=by rw[e2,l9]
   have hnd2:(E.map (·.lpn)).Nodup:=by rw[e3];exact hnd.sublist (a6M _ _)
   have hlgE:∀e∈E,e.lpn<S.T.logical:=λe he=>by
    have:e.lpn∈I.take c:=by rw[<- e3];exact T8 he
    have h1:=hin _ (I0 this);obtain⟨w,hw⟩:=Option.isSome_iff_exists.1 h1;obtain⟨_,a,ha,_⟩:=hH.each _ _ hw;exact(hO.T.rng _ (Tb.look_mem ha)).2
   obtain⟨V,n,e,p1,p2,p3,p4⟩:=h.pen_any (k:=Dv.cost*f+k) (by have:Dv.cost*(f+1)=Dv.cost*f+Dv.cost:=D5 _ _;exact hO.less (by unfold Dv.cost at this ⊢;omega)) hH e4 (by omega) hnd2 hlgE (by omega);have hnE:n<=E.length:=by omega
   have hdisj:∀i j,i<j->j<n->(E.getD i En.zero).lpn≠(E.getD j En.zero).lpn:=λi j hij hj e=>by
    have g1:i<E.length:=by omega
    have g2:j<E.length:=by omega
    have h3:(E.map (·.lpn))[i]? =(E.map (·.lpn))[j]?:=by
     rw[i7,i7,d5 g1,d5 g2];rw[d6,d6,d5 g1,d5 g2]at e;exact congrArg some e
    have:=(V9 (by rw[j7];exact g1) hnd2).1 h3;omega
   have hHV:Hd V W:=p3.hd.swap (λj hj=>e5 j (by rw[<- e2];omega)) hdisj;have p3':Any fd W S V 1000:=⟨p3.inv,hHV,p3.next,p3.logical,p3.broken,p3.like⟩;have hstep:Dv.carryGo (f+1) S I done=(let w:=S.pen E;if w.2.2≠0 then(w.1,done+w.2.1,w.2.2)else Dv.carryGo f w.1 (I.drop w.2.1.toNat) (done+w.2.1)):=by
    rw[Dv.carryGo,d8 hl0,hc];dsimp only;rw[e1];dsimp only;rw[d8 (by decide)]
   rw[hstep,p1];dsimp only;rcases p2 with⟨rfl,q1,q2⟩ | ⟨rfl,rfl⟩
   ·rw[d8 (by decide),i9];have hnext:=p3.next;have hdl:(I.drop n).length=I.length-n:=B4;obtain⟨U,n2,e2',r1,r2,r3,r4⟩:=carry_any f V (I.drop n) (done+(n:Int)) W k p3.inv p4 (by omega) hHV hW (λi hi=>hin i (O7 hi)) (hnd.sublist (a6N _ _)) (by omega);exact⟨U,n2,e2',r1,r2,(p3'.trans r3).more (by omega),r4⟩
   ·rw[f0 (by decide)];exact⟨V,_,11,rfl, .inr rfl,p3'.more (by omega),p4.less (by omega)⟩
theorem carry_any2 {S:Dv} {k:Nat} {W:List (Int×En)} (h:Inv fd S) (hO:S.Ok (Dv.costC+k) m) (hH:Hd S W) (hW:WOk W) (hlg:S.T.logical<=1000) (hnx:S.next<=1099511627775-2000000) (b most:Int):
  ∃(V:Dv) (n e:Int),S.carry b most=(V,n,e)/\(e=0\/e=11)/\Any fd W S V 1000000/\V.Ok k m:=by
 obtain⟨I,hI⟩:∃I,(S.T.ins b).take (max most 0).toNat=I:=⟨_,rfl⟩;have hsub:∀j∈I,j∈S.T.ins b:=λj hj=>by rw[<- hI]at hj;exact I0 hj
 have hlen:I.length<=1000:=by
  have h1:=ins_len hO.T b;have h2:Tb.cntB S.T.at_ b<=S.T.at_.length:=a0Z;have h3:=b3l hO.T;rw[<- hI,l9];omega
 have hnd:I.Nodup:=by
  rw[<- hI];refine a2x (a6M _ _) ?_;unfold Tb.ins;split
  ·exact a1y
  ·unfold Tb.inK;exact List.pairwise_map.2 ((List.nodup_range.filter _).imp λhne e=>hne (by omega))
 have hcost:Dv.cost*I.length<=Dv.costC:=p6 _ (by omega);obtain⟨V,n,e,r1,r2,r3,r4⟩:=h.carry_any I.length S I 0 W k (hO.less (by omega)) (j4 _) hH hW (λj hj=>by
  obtain⟨a,ha,_⟩:=a8a (hsub j hj);cases hw:Tb.look W j with
  | none=>rw[hH.none hw]at ha;cases ha
  | some e=>rfl) hnd (by omega)
 refine⟨V,n,e,?_,r2,r3.more (by omega),r4⟩;unfold Dv.carry;rw[hI];exact r1
theorem clear_any {S:Dv} {k:Nat} {W:List (Int×En)} (h:Inv fd S) (hO:S.Ok (96+k) m) (hH:Hd S W):∃V,S.clear=(V,0)/\Any fd W S V 0/\V.Ok k m:=by
 have hk:=Dv.clear_keep hO;obtain⟨N',t',c1,c2,c3⟩:=h.clear_hd hO hH;rw[c1]at hk;exact⟨_,c1,⟨c2.inv,c3,⟨H4 _,by show S.next<=S.next+0;omega⟩,rfl,c2.broken,c2.like⟩,hk.1⟩
theorem roomGo_any:∀(f:Nat) (S:Dv) (W:List (Int×En)) (k:Nat),Inv fd S->S.Ok (Dv.costR*f+k) m->Hd S W->WOk W->S.T.logical<=1000->S.next+1000000*(f:Int)<=1099511627775-2000000->
  ∃(V:Dv) (e:Int),Dv.roomGo f S=(V,e)/\(e=0\/e=11)/\Any fd W S V (1000000*f)/\V.Ok k m
 | 0,S,W,k,h,hO,hH,_,_,_=>⟨S,0,rfl, .inl rfl,Any.refl h hH,hO.less (by omega)⟩
 | f+1,S,W,k,h,hO,hH,hW,hlg,hnx=>by
  rw[D5]at hO;rw[Dv.roomGo];split
  ·exact⟨S,0,rfl, .inl rfl,(Any.refl h hH).more (j8 _),hO.less (by omega)⟩
  split
  ·exact⟨S,0,rfl, .inl rfl,(Any.refl h hH).more (j8 _),hO.less (by omega)⟩
  obtain⟨U,n,e,c1,c2,c3,c4⟩:=h.carry_any2 (k:=96+(Dv.costR*f+k)) (hO.less (by unfold Dv.costR;omega)) hH hW hlg (by omega) S.victim (S.T.count S.victim);dsimp only;rw[c1];dsimp only;rcases c2 with rfl | rfl
  ·rw[d8 (by decide)];obtain⟨V,d1,d2,d3⟩:=c3.inv.clear_any (k:=Dv.costR*f+k) c4 c3.hd;rw[d1];dsimp only;rw[d8 (by decide)];have n1:=c3.next;have n2:=d2.next;obtain⟨X,e,r1,r2,r3,r4⟩:=roomGo_any f V W k d2.inv d3 d2.hd hW (by rw[d2.logical,c3.logical];exact hlg) (by omega);exact⟨X,e,r1,r2,((c3.trans d2).trans r3).more (by omega),r4⟩
  ·rw[f0 (by decide)];exact⟨U,11,rfl, .inr rfl,c3.more (by omega),c4.less (by omega)⟩
theorem room_any {S:Dv} {k:Nat} {W:List (Int×En)} (h:Inv fd S) (hO:S.Ok (Dv.costM+k) m) (hH:Hd S W) (hW:WOk W) (hlg:S.T.logical<=1000) (hnx:S.next<=1099511627775-20000000):
  ∃(V:Dv) (e:Int),S.room=(V,e)/\(e=0\/e=11)/\Any fd W S V 16000000/\V.Ok k m:=by
 have hg:=hO.gd.ok.bd16;have htb:=hO.t.b;obtain⟨U,u1,u2,u3⟩:=h.clear_any (k:=Dv.costR*16+k) (hO.less (by unfold Dv.costM;omega)) hH;have n1:=u2.next;have hm:Dv.costR*S.t.b<=Dv.costR*16:=p6 _ (by omega);obtain⟨V,e,v1,v2,v3,v4⟩:=roomGo_any S.t.b U W k u2.inv (u3.less (by omega)) u2.hd hW (by rw[u2.logical];exact hlg) (by omega);refine⟨V,e,?_,v2,(u2.trans v3).more (by omega),v4⟩;unfold Dv.room;rw[u1];dsimp only;rw[d8 (by decide),v1]
end Inv
namespace Inv
variable {fd : Int} {S : Dv} {k m : Nat} {W : List (Int × En)}
theorem dead_cases (h:Inv fd S) (hO:S.Ok k m):(∀i:Nat,S.N.dead.getD i false=false)\/∃d:Nat,fd=(d:Int)/\d<S.N.dies/\S.N.dead.getD d false=true:=by
 by_cases hx:∃i:Nat,S.N.dead.getD i false=true
 ·obtain⟨i,hi⟩:=hx;right;refine⟨i,?_,?_,hi⟩
  ·refine M4 λhne=>?_;rw[h.dead i λe=>hne e.symm]at hi;cases hi
  ·rw[d6]at hi;refine M4 λhge=>?_;rw[j9 (by have:=hO.gd.ok.dead;omega)]at hi;cases hi
 ·left;intro i;cases hi:S.N.dead.getD i false with
  | false=>rfl
  | true=>exact absurd ⟨i,hi⟩ hx
theorem seen_any (h:Inv fd S) (hO:S.Ok k m) (hH:Hd S W):Any fd W S S.seen 0:=by
 rcases h.dead_cases hO with hd | ⟨d,rfl,hd,hdd⟩
 ·have e:S.seen=S:=by
   unfold Dv.seen;rw[a4B hd]
  rw[e];exact Any.refl h hH
 ·obtain⟨_,s2,_⟩:=h.saw hO hd hdd;exact⟨s2,⟨hH.keys,hH.each⟩,⟨H4 _,by show S.next<=S.next+((0:Nat):Int);omega⟩,rfl,rfl,Nand.Like.refl _⟩
theorem step_any (h:Inv fd S) (hO:S.Ok (Dv.costS+k) m) (hH:Hd S W) (hW:WOk W) (hlg:S.T.logical<=1000) (hnx:S.next<=1099511627775-30000000) (most:Int):
  ∃(V:Dv) (n e:Int),S.step most=(V,n,e)/\(e=0\/e=11)/\Any fd W S V 20000000/\V.Ok k m:=by
 have h1:=h.seen_any hO hH;obtain⟨U,e,u1,u2,u3,u4⟩:=h1.inv.room_any (k:=Dv.costC+k) (m:=m) (hO.seen.less (by unfold Dv.costS;omega)) h1.hd hW hlg (by show S.next<=_;omega);have n1:=h1.next;have n2:=u3.next;have hst:S.step most=(let r:=S.seen.room;if r.2≠0 then(r.1,0,r.2)else match r.1.hurts with | []=>(r.1,0,0) | b::_=>r.1.carry b most):=rfl;rw[u1]at hst;dsimp only at hst;rcases u2 with rfl | rfl
 ·rw[d8 (by decide)]at hst;cases hh:U.hurts with
  | nil=>
   rw[hh]at hst;exact⟨U,0,0,hst, .inl rfl,(h1.trans u3).more (by omega),u4.less (by omega)⟩
  | cons b l=>
   rw[hh]at hst;obtain⟨V,n,e,c1,c2,c3,c4⟩:=u3.inv.carry_any2 u4 u3.hd hW (by rw[u3.logical];exact hlg) (by omega) b most;exact⟨V,n,e,by rw[hst];exact c1,c2,((h1.trans u3).trans c3).more (by omega),c4⟩
 ·rw[f0 (by decide)]at hst;exact⟨U,0,11,hst, .inr rfl,(h1.trans u3).more (by omega),u4.less (by omega)⟩
end Inv
def cur (W:List (Int×En)) (L:List En) (i:Int):List UInt8:=match L.find? (λx=>x.lpn==i)with
 | some e=>e.data
 | none=>match Tb.look W i with
  | some e=>e.data
  | none=>zeros16
structure FI (fd:Int) (W:List (Int×En)) (lg:Nat) (F:Fv):Prop where
 inv:Inv fd F.S
 hd:Hd F.S W
 wok:WOk W
 wr:∀i e,Tb.look W i=some e->e.role≠4
 log:F.S.T.logical=(lg:Int)
 lgn:F.lg=(lg:Int)
 lg2:lg<=200
 des:∀e∈F.L,FitR e/\e.role≠4/\e.lpn<(lg:Int)
 nd:(F.L.map (·.lpn)).Nodup
 off:F.off=false
theorem find_none {L:List En} {i:Int}:L.find? (λx=>x.lpn==i)=none↔i∉L.map (·.lpn):=by
 rw[List.find?_eq_none];constructor
 ·intro h hm;obtain⟨x,hx,e⟩:=List.mem_map.1 hm;exact h x hx (by simp[e])
 ·intro h x hx hb;exact h (List.mem_map.2 ⟨x,hx,by simpa using hb⟩)
theorem b5u {L:List En} (hnd:(L.map (·.lpn)).Nodup) {e:En} (he:e∈L):L.find? (λx=>x.lpn==e.lpn)=some e:=by
 induction L with
 | nil=>cases he
 | cons x L ih=>
  simp only[p5,List.nodup_cons]at hnd;rw[List.find?_cons];rcases List.mem_cons.1 he with rfl | he
  ·simp
  ·have:(x.lpn==e.lpn)=false:=by
    rw[n9];intro e2;exact hnd.1 (by rw[e2];exact T8 he)
   rw[this];exact ih hnd.2 he
theorem a9R {L:List En} (hnd:(L.map (·.lpn)).Nodup) (n:Nat):a0o L (L.take n)=L.drop n:=by
 unfold a0o;have hsp:L=L.take n++L.drop n:=(C5 n L).symm;have hnd2:=hnd;rw[hsp,x5,L9]at hnd2;obtain⟨_,_,hdis⟩:=hnd2
 conv=>lhs;arg 2;rw[hsp]
 rw[R5];have h1:(L.take n).filter (λx=>!((L.take n).any λe=>e.lpn==x.lpn&&e.seq==x.seq))=[]:=by
  rw[List.filter_eq_nil_iff];intro x hx;have:((L.take n).any λe=>e.lpn==x.lpn&&e.seq==x.seq)=true:=List.any_eq_true.2 ⟨x,hx,by simp⟩;rw[this];simp
 have h2:(L.drop n).filter (λx=>!((L.take n).any λe=>e.lpn==x.lpn&&e.seq==x.seq))=L.drop n:=by
  rw[X0];intro x hx;have:((L.take n).any λe=>e.lpn==x.lpn&&e.seq==x.seq)=false:=by
   rw[<- Bool.not_eq_true,a1I];rintro⟨e,he,hb⟩;simp only[f8,A5]at hb;exact hdis _ (T8 he) _ (T8 hx) hb.1
  rw[this];rfl
 rw[h1,h2];rfl
theorem b2k {W:List (Int×En)} {L:List En} (hnd:(L.map (·.lpn)).Nodup) (n:Nat) (hn:n<=L.length) (i:Int):cur (a2I W L n) (L.drop n) i=cur W L i:=by
 have hdisj:∀a b,a<b->b<n->(L.getD a En.zero).lpn≠(L.getD b En.zero).lpn:=λa b hab hb e=>by
  have g1:a<L.length:=by omega
  have g2:b<L.length:=by omega
  have h3:(L.map (·.lpn))[a]? =(L.map (·.lpn))[b]?:=by
   rw[i7,i7,d5 g1,d5 g2];rw[d6,d6,d5 g1,d5 g2]at e;exact congrArg some e
  have:=(V9 (by rw[j7];exact g1) hnd).1 h3;omega
 obtain⟨w1,w2⟩:=a2H (W:=W) (l:=L) n hdisj;have hsp:L=L.take n++L.drop n:=(C5 n L).symm;have hnd2:=hnd;rw[hsp,x5,L9]at hnd2;obtain⟨hn1,hn2,hdis⟩:=hnd2
 by_cases hi:i∈(L.take n).map (·.lpn)
 ·obtain⟨e,he,rfl⟩:=List.mem_map.1 hi;have hf:=b5u hnd (I0 he);have hnone:(L.drop n).find? (λx=>x.lpn==e.lpn)=none:=find_none.2 λhm=>hdis _ hi _ hm rfl;obtain⟨j,hj,hje⟩:=List.mem_iff_getElem.1 he;rw[l9]at hj;have hge:L.getD j En.zero=e:=by
   rw[d6,d5 (by omega),j5,<- hje,a0f]
  have hl:=w1 j (by omega);rw[hge]at hl;unfold cur;rw[hnone,hf];dsimp only;rw[hl]
 ·have h1:(L.take n).find? (λx=>x.lpn==i)=none:=find_none.2 hi;have h2:L.find? (λx=>x.lpn==i)=(L.drop n).find? (λx=>x.lpn==i):=by
   conv=>lhs;rw[hsp]
   rw[List.find?_append,h1];rfl
  have h3:Tb.look (a2I W L n) i=Tb.look W i:=w2 i λj hj e=>hi (List.mem_map.2 ⟨L.getD j En.zero,by
   rw[d6,d5 (by omega),j5];exact List.mem_iff_getElem.2 ⟨j,by rw[l9];omega,a0f ..⟩,e⟩)
  unfold cur;rw[h2,h3]
theorem b0b {W:List (Int×En)} {L:List En} (hW:WOk W) (hr:∀i e,Tb.look W i=some e->e.role≠4) (hL:∀e∈L,FitR e/\e.role≠4):∀n,n<=L.length->WOk (a2I W L n)/\∀i e,Tb.look (a2I W L n) i=some e->e.role≠4
 | 0,_=>⟨hW,hr⟩
 | n+1,hn=>by
  obtain⟨h1,h2⟩:=b0b hW hr hL n (by omega);have hm:=hL _ (a1r (show n<L.length by omega));rw[a2G];refine⟨h1.put hm.1,λi e he=>?_⟩;rw[Tb.look_put1]at he;split at he
  ·injection he with he;rw[<- he];exact hm.2
  ·exact h2 i e he
namespace FI
variable {fd : Int} {W : List (Int × En)} {lg k m : Nat} {F : Fv}
theorem ask (h:FI fd W lg F):F.ask=F:=by
 unfold Fv.ask;rw[h.inv.lit.off,h.off];have:=h.off;cases F;dsimp only at this;rw[this];rfl
theorem len (h:FI fd W lg F):F.L.length<=lg:=by
 have h1:=a4h (K:=F.L.map (·.lpn)) (M:=(List.range lg).map λi:Nat=>(i:Int)) h.nd λx hx=>by
  obtain⟨e,he,rfl⟩:=List.mem_map.1 hx;obtain⟨d1,_,d3⟩:=h.des e he;have:=d1.lpn;exact List.mem_map.2 ⟨e.lpn.toNat,List.mem_range.2 (by omega),by omega⟩
 simpa using h1
theorem get (h:FI fd W lg F) (i:Int):F.get i=(cur W F.L i,0):=by
 unfold Fv.get cur a2s;cases hf:F.L.find? (λx=>x.lpn==i)with
 | some e=>rfl
 | none=>
  dsimp only;rw[d8 j6];cases hw:Tb.look W i with
  | none=>rw[h.hd.none hw]
  | some e=>
   obtain⟨h1,a,ha,hr⟩:=h.hd.each i e hw;obtain⟨y,hy,_,_,hyr⟩:=h.inv.read ha;have hwe:=h.wok i e hw;rw[hr]at hy;have her:e.role=a.role:=by injection hy with hy;rw[<- hyr,<- hy]
   have h4:=h.wr i e hw;rw[ha];dsimp only;rcases hwe.2.role with r | ⟨r | r,hz⟩
   ·rw[d8 (by omega),d8 (by omega),hr];dsimp only;rw[d8];rintro(x | x | x)
    ·exact x rfl
    ·exact x hwe.1
    ·exact x rfl
   ·rw[f0 (by omega),hz]
   ·exact absurd r h4
theorem read (h:FI fd W lg F) (i:Int):F.read i=if i<0\/i>=(lg:Int)then(F,zeros16,3)else(F,cur W F.L i,0):=by
 unfold Fv.read;rw[h.ask,h.off,d8 j6,h.lgn,h.get]
theorem writes (h:FI fd W lg F) (hO:F.S.Ok (Dv.costM+(8*Dv.fuel+k)) m) (hnx:F.S.next<=1099511627775-30000000):
  ∃(F':Fv) (e:Int) (W':List (Int×En)),F.writes=(F',e)/\(e=0\/e=11)/\FI fd W' lg F'/\(∀i,cur W' F'.L i=cur W F.L i)/\F'.S.Ok k m/\F'.S.next<=F.S.next+20000000/\F'.nx=F.nx/\F'.S.N.broken=F.S.N.broken/\F.S.N.Like F'.S.N/\F'.L.length<=F.L.length/\(e=0->F.L.length≠0->F'.L.length<F.L.length):=by
 obtain⟨U,e,u1,u2,u3,u4⟩:=h.inv.room_any hO h.hd h.wok (by have:=h.log;have:=h.lg2;omega) (by omega);have n1:=u3.next;have hlgU:∀V:Dv,U.N.Like V.N->(Fv.lg {F with S:=V})=(lg:Int):=λV hl=>by
  have:=h.lgn;unfold Fv.lg at this ⊢;have hl2:=u3.like.trans hl;show((lgN V.N.dies V.N.blocks V.N.pages:Nat):Int)=_;rw[hl2.dies,hl2.blocks,hl2.pages];exact this
 have hwr:F.writes=(let r:=F.S.room;if r.2≠0 then({F with S:=r.1}.told r.2,r.2)else
  let w:=r.1.pen F.L
  ({F with S:=w.1,L:=a0o F.L (F.L.take w.2.1.toNat)}.told w.2.2,w.2.2)):=rfl
 rw[u1]at hwr;dsimp only at hwr;rcases u2 with rfl | rfl
 ·rw[d8 (by decide)]at hwr
  by_cases hl0:F.L.length=0
  ·have hL:F.L=[]:=m6 hl0;have hpen:U.pen F.L=(U,0,0):=by
    show Dv.write (159+1) U F.L=_;rw[Dv.write_succ,f0 hl0]
   rw[hpen]at hwr;dsimp only at hwr;rw[show a0o F.L (F.L.take (0:Int).toNat)=F.L from by rw[hL];rfl]at hwr;refine⟨_,0,W,hwr, .inl rfl,⟨u3.inv,u3.hd,h.wok,h.wr,u3.logical.trans h.log,hlgU U (Nand.Like.refl _),h.lg2,h.des,h.nd,?_⟩,λi=>rfl,u4.less (by omega),?_,rfl,u3.broken,u3.like,j4 _,λ_ h2=>absurd hl0 h2⟩
   ·show(F.off||(0:Int)==9)=false;rw[h.off];rfl
   ·show U.next<=_;omega
  ·obtain⟨V,n,e,p1,p2,p3,p4⟩:=u3.inv.pen_any u4 u3.hd (λe he=>(h.des e he).1) hl0 h.nd (λe he=>by rw[u3.logical,h.log];exact(h.des e he).2.2) (by omega);have n2:=p3.next;have hn:n<=F.L.length:=by omega
   rw[p1]at hwr;dsimp only at hwr;rw[i9,a9R h.nd]at hwr;obtain⟨w1,w2⟩:=b0b h.wok h.wr (λe he=>⟨(h.des e he).1,(h.des e he).2.1⟩) n hn;refine⟨_,e,a2I W F.L n,hwr,by omega,⟨p3.inv,p3.hd,w1,w2,p3.logical.trans (u3.logical.trans h.log),hlgU V p3.like,h.lg2,λx hx=>h.des x (O7 hx),?_,?_⟩,b2k h.nd n hn,p4,?_,rfl,p3.broken.trans u3.broken,u3.like.trans p3.like,?_,λhe0 _=>?_⟩
   ·show((F.L.drop n).map (·.lpn)).Nodup;rw[List.map_drop];exact h.nd.sublist (a6N _ _)
   ·show(F.off||e==9)=false;rw[h.off];rcases p2 with⟨rfl,_⟩ | ⟨rfl,_⟩<;>rfl
   ·show V.next<=_;omega
   ·show(F.L.drop n).length<=_;rw[B4];omega
   ·show(F.L.drop n).length<_;rw[B4];omega
 ·rw[f0 (by decide)]at hwr;refine⟨_,11,W,hwr, .inr rfl,⟨u3.inv,u3.hd,h.wok,h.wr,u3.logical.trans h.log,hlgU U (Nand.Like.refl _),h.lg2,h.des,h.nd,?_⟩,λi=>rfl,u4.less (by omega),?_,rfl,u3.broken,u3.like,j4 _,λh1=>by cases h1⟩
  ·show(F.off||(11:Int)==9)=false;rw[h.off];rfl
  ·show U.next<=_;omega
end FI
theorem b2c {L:List En} {i j:Int} (h:i≠j):(L.filter λx=>!(x.lpn==j)).find? (λx=>x.lpn==i)=L.find? (λx=>x.lpn==i):=by
 induction L with
 | nil=>rfl
 | cons x L ih=>
  rw[Y4]
  by_cases e:x.lpn=j
  ·have h1:(!(x.lpn==j))=false:=by simp[e]
   have h2:(x.lpn==i)=false:=by rw[n9];omega
   rw[h1,d8 j6,ih,List.find?_cons,h2]
  ·have h1:(!(x.lpn==j))=true:=by simp[e]
   rw[h1,f0 rfl,List.find?_cons,List.find?_cons,ih]
theorem b9Z (W:List (Int×En)) (L:List En) (e:En) (i:Int):cur W (a2S L e) i=if i=e.lpn then e.data else cur W L i:=by
 unfold cur a2S;rw[List.find?_append]
 by_cases h:i=e.lpn
 ·subst h;have h1:(L.filter λx=>!(x.lpn==e.lpn)).find? (λx=>x.lpn==e.lpn)=none:=by
   rw[List.find?_eq_none];intro x hx hb;have:=(List.mem_filter.1 hx).2;rw[hb]at this;cases this
  rw[h1,f0 rfl];simp
 ·rw[b2c h,d8 h];have h2:[e].find? (λx=>x.lpn==i)=none:=by
   rw[List.find?_eq_none];intro x hx hb;simp at hx;subst hx;exact h (eq_of_beq hb).symm
  rw[h2,Option.or_none]
namespace FI
variable {fd : Int} {W : List (Int × En)} {lg k m : Nat} {F : Fv}
theorem put (h:FI fd W lg F) {e:En} (he:FitR e/\e.role≠4/\e.lpn<(lg:Int)):FI fd W lg (F.put e)/\∀i,cur W (F.put e).L i=if i=e.lpn then e.data else cur W F.L i:=by
 refine⟨⟨h.inv,h.hd,h.wok,h.wr,h.log,h.lgn,h.lg2,λx hx=>?_,?_,h.off⟩,λi=>b9Z W F.L {e with seq:=F.nx} i⟩
 ·have hx:x∈(F.L.filter λy:En=>!(y.lpn==e.lpn))++[({e with seq:=F.nx}:En)]:=hx;rcases List.mem_append.1 hx with hx | hx
  ·exact h.des x (List.mem_filter.1 hx).1
  ·simp at hx;rw[hx];exact⟨⟨he.1.lpn,he.1.role,he.1.len⟩,he.2.1,he.2.2⟩
 ·show(((F.L.filter λy:En=>!(y.lpn==e.lpn))++[({e with seq:=F.nx}:En)]).map (·.lpn)).Nodup;rw[x5,L9];refine⟨a2x ((List.filter_sublist (p:=λx:En=>!(x.lpn==e.lpn)) (l:=F.L)).map (·.lpn)) h.nd,by simp,λa ha b hb hab=>?_⟩;obtain⟨x,hx,rfl⟩:=List.mem_map.1 ha;simp at hb;have:=(List.mem_filter.1 hx).2;rw[hab,hb]at this;simp at this
theorem waits (h:FI fd W lg F) (hO:F.S.Ok (Dv.costM+(8*Dv.fuel+k)) m) (hnx:F.S.next<=1099511627775-30000000) {e:En} (he:0<=e.lpn->e.lpn<(lg:Int)->FitR e/\e.role≠4):
  ∃(F':Fv) (er:Int) (W':List (Int×En)),F.waits e=(F',er)/\FI fd W' lg F'/\F'.S.Ok k m/\F'.S.next<=F.S.next+20000000/\F'.S.N.broken=F.S.N.broken/\F.S.N.Like F'.S.N/\
   ((er=0/\0<=e.lpn/\e.lpn<(lg:Int)/\∀i,cur W' F'.L i=if i=e.lpn then e.data else cur W F.L i)\/((er=3/\¬(0<=e.lpn/\e.lpn<(lg:Int))\/er=11)/\∀i,cur W' F'.L i=cur W F.L i)):=by
 unfold Fv.waits;rw[h.ask,h.off,d8 j6,h.lgn]
 by_cases hr:e.lpn<0\/e.lpn>=(lg:Int)
 ·rw[f0 hr];exact⟨F,3,W,rfl,h,hO.less (by omega),by omega,rfl,Nand.Like.refl _, .inr ⟨.inl ⟨rfl,by omega⟩,λ_=>rfl⟩⟩
 ·rw[d8 hr];obtain⟨h1,h2⟩:=he (by omega) (by omega)
  by_cases hs:(F.L.length:Int)>=F.S.slots
  ·rw[f0 hs];obtain⟨G,er,W',w1,w2,w3,w4,w5,w6,_,w7,w8,_,_⟩:=h.writes hO hnx;rw[w1];dsimp only;rcases w2 with rfl | rfl
   ·rw[d8 (by decide)];obtain⟨p1,p2⟩:=w3.put (e:=e) ⟨h1,h2,by omega⟩;exact⟨_,0,W',rfl,p1,w5,w6,w7,w8, .inl ⟨rfl,by omega,by omega,λi=>by rw[p2,w4]⟩⟩
   ·rw[f0 (by decide)];exact⟨_,11,W',rfl,w3,w5,w6,w7,w8, .inr ⟨.inr rfl,w4⟩⟩
  ·rw[d8 hs];obtain⟨p1,p2⟩:=h.put (e:=e) ⟨h1,h2,by omega⟩;exact⟨_,0,W,rfl,p1,hO.less (by omega),by show F.S.next<=_;omega,rfl,Nand.Like.refl _, .inl ⟨rfl,by omega,by omega,p2⟩⟩
def costW:Nat:=Dv.costM+8*Dv.fuel
theorem flush_go:∀(f:Nat) (F:Fv) (W:List (Int×En)) (k:Nat),FI fd W lg F->F.S.Ok (costW*f+k) m->F.L.length<=f->F.S.next+20000000*(f:Int)<=1099511627775-30000000->
  ∃(F':Fv) (er:Int) (W':List (Int×En)),Fv.flushGo f F=(F',er)/\FI fd W' lg F'/\F'.S.Ok k m/\F'.S.next<=F.S.next+20000000*(f:Int)/\F'.S.N.broken=F.S.N.broken/\F.S.N.Like F'.S.N/\(er=0/\F'.L=[]\/er=11)/\∀i,cur W' F'.L i=cur W F.L i
 | 0,F,W,k,h,hO,hL,_=>⟨F,0,W,rfl,h,hO.less (by omega),by omega,rfl,Nand.Like.refl _, .inl ⟨rfl,m6 (by omega)⟩,λ_=>rfl⟩
 | f+1,F,W,k,h,hO,hL,hnx=>by
  rw[Fv.flushGo]
  by_cases hl0:F.L.length=0
  ·rw[f0 hl0];exact⟨F,0,W,rfl,h,hO.less (by omega),by omega,rfl,Nand.Like.refl _, .inl ⟨rfl,m6 hl0⟩,λ_=>rfl⟩
  ·rw[d8 hl0];rw[D5]at hO;obtain⟨G,er,W',w1,w2,w3,w4,w5,w6,_,w7,w8,w9,w10⟩:=h.writes (k:=costW*f+k) (hO.less (by unfold costW;omega)) (by omega);rw[w1];dsimp only;rcases w2 with rfl | rfl
   ·rw[d8 (by decide)];have:=w10 rfl hl0;obtain⟨F',er,W2,r1,r2,r3,r4,r5,r6,r7,r8⟩:=flush_go f G W' k w3 w5 (by omega) (by omega);exact⟨F',er,W2,r1,r2,r3,by omega,r5.trans w7,w8.trans r6,r7,λi=>(r8 i).trans (w4 i)⟩
   ·rw[f0 (by decide)];exact⟨G,11,W',rfl,w3,w5.less (by omega),by omega,w7,w8, .inr rfl,w4⟩
theorem flush (h:FI fd W lg F) (hO:F.S.Ok (costW*200+k) m) (hnx:F.S.next<=1099511627775-5000000000):
  ∃(F':Fv) (er:Int) (W':List (Int×En)),F.flush=(F',er)/\FI fd W' lg F'/\F'.S.Ok k m/\F'.S.next<=F.S.next+4000000000/\F'.S.N.broken=F.S.N.broken/\F.S.N.Like F'.S.N/\(er=0/\F'.L=[]\/er=11)/\∀i,cur W' F'.L i=cur W F.L i:=by
 unfold Fv.flush;rw[h.ask,h.off,d8 j6];have hl:=h.len;have h2:=h.lg2;have hm:costW*F.L.length<=costW*200:=p6 _ (by omega);obtain⟨F',er,W',r1,r2,r3,r4,r5⟩:=flush_go F.L.length F W k h (hO.less (by omega)) (j4 _) (by omega);exact⟨F',er,W',r1,r2,r3,by omega,r5⟩
theorem tick (h:FI fd W lg F) (hO:F.S.Ok (Dv.costS+k) m) (hnx:F.S.next<=1099511627775-40000000):
  ∃(F':Fv) (er:Int),F.tick=(F',er)/\(er=0\/er=11)/\FI fd W lg F'/\F'.S.Ok k m/\F'.S.next<=F.S.next+20000000/\F'.S.N.broken=F.S.N.broken/\F.S.N.Like F'.S.N/\F'.L=F.L:=by
 unfold Fv.tick;rw[h.ask,h.off,d8 j6];obtain⟨V,n,e,r1,r2,r3,r4⟩:=h.inv.step_any hO h.hd h.wok (by have:=h.log;have:=h.lg2;omega) (by omega) 4;rw[r1];dsimp only;have hn:=r3.next;refine⟨_,e,rfl,r2,⟨r3.inv,r3.hd,h.wok,h.wr,r3.logical.trans h.log,?_,h.lg2,h.des,h.nd,?_⟩,r4,?_,r3.broken,r3.like,rfl⟩
 ·have:=h.lgn;unfold Fv.lg at this ⊢;show((lgN V.N.dies V.N.blocks V.N.pages:Nat):Int)=_;rw[r3.like.dies,r3.like.blocks,r3.like.pages];exact this
 ·show(F.off||e==9)=false;rw[h.off];rcases r2 with rfl | rfl<;>rfl
 ·show V.next<=_;omega
end FI
theorem c0d (D B P:Nat):V.all (Nand.new D B P)=[]:=by
 unfold V.all;rw[List.flatMap_eq_nil_iff];intro b _;rw[List.flatMap_eq_nil_iff];intro r _;refine b5F λd=>?_;have:=b2S (N:=Nand.new D B P) (d:=(d:Nat)) (b:=(b:Nat)) (r:=(r:Nat)) (j8 _);omega
theorem b3U (N:Nand) (n:Int):∀k,V.goS N [] n k=⟨Tb.new n,[],[],[]⟩
 | 0=>rfl
 | k+1=>by
  rw[V.goS_succ,b3U N n k];unfold V.step;rw[d8];show¬(V.standOf (V.of [] k)).2=true;rw[show V.of [] (k:Int)=[]from rfl,V.standOf_nil];exact j6
theorem b6t (D B P:Nat) (n:Int):V.scan (Nand.new D B P) n=⟨Tb.new n,[],0,[],1,0⟩:=by
 unfold V.scan V.scanOf;rw[c0d,b3U];have h1:K5 (a0Q [])=[]:=a9o;dsimp only;rw[h1];rfl
theorem b6s {t:Tl} (hl:t.l.length=t.b) (k:Int):t.set k (t.at_ k)=t:=by
 unfold Tl.set;split
 ·rename_i h;have hk:=Tl.get_at hl h;have:t.l.set k.toNat (t.at_ k)=t.l:=by
   apply s8;intro i;rw[s7];split
   ·rename_i e;subst e;rw[hk];split
    ·rfl
    ·rename_i h2;rw[j9 (by omega)]at hk;cases hk
   ·rfl
  rw[this]
 ·rfl
theorem b3k (D B P:Nat) (b:Int):(Tl.new D B P).at_ b=Sb.zero:=by
 unfold Tl.new Tl.at_;dsimp only;rw[d6,E6];split<;>rfl
theorem b9k (D B P:Nat) (b d:Nat):Tl.ofD (Nand.new D B P) b (Tl.new D B P) d=Tl.new D B P:=by
 have hw:(Nand.new D B P).wornAt d b=0:=by unfold Nand.wornAt;split<;>rfl
 have hn:(Nand.new D B P).next d b=0:=by unfold Nand.next;split<;>rfl
 have h1:(Tl.new D B P).wore b 0=Tl.new D B P:=by
  have h2:=b6s (t:=Tl.new D B P) (by show(List.replicate B Sb.zero).length=B;rw[K8]) (b:Int);unfold Tl.wore;rw[b3k]at h2 ⊢;exact h2
 unfold Tl.ofD;dsimp only;rw[hw,hn,h1,d8];simp
theorem c0R (D B P:Nat):Tl.of (Nand.new D B P)=Tl.new D B P:=by
 have hd:Dv.seeDead (Nand.new D B P) (Tl.new D B P)=Tl.new D B P:=a4B λi=>by
  show(List.replicate D false).getD i false=false;rw[d6,E6];split<;>rfl
 have h1:∀(b:Nat) (q:List Nat),q.foldl (Tl.ofD (Nand.new D B P) b) (Tl.new D B P)=Tl.new D B P:=by
  intro b q
  induction q with
  | nil=>rfl
  | cons d q ih=>rw[B1,b9k,ih]
 have h2:∀q:List Nat,q.foldl (Tl.ofB (Nand.new D B P)) (Tl.new D B P)=Tl.new D B P:=by
  intro q
  induction q with
  | nil=>rfl
  | cons b q ih=>
   rw[B1];have:Tl.ofB (Nand.new D B P) (Tl.new D B P) b=Tl.new D B P:=h1 b _;rw[this,ih]
 unfold Tl.of;rw[show(Nand.new D B P).dies=D from rfl,show(Nand.new D B P).blocks=B from rfl,show(Nand.new D B P).pages=P from rfl,hd,h2]
theorem b6x {D B P k m:Nat} {lg:Int} (hO:(Dv.new D B P lg).Ok k m):(Dv.new D B P lg).clear=(Dv.new D B P lg,0)/\(Dv.new D B P lg).room=(Dv.new D B P lg,0):=by
 have hg:=hO.gd.ok.bd16;have hg:(3<=D/\D<=6)/\(8<=B/\B<=16)/\(2<=P/\P<=8):=hg;have hsp:A6 (E8 (Dv.new D B P lg).t (Dv.new D B P lg).T) (Dv.new D B P lg).op (Dv.new D B P lg).t.b=[]:=a3e _ λx hx=>by
  have hx:x<B:=hx;unfold E8 Tl.blank;rw[show(Dv.new D B P lg).t=Tl.new D B P from rfl,b3k,Tl.has_iff.2 (show 0<=(x:Int)/\(x:Int)<(Tl.new D B P).b by show 0<=(x:Int)/\(x:Int)<(B:Int);omega)];simp[Sb.zero]
 have hc:(Dv.new D B P lg).clear=(Dv.new D B P lg,0):=by
  unfold Dv.clear Dv.clearX;rw[hsp];rfl
 have hfr:((Dv.new D B P lg).free:Int)>4:=by
  have h1:=(Inv.new (-1) D B P lg).free_len (k:=k) (m:=m) hO;have h2:(Dv.new D B P lg).t.blanks=B:=by
   show(List.replicate B Sb.zero).countP _=B;rw[List.countP_replicate];rfl
  have h1:(Dv.new D B P lg).free=(Dv.new D B P lg).t.blanks:=h1;omega
 refine⟨hc,?_⟩;unfold Dv.room;rw[hc,d8 (by simp)];obtain⟨c,hc2⟩:∃c,(Dv.new D B P lg).t.b=c+1:=⟨(Dv.new D B P lg).t.b-1,by show B=B-1+1;omega⟩;rw[hc2];show Dv.roomGo (c+1) (Dv.new D B P lg)=_;unfold Dv.roomGo;rw[f0 hfr]
theorem a9s {D B P k m:Nat} (hO:(Dv.new D B P (lgN D B P)).Ok k m):Q6 (Nand.new D B P)=(Dv.new D B P (lgN D B P),0):=by
 obtain⟨c1,c2⟩:=b6x hO;unfold Q6;rw[show(Nand.new D B P).dies=D from rfl,show(Nand.new D B P).blocks=B from rfl,show(Nand.new D B P).pages=P from rfl,b6t,c0R];have e:(⟨Nand.new D B P,Tl.new D B P,Tb.new (lgN D B P),-1,0,0,max 1 1⟩:Dv)=Dv.new D B P (lgN D B P):=rfl;dsimp only;rw[e];have h1:(Dv.new D B P (lgN D B P)).holds [] true=Dv.new D B P (lgN D B P):=rfl;have h2:(Dv.new D B P (lgN D B P)).holds [] false=Dv.new D B P (lgN D B P):=rfl;have h3:(Dv.new D B P (lgN D B P)).torn []=(Dv.new D B P (lgN D B P),0):=rfl;rw[h1,List.take_nil,List.drop_nil,h3];dsimp only;rw[d8 (by simp),h2,c1];dsimp only;rw[d8 (by simp),h3];dsimp only;rw[d8 (by simp)];exact c2
theorem FI.new (fd:Int) {D B P:Nat} (hD:3<=D/\D<=6) (hB:8<=B/\B<=16) (hP:2<=P/\P<=8) (hlg:lgN D B P<=200):FI fd [] (lgN D B P) (Fv.of (Dv.new D B P (lgN D B P))):=
 ⟨Inv.new fd D B P _,⟨rfl,λ_ _ he=>(by cases he)⟩,λ_ _ he=>(by cases he),λ_ _ he=>(by cases he),(by
  show min (max ((lgN D B P:Nat):Int) 0) 65536=_;omega),rfl,hlg,λ_ he=>(by cases he),a1y,rfl⟩
namespace Rmy
variable {fd : Int} {S : Dv} {k m β : Nat} {W : List (Int × En)}
theorem pens {E:List En} (h:Rmy fd W S) (hO:S.Ok (8*Dv.fuel+k) m) (hot:Hot2 fd S β) (hr:β<S.rows) (hf:∀e∈E,FitR e) (hl0:E.length≠0) (hnd:(E.map (·.lpn)).Nodup) (hlg:∀e∈E,e.lpn<S.T.logical) (hcap:2*S.T.logical.toNat<=(S.N.blocks-5)*(S.N.pages*(S.N.dies-2))+1) (hnx:S.next<=1099511627775-1200):
  ∃(V:Dv) (n β':Nat),S.pen E=(V,(n:Int),(0:Int))/\1<=n/\n<=E.length/\Rmy fd (a2I W E n) V/\V.Ok k m/\Hot2 fd V β'/\β'<=β/\S.rows+β'<=V.rows+1+β/\S.next<=V.next/\V.next<=S.next+21/\V.N.dead=S.N.dead/\V.N.broken=S.N.broken/\S.N.Like V.N/\V.T.logical=S.T.logical:=by
 obtain⟨V,n,γ,p1,p2,p3,p4⟩:=h.inv.pen_step (E:=E) hO hot hr hf hl0 hnd hlg hnx h.hd;obtain⟨g1,g2⟩:=p2.hot β hot;have hrw:=p2.rows;have hn:=p2.n1;have hlen:(a2I W E n).length=V.T.at_.length:=by
  have:=congrArg List.length p4.keys;simpa using this.symm
 have hal:=b3l p3.T;obtain⟨w1,_⟩:WOk (a2I W E n)/\True:=by
  refine⟨?_,trivial⟩;have:∀j,j<=E.length->WOk (a2I W E j):=by
   intro j
   induction j with
   | zero=>intro _;exact h.wok
   | succ j ih=>
    intro hj;rw[a2G];exact(ih (by omega)).put (hf _ (a1r (by omega)))
  exact this n hn
 refine⟨V,n,β-γ,p1,p2.n3,p2.n1,⟨p2.inv,p4,w1,λb hb=>by rw[p2.has]at hb;rw[(p2.sb b hb).1];exact h.held b hb,λhd i j=>by rw[(p2.flags i j).2];exact h.ff (λi=>by rw[<- p2.dead];exact hd i) i j,?_⟩,p3,g2,by omega,by omega,p2.next.1,p2.next.2,p2.dead,p2.broken,p2.like,p2.logical⟩;rw[p2.like.blocks,p2.like.pages,p2.like.dies,hlen];rw[p2.logical]at hal;omega
end Rmy
def UN:Nat:=Fv.cW+1
theorem a8D:UN=Dv.costM+8*Dv.fuel+1:=rfl
theorem b8n:96<=UN:=by
 have:96<=8*Dv.fuel:=by decide
 rw[a8D];omega
theorem a3Z:Fv.cW*200<=UN*200:=H9 _ (a6L _)
theorem a6e:FI.costW*200<=UN*200:=H9 _ (a6L _)
theorem b8o:Dv.costK<=UN*402:=by
 have h:Dv.costT*200<=UN*200:=H9 _ (a6L _);have:=b8n;have h2:Dv.costM<=UN:=by rw[a8D];omega
 unfold Dv.costK;omega
theorem c1z:UN*200000<=1000000000000000:=by decide+kernel
theorem b4i {n:Nat} (h:n<=200000):UN*n<=1000000000000000:=C6 (p6 _ h) c1z
theorem b3R {d b p:Nat} (hd:3<=d/\d<=6) (hb:8<=b/\b<=16) (hp:2<=p/\p<=8):1<=lgN d b p/\lgN d b p<=200/\2*lgN d b p<=(b-5)*(p*(d-2))+1:=by
 have h1:(b-5)*p*(d-2)=(b-5)*(p*(d-2)):=Nat.mul_assoc _ _ _;have h2:3*2<=(b-5)*p:=T6 (by omega) hp.1;have h3:6*1<=(b-5)*p*(d-2):=T6 h2 (by omega);have h4:(b-5)*p<=11*8:=T6 (by omega) hp.2;have h5:(b-5)*p*(d-2)<=88*4:=T6 h4 (by omega);unfold lgN;omega
def b2t (U:WAd) (W:Wa) (Zl:List MSl):List Atom:=b5J U W::b5I U W::(a2U U.R Zl++a2V U.q U.nn U.A W.P)
def a3Y (U:WAd) (W:Wa) (Zl:List MSl) (Z:Fv):List Atom:=[b5J U W,b5I U W]++a2U U.R Zl++([PlQ U.q U.nn (some Z) U.A.f (pp U.A.fp) (slv U.A.a2 W.P.log.length U.A.c2), .pt U.A.fp 176 [.slice (Q5 U.A.a) W.P.L.length U.A.c],rdA (Q5 U.A.a) 7 W.P.L.length (x9 W.P.L),n7 50 17 U.A.a2 W.P.log.length U.A.c2 (T3 W.P.log)]++FvP U.A.f U.A.p U.nn U.A.t U.A.l U.A.d Z)
theorem a0l {W:Wa} {Z:Fv} (hZ:W.P.Z=some Z) (U:WAd) (Zl:List MSl):b2t U W Zl=a3Y U W Zl Z:=by
 unfold b2t a3Y;rw[W9 U.q U.nn U.A W.P Z hZ];rfl
theorem c0u (g0 g1 g2 die:Int) (A:Atom) (ad:Option Addr) (n c:Nat) (l:List Fl) (hA:Rd A ad 7 n (x9 l)) (hl:l.length=n):
  FP 12 [.agg #[iI g0,iI g1,iI g2],iI die, .slice ad n c] [A] (λv As=>∃(D B P:Nat) (U:WAd) (Zl:List MSl),v=pp U.w/\(3<=D/\D<=6)/\(8<=B/\B<=16)/\(2<=P/\P<=8)/\U.A.Ok (Wa.new D B P die l).P/\Zl.map (·.v)=(Wa.new D B P die l).M/\As=A::b2t U (Wa.new D B P die l) Zl):=by
 refine FE [0,0,0] Tryz.func12 λX F hX=>?_;refine J.q λbb=>?_;refine J.cb (c0Z g0 g1 g2) [] ?_;rintro v As ⟨D,B,P,rfl,hD,hB,hP,rfl⟩;refine⟨_,rfl,trivial,?_⟩;have hgm:J2 D B P=true:=by simp[J2];omega
 have hgb:=b3R hD hB hP;have ht1:=a7j die D (by omega);have ht2:=b4u die D (by omega);refine J.pq (.of [0,4,9,12,16,21,24,28,33,36,41,46,50,52,58,60]) [15] [2] λ_ _=>?_;obtain⟨u,hu⟩:∃u,(die.tmod D+D).tmod D=u:=⟨_,rfl⟩;rw[hu];refine J.qp (b3b D B P hgm) [] λ_=>?_;refine J.qc (b0L (lgN D B P) (lgN D B P) (by omega)) [] λ_=>?_;rintro v As ⟨R,Zl,rfl,rfl,hZl⟩;refine⟨_,rfl,stq,?_⟩;refine J.q λbw=>?_;refine J.turn1 [] rfl (As:=[n7 34 7 none 0 0 (x9 [])]) (λh s=>Sep.one ⟨rfl,rfl,rfl⟩) rfl ?_;refine J.q λ_=>?_;refine J.l (α:=(Nat×Option Nat×Nat)) (λz=>z.1<=n/\z.1<=15) (λz=>[si 9 z.1,sv 8 (slv z.2.1 z.1 z.2.2),⟨7,pp (bw 0),11, .tt⟩,sv 2 (.slice ad n c),⟨3,pp (bb 0),3, .tt⟩]) [11] (λz=>[n7 34 7 z.2.1 z.1 z.2.2 (x9 ((l.take z.1).map (Wa.fx u)))]) (λz=>15-z.1) ((0,none,0)) (⟨j8 _,j8 _⟩) λz hI=>?_;obtain⟨k,ga,ca⟩:=z;dsimp only at hI ⊢;obtain⟨hk1,hk2⟩:=hI;refine J.qd (λ_ h1=>?_) λ_ h1=>?_
 ·simp only[f8,d7,i6]at h1;obtain⟨h1,h2⟩:=h1;have h2:k<15:=by omega
  obtain⟨x,hx⟩:∃x,l[k]? =some x:=⟨_,d5 (by omega)⟩;refine J.know (p:=∃g o,ad=some ⟨g,o,none⟩) (λh' s=>Rd.addr (hA _ (s.get (i:=1) rfl)) (by omega)) λhk2=>?_;obtain⟨g,o,rfl⟩:=hk2;refine J.q λ_=>?_;refine J.v (flV x) rfl rfl (λhg a w he hw=>?_) ?_
  ·exact a1K tk rfl rfl he rfl rfl rfl (hA _ (hw.get (i:=1) rfl)) (by omega) (j:=k*7) (by omega) (by have:=X8 l [] k _ hx;rwa [y8]at this) rfl
  refine J.q λ_=>?_;refine J.ap 11 13 0 (a5v ((l.take k).map (Wa.fx u)) (Wa.fx u x)) λa3 c3=>?_;rw[show(l.take k).map (Wa.fx u)++[Wa.fx u x]=(l.take (k+1)).map (Wa.fx u)from by rw[C7,hx];simp];refine J.q λ_=>?_;refine J.n ((k+1,a3,c3)) (⟨by dsimp only;omega,by dsimp only;omega⟩) (by dsimp only;omega) [0,1,2,3,4,5,6,7,8,9,10,11]
 have hk3:l.take k=l.take 15:=by
  simp only[a1a,c9,i6]at h1;rcases O1 k n with h | h
  ·have:k=15:=by omega
   rw[this]
  ·rw[t6 (by omega),t6 (by omega)]
 have hfl:(l.take 15).map (Wa.fx u)=Wa.fl D die l:=by unfold Wa.fl Wa.dieI;rw[hu]
 rw[hk3,hfl];have hkl:k=(Wa.fl D die l).length:=by rw[<- hfl,j7,<- hk3,l9];omega
 clear hk3 hk1 h1;subst hkl;obtain⟨fs,hfs⟩:∃fs,Wa.fl D die l=fs:=⟨_,rfl⟩;rw[hfs]at hk2 ⊢;have hz:(Pv.new D B P fs).Z=some (Fv.of (Dv.new D B P (lgN D B P))):=by
  show(if(Q6 (Nand.new D B P)).2=0 then some (Fv.of (Q6 (Nand.new D B P)).1)else none)=_;rw[a9s (Dv.Ok.new D B P (lgN D B P) hgm 0 (by decide))];rfl
 refine J.qc (b6E D B P hgm (n7 34 7 ga fs.length ca (x9 fs)) (oad ga) fs.length ca fs (X6 _ _ _ _ _ _) rfl hk2) [11] λ_=>?_;rintro _ As ⟨q,nn,A0,rfl,hA0,rfl⟩;rw[W9 q nn A0 _ _ hz];refine⟨_,rfl,stq,?_⟩;refine J.qr [1,10,11,3,4,5,6,7,8,9,12,13,14,15,16,17,18,19,20,21] λ_=>?_;refine⟨D,B,P,⟨bw 0,q,nn,A0,R,ga,ca⟩,Zl,rfl,hD,hB,hP,?_,hZl,?_⟩
 ·show A0.Ok (Pv.new D B P (Wa.fl D die l));rw[hfs];exact hA0
 ·have hw:Wa.new D B P die l=⟨Pv.new D B P fs,Mv.new (lgN D B P),u,false,false,false,fs,0,0⟩:=by unfold Wa.new;rw[hfs];unfold Wa.dieI;rw[hu]
  rw[hw];unfold b2t b5J b5I;dsimp only;rw[W9 q nn A0 _ _ hz];rfl
theorem Mv.write_len (M:List MPv) (i:Int) (d:List UInt8):(Mv.write M i d).length=M.length:=by unfold Mv.write;split<;>simp
theorem Mv.saw_len (M:List MPv) (i:Int) (d:List UInt8):(Mv.saw M i d).length=M.length:=by unfold Mv.saw;split<;>simp
theorem Mv.flush_len (M:List MPv):(Mv.flush M).length=M.length:=by unfold Mv.flush;simp
def Mv.Fine (M:List MPv) (b:Nat):Prop:=∀v∈M,v.now.length=16/\(∀x∈v.may,x.length=16)/\(∀x∈v.ever,x.length=16)/\v.may.length<=b/\v.ever.length<=b
theorem Mv.Fine.more {M:List MPv} {b c:Nat} (h:Mv.Fine M b) (hb:b<=c):Mv.Fine M c:=λv hv=>by
 obtain⟨f1,f2,f3,f4,f5⟩:=h v hv;exact⟨f1,f2,f3,by omega,by omega⟩
theorem Mv.Fine.set {M:List MPv} {b:Nat} (h:Mv.Fine M b) {k:Nat} {v:MPv} (hv:v.now.length=16/\(∀x∈v.may,x.length=16)/\(∀x∈v.ever,x.length=16)/\v.may.length<=b/\v.ever.length<=b):Mv.Fine (M.set k v) b:=λx hx=>by
 rcases List.mem_or_eq_of_mem_set hx with h' | h'
 ·exact h x h'
 ·rw[h'];exact hv
theorem Mv.Fine.pg {M:List MPv} {b:Nat} (h:Mv.Fine M b) (hb:1<=b) (i:Int):(Mv.pg M i).now.length=16/\(∀x∈(Mv.pg M i).may,x.length=16)/\(∀x∈(Mv.pg M i).ever,x.length=16)/\(Mv.pg M i).may.length<=b/\(Mv.pg M i).ever.length<=b:=by
 unfold Mv.pg;rw[d6];cases hx:M[i.toNat]? with
 | none=>exact⟨rfl,by decide,by decide,hb,hb⟩
 | some v=>exact h v (o0 hx)
theorem Mv.Fine.write {M:List MPv} {b:Nat} (h:Mv.Fine M b) (hb:1<=b) (i:Int) {d:List UInt8} (hd:d.length=16):Mv.Fine (Mv.write M i d) (b+1):=by
 unfold Mv.write;split
 ·obtain⟨f1,f2,f3,f4,f5⟩:=h.pg hb i;refine(h.more (by omega)).set ⟨hd,λx hx=>?_,λx hx=>?_,?_,?_⟩
  ·rcases List.mem_append.1 hx with h' | h'
   ·exact f2 x h'
   ·rw[List.mem_singleton.1 h'];exact hd
  ·rcases List.mem_append.1 hx with h' | h'
   ·exact f3 x h'
   ·rw[List.mem_singleton.1 h'];exact hd
  ·show((Mv.pg M i).may++[d]).length<=_;rw[f9,K7];omega
  ·show((Mv.pg M i).ever++[d]).length<=_;rw[f9,K7];omega
 ·exact h.more (by omega)
theorem Mv.Fine.saw {M:List MPv} {b:Nat} (h:Mv.Fine M b) (hb:1<=b) (i:Int) {d:List UInt8} (hd:d.length=16):Mv.Fine (Mv.saw M i d) b:=by
 unfold Mv.saw;split
 ·obtain⟨f1,f2,f3,f4,f5⟩:=h.pg hb i;refine h.set ?_;unfold Mv.seen;split
  ·exact⟨hd,λx hx=>by rw[List.mem_singleton.1 hx];exact hd,f3,hb,f5⟩
  ·exact⟨f1,f2,f3,f4,f5⟩
 ·exact h
theorem Mv.Fine.flush {M:List MPv} {b:Nat} (h:Mv.Fine M b) (hb:1<=b):Mv.Fine (Mv.flush M) b:=λv hv=>by
 unfold Mv.flush at hv;obtain⟨x,hx,rfl⟩:=List.mem_map.1 hv;obtain⟨f1,f2,f3,f4,f5⟩:=h x hx;show(if x.op then x else {x with may:=[x.now]}).now.length=16/\(∀y∈(if x.op then x else {x with may:=[x.now]}).may,y.length=16)/\(∀y∈(if x.op then x else {x with may:=[x.now]}).ever,y.length=16)/\(if x.op then x else {x with may:=[x.now]}).may.length<=b/\(if x.op then x else {x with may:=[x.now]}).ever.length<=b;split
 ·exact⟨f1,f2,f3,f4,f5⟩
 ·exact⟨f1,λy hy=>by rw[List.mem_singleton.1 hy];exact f1,f3,hb,f5⟩
namespace Wa
variable {W : Wa} {s : Stp}
theorem hold_len (W:Wa) (s:Stp) (t:Td):(W.hold s t).1.length=W.M.length:=by
 unfold hold
 repeat' split
 all_goals first | rfl | exact Mv.saw_len _ _ _ | exact Mv.write_len _ _ _ | exact Mv.flush_len _
theorem hold_fine {b:Nat} (h:Mv.Fine W.M b) (hb:1<=b) (hd:s.data.length=16) {t:Td} (ht:t.data.length=16):Mv.Fine (W.hold s t).1 (b+1):=by
 have hz:(if s.fn=3 then zd else s.data).length=16:=by split;(· rfl);exact hd
 unfold hold
 repeat' split
 all_goals first | exact h.more (a6L _) | exact(h.saw hb _ ht).more (a6L _) | exact h.write hb _ hz | exact h.write hb _ (show zd.length=16 from rfl) | exact h.write hb _ hd | exact(h.flush hb).more (a6L _)
end Wa
theorem Pv.run_none {P:Pv} {Z:Fv} (hZ:P.Z=some Z) (hL:P.L=[]):P.run=P:=by
 have hnd:P.nd=Z.S.N:=by unfold Pv.nd;rw[hZ]
 cases P;dsimp only at hZ hL;subst hZ hL;rfl
theorem b0R {W:List (Int×En)} {L:List En} (hW:WOk W) (hL:∀e∈L,e.data.length=16) (i:Int):(cur W L i).length=16:=by
 unfold cur;split
 ·rename_i e he;exact hL e (List.mem_of_find?_eq_some he)
 ·split
  ·rename_i e he;exact(hW i e he).2.len
  ·rfl
structure FdCh (fd:Nat) (N N':Nand):Prop where
 like:N.Like N'
 off:N'.off=N.off
 cuts:N'.cuts=N.cuts
 broken:N'.broken=N.broken
 dead:∀i:Nat,i≠fd->N'.dead.getD i false=N.dead.getD i false
 dead2:N'.dead.getD fd false=false->N.dead.getD fd false=false
 plan:∀a∈N'.plan,a∈N.plan\/a.1=(fd:Int)
 blk:∀i j:Nat,i≠fd->N'.blk i j=N.blk i j
 len:∀j:Nat,(N'.blk fd j).cells.length=(N.blk fd j).cells.length
 cell:∀(j r:Nat) (c:NCell),(N'.blk fd j).cells[r]? =some c->∃c0,(N.blk fd j).cells[r]? =some c0/\∀s,a4c s c0->a4c s c
namespace FdCh
variable {fd : Nat} {N N' : Nand}
theorem refl (fd:Nat) (N:Nand):FdCh fd N N:=⟨Nand.Like.refl _,rfl,rfl,rfl,λ_ _=>rfl,λh=>h,λ_ h=> .inl h,λ_ _ _=>rfl,λ_=>rfl,λ_ _ c h=>⟨c,h,λ_ h=>h⟩⟩
theorem same_blk (like:N.Like N') (off:N'.off=N.off) (cuts:N'.cuts=N.cuts) (broken:N'.broken=N.broken) (hd:∀i:Nat,i≠fd->N'.dead.getD i false=N.dead.getD i false) (hd2:N'.dead.getD fd false=false->N.dead.getD fd false=false) (plan:∀a∈N'.plan,a∈N.plan\/a.1=(fd:Int)) (hb:∀i j,N'.blk i j=N.blk i j\/i=fd/\(N'.blk i j).cells=(N.blk i j).cells):FdCh fd N N':=by
 refine⟨like,off,cuts,broken,hd,hd2,plan,λi j hi=>?_,λj=>?_,λj r c hc=>?_⟩
 ·rcases hb i j with h | ⟨h,_⟩
  ·exact h
  ·exact absurd h hi
 ·rcases hb fd j with h | ⟨_,h⟩
  ·rw[h]
  ·rw[h]
 ·refine⟨c,?_,λ_ h=>h⟩;rcases hb fd j with h | ⟨_,h⟩
  ·rw[<- h];exact hc
  ·rw[<- h];exact hc
theorem cellCh {y z:Int} (f:NCell->NCell) (hf:∀c,N.pageAt (fd:Int) y z=some c->∀s,a4c s c->a4c s (f c)):FdCh fd N (N.setCell (fd:Int) y z f):=by
 have hb:∀i j,(N.setCell (fd:Int) y z f).blk i j=if i=fd/\j=y.toNat then {N.blk fd y.toNat with cells:=(N.blk fd y.toNat).cells.modify z.toNat f}else N.blk i j:=λi j=>by
  show(if i=(fd:Int).toNat/\j=y.toNat then _ else _)=_;rw[i9]
 refine⟨⟨rfl,rfl,rfl⟩,rfl,rfl,rfl,λ_ _=>rfl,λh=>h,λ_ h=> .inl h,λi j hi=>by rw[hb,d8 (λh=>hi h.1)],λj=>?_,λj r c hc=>?_⟩
 ·rw[hb];split
  ·rename_i h;rw[h.2];show((N.blk fd y.toNat).cells.modify z.toNat f).length=_;rw[K4]
  ·rfl
 ·rw[hb]at hc;split at hc
  ·rename_i h;rw[h.2];have hc:((N.blk fd y.toNat).cells.modify z.toNat f)[r]? =some c:=hc;rw[a0g]at hc;cases h0:(N.blk fd y.toNat).cells[r]? with
   | none=>rw[h0]at hc;cases hc
   | some c0=>
    rw[h0]at hc;refine⟨c0,rfl,λs hs=>?_⟩
    by_cases hz:z.toNat=r
    ·have hc:some (if z.toNat=r then f c0 else c0)=some c:=hc;rw[f0 hz]at hc;injection hc with hc;rw[<- hc];refine hf c0 ?_ s hs;unfold Nand.pageAt;rw[i9,hz];exact h0
    ·have hc:some (if z.toNat=r then f c0 else c0)=some c:=hc;rw[d8 hz]at hc;injection hc with hc;rw[<- hc];exact hs
  ·exact⟨c,hc,λ_ h=>h⟩
theorem cell_lost (c:NCell) (s:Sh):a4c s {c with lost:=true}:= .inl rfl
theorem xor_zero (p:List UInt8) (n:Nat):Nand.xorAt p n 0=p:=by
 unfold Nand.xorAt;rw[UInt8.xor_zero];apply s8;intro i;rw[s7];split
 ·rename_i h;subst h;split
  ·rename_i h;rw[d6,d5 h];rfl
  ·rename_i h;rw[j9 (by omega)]
 ·rfl
theorem fault (N:Nand) (kind y z n xx:Int):FdCh fd N (N.fault kind (fd:Int) y z n xx).2:=by
 unfold Nand.fault;split
 ·exact refl fd N
 split
 ·exact same_blk ⟨rfl,rfl,rfl⟩ rfl rfl rfl (λ_ _=>rfl) (λh=>h) (λa ha=>by
   have ha:a∈Nand.addP N.plan ((fd:Int),y,z):=ha;unfold Nand.addP at ha;split at ha
   ·exact .inl ha
   ·rcases List.mem_append.1 ha with h | h
    ·exact .inl h
    ·simp at h;rw[h];exact .inr rfl) (λ_ _=> .inl rfl)
 split
 ·exact same_blk ⟨rfl,rfl,rfl⟩ rfl rfl rfl (λ_ _=>rfl) (λh=>h) (λ_ h=> .inl h) (λi j=>by
   show(if i=(fd:Int).toNat/\j=y.toNat then _ else _)=_\/_;rw[i9]
   by_cases e:i=fd/\j=y.toNat
   ·right;refine⟨e.1,?_⟩;show(if i=(fd:Int).toNat/\j=y.toNat then _ else _:NBlock).cells=_;rw[i9,f0 e,e.1,e.2]
   ·left;rw[d8 e])
 split
 ·exact cellCh _ λc _ s _=>cell_lost c s
 split
 ·exact same_blk ⟨rfl,rfl,rfl⟩ rfl rfl rfl (λi hi=>by
   show(N.dead.set (fd:Int).toNat true).getD i false=_;rw[d6,s7,d8 (by omega),<- d6]) (λh=>by
   have h:(N.dead.set (fd:Int).toNat true).getD fd false=false:=h;rw[d6,s7,f0 (by omega)]at h;rw[d6];split at h
   ·cases h
   ·rename_i hlt;rw[j9 (by omega)];rfl) (λ_ h=> .inl h) (λ_ _=> .inl rfl)
 split
 ·split
  ·exact refl fd N
  ·rename_i hn;cases hp:N.pageAt (fd:Int) y z with
   | none=>exact refl fd N
   | some c=>
    dsimp only;split
    ·exact refl fd N
    split
    ·exact refl fd N
    ·rename_i ht hl;refine cellCh _ λc' hc' s hs=>?_;rw[hp]at hc';injection hc' with hc';subst hc';rcases hs with h | h | ⟨h,_⟩
     ·exact absurd h hl
     ·obtain⟨x,hx⟩:∃x,UInt8.ofNat (xx % 256).toNat=x:=⟨_,rfl⟩;show a4c s {c with p:=Nand.xorAt c.p n.toNat (UInt8.ofNat (xx % 256).toNat),turned:=true};rw[hx]
      by_cases h0:x=0
      ·rw[h0];exact .inr (.inl (by show Nand.xorAt c.p n.toNat 0=W5 s;rw[xor_zero];exact h))
      ·exact .inr (.inr ⟨rfl, .inl ⟨n.toNat,x,by omega,h0,by show Nand.xorAt c.p n.toNat x=_;rw[h]⟩⟩)
     ·exact absurd h ht
 ·exact refl fd N
end FdCh
theorem Inv.changed {S:Dv} {fd:Nat} {N':Nand} (h:Inv fd S) (c:FdCh fd S.N N'):Inv fd {S with N:=N'}/\∀i a,Std fd S i a->Std fd {S with N:=N'} i a/\R.read N' a.block a.row a.slot a.mask=R.read S.N a.block a.row a.slot a.mask:=by
 have hoff:N'.off=false:=c.off.trans h.lit.off;have hdead:∀i:Nat,(i:Int)≠fd->N'.dead.getD i false=false:=λi hi=>by rw[c.dead i (by omega)];exact h.dead i hi
 have hpage:∀(d b r:Int),d.toNat≠fd->N'.pageAt d b r=S.N.pageAt d b r:=λd b r hd=>by
  unfold Nand.pageAt;rw[c.blk _ _ hd]
 have hfull:∀b r m l,Full fd S.N b r m l->Full fd N' b r m l:=λb r m l hF=>by
  refine⟨hF.is.like c.like,λx hx hne=>?_,λx hx y hy=>?_⟩
  ·obtain⟨t,ht⟩:=hF.good x hx hne;have:=(hF.is.inn x hx).1;exact⟨t,by rw[hpage _ _ _ (by omega)];exact ht⟩
  ·by_cases e:x.1.toNat=fd
   ·unfold Nand.pageAt at hy;rw[e]at hy;obtain⟨c0,h1,h2⟩:=c.cell _ _ y hy;refine h2 _ (hF.inn x hx c0 ?_);unfold Nand.pageAt;rw[e];exact h1
   ·rw[hpage _ _ _ e]at hy;exact hF.inn x hx y hy
 have hstd:∀i a,Std fd S i a->Std fd {S with N:=N'} i a/\R.read N' a.block a.row a.slot a.mask=R.read S.N a.block a.row a.slot a.mask:=λi a ha=>by
  obtain⟨l,g1,g2,g3,g4⟩:=ha.row;have hk:=hfull _ _ _ _ g1;have r1:=hk.read hoff hdead g3;have r2:=g1.read h.lit.off h.dead g3;rw[show((a.slot.toNat:Nat):Int)=a.slot from by omega]at r1 r2;exact⟨⟨⟨l,hk,g2,g3,g4⟩,ha.used,ha.below,ha.seq⟩,by rw[r1,r2]⟩
 have hlen:∀d j:Nat,(N'.blk d j).cells.length=(S.N.blk d j).cells.length:=λd j=>by
  by_cases e:d=fd
  ·rw[e];exact c.len j
  ·rw[c.blk d j e]
 refine⟨⟨⟨hoff,c.cuts.trans h.lit.cuts⟩,hdead,λa ha=>?_,λi j hi=>?_,h.tdead,h.tbad,?_,λb hb hu d hd=>?_,λi a ha=>(hstd i a (h.st i a ha)).1⟩,hstd⟩
 ·rcases c.plan a ha with e | e
  ·exact h.plan a e
  ·exact e
 ·show(N'.blk i j).met=false/\(N'.blk i j).fails=false;rw[c.blk i j (by omega)];exact h.flags i j hi
 ·rcases h.op with e | e
  ·exact .inl e
  ·refine .inr ⟨by have:=e.blk;show 0<=S.op/\S.op<(N'.blocks:Int);rw[c.like.blocks];exact this,e.used,by have:=e.row;show 0<=S.row/\S.row<=(N'.pages:Int);rw[c.like.pages];exact this,by have:=e.mask;show Msk N'.dies fd S.mask;rw[c.like.dies];exact this,λd hd=>?_⟩;have h1:=e.cells d hd;show((N'.blk d S.op.toNat).cells.length:Int)<=S.row/\(N'.dead.getD d false=false->((N'.blk d S.op.toNat).cells.length:Int)=S.row);rw[hlen];refine⟨h1.1,λhdd=>h1.2 ?_⟩
   by_cases e2:d=fd
   ·rw[e2]at hdd ⊢;exact c.dead2 hdd
   ·rw[<- c.dead d e2];exact hdd
 ·have h1:=h.blank b hb hu d hd;have h2:=hlen d b.toNat
  rw[h1]at h2;exact m6 h2
theorem FI.faulted {fd lg:Nat} {W:List (Int×En)} {F:Fv} (h:FI fd W lg F) (kind y z n xx:Int):FI fd W lg {F with S:={F.S with N:=(F.S.N.fault kind (fd:Int) y z n xx).2}}:=by
 have c:=FdCh.fault (fd:=fd) F.S.N kind y z n xx;obtain⟨h1,h2⟩:=h.inv.changed c;refine⟨h1,⟨h.hd.keys,λi e he=>?_⟩,h.wok,h.wr,h.log,?_,h.lg2,h.des,h.nd,h.off⟩
 ·obtain⟨g1,a,g2,g3⟩:=h.hd.each i e he;refine⟨g1,a,g2,?_⟩;show R.read (F.S.N.fault kind (fd:Int) y z n xx).2 _ _ _ _=_;rw[(h2 i a (h.inv.st i a g2)).2];exact g3
 ·have:=h.lgn;unfold Fv.lg at this ⊢;show((lgN (F.S.N.fault kind (fd:Int) y z n xx).2.dies (F.S.N.fault kind (fd:Int) y z n xx).2.blocks (F.S.N.fault kind (fd:Int) y z n xx).2.pages:Nat):Int)=_;rw[c.like.dies,c.like.blocks,c.like.pages];exact this
structure DevF (fd:Int) (D B P:Nat) (F:Fv) (n m:Nat) (c:Nat->List UInt8):Prop where
 fi:∃W,FI fd W (lgN D B P) F/\∀i:Nat,i<lgN D B P->cur W F.L i=c i
 ok:F.Ok (UN*n) m
 nx:F.S.next+20000000*(n:Int)<=1098000000000
 br:F.S.N.broken=0
 geo:F.S.N.dies=D/\F.S.N.blocks=B/\F.S.N.pages=P
 le:n<=54500
namespace DevF
variable {fd : Int} {D B P n m : Nat} {F : Fv} {c : Nat → List UInt8}
theorem lg (h:DevF fd D B P F n m c):F.lg=(lgN D B P:Int):=by
 obtain⟨W,hW,_⟩:=h.fi;exact hW.lgn
theorem less (h:DevF fd D B P F n m c) {k:Nat} (hk:k<=n):DevF fd D B P F k m c:=
 ⟨h.fi,h.ok.less (p6 _ hk),by have:=h.nx;omega,h.br,h.geo,by have:=h.le;omega⟩
theorem read (h:DevF fd D B P F n m c) (i:Int):F.read i=if i<0\/i>=(lgN D B P:Int)then(F,zeros16,3)else(F,c i.toNat,0):=by
 obtain⟨W,hW,hc⟩:=h.fi;rw[hW.read]
 by_cases hi:i<0\/i>=(lgN D B P:Int)
 ·rw[f0 hi,f0 hi]
 ·rw[d8 hi,d8 hi,<- hc i.toNat (by omega),Int.toNat_of_nonneg (by omega)]
theorem like (h:DevF fd D B P F n m c) {G:Fv} (hl:F.S.N.Like G.S.N):G.S.N.dies=D/\G.S.N.blocks=B/\G.S.N.pages=P:=
 ⟨hl.dies.trans h.geo.1,hl.blocks.trans h.geo.2.1,hl.pages.trans h.geo.2.2⟩
theorem off (h:DevF fd D B P F n m c):F.S.N.off=false:=by
 obtain⟨W,hW,_⟩:=h.fi;exact hW.inv.lit.off
theorem put (h:DevF fd D B P F (n+1) m c) {e:En} (he:0<=e.lpn->e.lpn<(lgN D B P:Int)->FitR e/\e.role≠4) (hk:(F.waits e).1.Ok (UN*n) m):
  ∃er c',(F.waits e).2=er/\DevF fd D B P (F.waits e).1 n m c'/\((er=0/\(0<=e.lpn/\e.lpn<(lgN D B P:Int))/\c'=λj=>if j=e.lpn.toNat then e.data else c j)\/((er=3/\¬(0<=e.lpn/\e.lpn<(lgN D B P:Int)))\/er=11)/\c'=c):=by
 obtain⟨W,hW,hc⟩:=h.fi;have hU:UN*(n+1)=UN*n+UN:=D5 _ _;have hU2:=a8D;have hnx:=h.nx;obtain⟨F',er,W',r1,r2,r3,r4,r5,r6,r7⟩:=hW.waits (k:=UN*n) (h.ok.dv.less (by omega)) (by omega) he;rw[r1]at hk ⊢;have hle:=h.le;rcases r7 with⟨q1,q2,q3,q4⟩ | ⟨q1,q2⟩
 ·exact⟨er,_,rfl,⟨⟨W',r2,λi hi=>(q4 i).trans (by
   rw[hc i hi]
   by_cases e0:i=e.lpn.toNat
   ·rw[f0 e0,f0 (by omega)]
   ·rw[d8 e0,d8 (by omega)])⟩,hk,by dsimp only;omega,r5.trans h.br,h.like r6,by omega⟩, .inl ⟨q1,⟨q2,q3⟩,rfl⟩⟩
 ·exact⟨er,c,rfl,⟨⟨W',r2,λi hi=>(q2 i).trans (hc i hi)⟩,hk,by dsimp only;omega,r5.trans h.br,h.like r6,by omega⟩, .inr ⟨q1,rfl⟩⟩
theorem write (h:DevF fd D B P F (n+1) m c) (i:Int) {d:List UInt8} (hd:d.length=16):
  ∃er c',(F.write i d).2=er/\DevF fd D B P (F.write i d).1 n m c'/\((er=0/\(0<=i/\i<(lgN D B P:Int))/\c'=λj=>if j=i.toNat then d else c j)\/((er=3/\¬(0<=i/\i<(lgN D B P:Int)))\/er=11)/\c'=c):=by
 have h200:=(Fv.lg_bd (F:=F) h.ok.dv.gd.ok).2;rw[h.lg]at h200;have hU:UN*(n+1)=UN*n+UN:=D5 _ _;exact h.put (e:=⟨i,0,1,d⟩) (λa b=>⟨⟨⟨a,by show i<=65535;have b:i<(lgN D B P:Int):=b;omega⟩, .inl rfl,hd⟩,by show(1:Int)≠4;decide⟩) (Fv.write_keep (k:=UN*n) (h.ok.less (by unfold UN at hU ⊢;omega)) i hd).1
theorem trim (h:DevF fd D B P F (n+1) m c) (i:Int):
  ∃er c',(F.trim i).2=er/\DevF fd D B P (F.trim i).1 n m c'/\((er=0/\(0<=i/\i<(lgN D B P:Int))/\c'=λj=>if j=i.toNat then zeros16 else c j)\/((er=3/\¬(0<=i/\i<(lgN D B P:Int)))\/er=11)/\c'=c):=by
 have h200:=(Fv.lg_bd (F:=F) h.ok.dv.gd.ok).2;rw[h.lg]at h200;have hU:UN*(n+1)=UN*n+UN:=D5 _ _;exact h.put (e:=⟨i,0,2,zeros16⟩) (λa b=>⟨⟨⟨a,by show i<=65535;have b:i<(lgN D B P:Int):=b;omega⟩, .inr ⟨.inl rfl,rfl⟩,rfl⟩,by show(2:Int)≠4;decide⟩) (Fv.trim_keep (k:=UN*n) (h.ok.less (by unfold UN at hU ⊢;omega)) i).1
theorem flush (h:DevF fd D B P F (n+200) m c):∃er,F.flush.2=er/\DevF fd D B P F.flush.1 n m c/\(er=0/\F.flush.1.L=[]\/er=11):=by
 obtain⟨W,hW,hc⟩:=h.fi;have hU:UN*(n+200)=UN*n+UN*200:=a0d _ _ _;have hf:=a3Z;have hf2:=a6e;have hnx:=h.nx;have hk:=(Fv.flush_keep (k:=UN*n) (m:=m) (h.ok.less (by omega))).1;obtain⟨F',er,W',r1,r2,_,r4,r5,r6,r7,r8⟩:=hW.flush (k:=UN*n) (h.ok.dv.less (by omega)) (by omega);rw[r1]at hk ⊢;exact⟨er,rfl,⟨⟨W',r2,λi hi=>(r8 i).trans (hc i hi)⟩,hk,by dsimp only;omega,r5.trans h.br,h.like r6,by have:=h.le;omega⟩,r7⟩
theorem tick (h:DevF fd D B P F (n+2) m c):∃er,F.tick.2=er/\DevF fd D B P F.tick.1 n m c/\(er=0\/er=11):=by
 obtain⟨W,hW,hc⟩:=h.fi;have hU:UN*(n+2)=UN*n+UN*2:=a0d _ _ _;have hUe:=a8D;have hS:Dv.costS<=UN*2:=by
  have:Dv.costC<=Dv.costM:=by unfold Dv.costM Dv.costR;omega
  unfold Dv.costS;omega
 have hnx:=h.nx;have hk:=(Fv.tick_keep (k:=UN*n) (m:=m) (h.ok.less (by omega))).1;obtain⟨F',er,r1,r2,r3,r4,r5,r6,r7,r8⟩:=hW.tick (k:=UN*n) (h.ok.dv.less (by omega)) (by omega);rw[r1]at hk ⊢;exact⟨er,rfl,⟨⟨W,r3,λi hi=>by dsimp only;rw[r8];exact hc i hi⟩,hk,by dsimp only;omega,r6.trans h.br,h.like r7,by have:=h.le;omega⟩,r2⟩
theorem faulted {d:Nat} (h:DevF d D B P F n m c) (kind y z a b:Int):DevF d D B P {F with S:={F.S with N:=(F.S.N.fault kind (d:Int) y z a b).2}} n (m+1) c:=by
 obtain⟨W,hW,hc⟩:=h.fi;have hl:=Nand.like_fault F.S.N kind (d:Int) y z a b;have hG:(F.S.N.fault kind (d:Int) y z a b).2.Gd (UN*n) (m+1):=a3l h.ok.dv.gd [⟨0,kind,d,y,z,a,b⟩];have hb:=(FdCh.fault (fd:=d) F.S.N kind y z a b).broken;exact⟨⟨W,hW.faulted kind y z a b,hc⟩,⟨⟨hG,h.ok.dv.t.like hl,h.ok.dv.T,h.ok.dv.sl,h.ok.dv.row,h.ok.dv.next⟩,h.ok.dat,λe he=>by
  have:=h.ok.rng e he;unfold Fv.lg at this ⊢;show 0<=e.lpn/\e.lpn<((lgN (F.S.N.fault kind (d:Int) y z a b).2.dies (F.S.N.fault kind (d:Int) y z a b).2.blocks (F.S.N.fault kind (d:Int) y z a b).2.pages:Nat):Int);rw[a7V hl];exact this,h.ok.nd,h.ok.nx⟩,h.nx,hb.trans h.br,h.like (G:={F with S:={F.S with N:=(F.S.N.fault kind (d:Int) y z a b).2}}) hl,h.le⟩
theorem new (fd:Int) (hD:3<=D/\D<=6) (hB:8<=B/\B<=16) (hP:2<=P/\P<=8) (hlg:lgN D B P<=200) (hgm:J2 D B P=true):DevF fd D B P (Fv.of (Dv.new D B P (lgN D B P))) 54500 0 (λ_=>zeros16):=
 ⟨⟨[],FI.new fd hD hB hP hlg,λ_ _=>rfl⟩,Fv.of_ok (Dv.Ok.new D B P _ hgm _ (b4i (by decide))) (b4i (by decide)),by show(1:Int)+20000000*((54500:Nat):Int)<=_;omega,rfl,⟨rfl,rfl,rfl⟩,j4 _⟩
end DevF
theorem Mv.pg_of {M:List MPv} {k:Nat} {v:MPv} (h:M[k]? =some v):Mv.pg M (k:Int)=v:=by
 unfold Mv.pg;rw[i9,d6,h];rfl
theorem Mv.pg_mem {M:List MPv} {k:Nat} (h:k<M.length):M[k]? =some (Mv.pg M (k:Int)):=by
 rw[Mv.pg_of (d5 h)];exact d5 h
theorem Mv.inR_of {M:List MPv} {k:Nat} (h:k<M.length):Mv.inR M (k:Int)=true:=by
 unfold Mv.inR;rw[j3 (by omega),j3 (by omega)];rfl
def Mv.Calm (M:List MPv):Prop:=∀(k:Nat) (v:MPv),M[k]? =some v->v.op=false
theorem Mv.Calm.saw {M:List MPv} (h:Mv.Calm M) (i:Int) (d:List UInt8):Mv.saw M i d=M:=by
 unfold Mv.saw;split
 ·rename_i hm;have hr:Mv.inR M i=true:=by unfold Mv.may at hm;rw[f8]at hm;exact hm.1
  unfold Mv.inR at hr;simp only[f8,d7]at hr;obtain⟨k,rfl⟩:∃k:Nat,i=(k:Int):=⟨i.toNat,by omega⟩;have hk:k<M.length:=by omega
  have hv:=Mv.pg_mem hk;have ho:=h k _ hv;have hs:Mv.seen (Mv.pg M (k:Int)) d=Mv.pg M (k:Int):=by unfold Mv.seen;rw[ho,d8 j6]
  rw[hs,i9];apply s8;intro j
  by_cases e:k=j
  ·subst e;rw[a0M hk,hv]
  ·rw[a1z e]
 ·rfl
theorem Mv.Calm.may {M:List MPv} (h:Mv.Calm M) {k:Nat} (hk:k<M.length) {d:List UInt8} (hd:(Mv.pg M (k:Int)).now=d):Mv.may M (k:Int) d=true:=by
 unfold Mv.may;rw[Mv.inR_of hk,h k _ (Mv.pg_mem hk),d8 j6,hd];simp
theorem Mv.Calm.write {M:List MPv} (h:Mv.Calm M) {k:Nat} (hk:k<M.length) (d:List UInt8):Mv.Calm (Mv.write M (k:Int) d)/\∀j:Nat,j<M.length->(Mv.pg (Mv.write M (k:Int) d) (j:Int)).now=if j=k then d else(Mv.pg M (j:Int)).now:=by
 unfold Mv.write;rw[Mv.inR_of hk,f0 rfl,i9];refine⟨λj v hv=>?_,λj hj=>?_⟩
 ·by_cases e:k=j
  ·subst e;rw[a0M hk]at hv;injection hv with hv;rw[<- hv];rfl
  ·rw[a1z e]at hv;exact h j v hv
 ·by_cases e:k=j
  ·subst e;rw[f0 rfl,Mv.pg_of (a0M hk)];rfl
  ·rw[d8 (λx=>e x.symm),Mv.pg_of (v:=Mv.pg M (j:Int)) (by rw[a1z e];exact Mv.pg_mem hj)]
theorem Mv.Calm.flush {M:List MPv} (h:Mv.Calm M):Mv.Calm (Mv.flush M)/\∀j:Nat,j<M.length->(Mv.pg (Mv.flush M) (j:Int)).now=(Mv.pg M (j:Int)).now:=by
 unfold Mv.flush;refine⟨λj v hv=>?_,λj hj=>?_⟩
 ·rw[i7]at hv;cases hx:M[j]? with
  | none=>rw[hx]at hv;cases hv
  | some x=>
   rw[hx]at hv;have hv:(if x.op then x else {x with may:=[x.now]})=v:=by injection hv
   have:=h j x hx;rw[<- hv,d8 (λe=>by rw[this]at e;cases e)];exact this
 ·have hx:=Mv.pg_mem hj;have ho:=h j _ hx;rw[Mv.pg_of (v:={Mv.pg M (j:Int)with may:=[(Mv.pg M (j:Int)).now]})];rw[i7,hx];exact congrArg some (d8 (λe=>by rw[ho]at e;cases e))
theorem Mv.Calm.new (n:Int):Mv.Calm (Mv.new n):=λk v hv=>by
 have:=List.eq_of_mem_replicate (o0 hv);rw[this];rfl
theorem Mv.new_now (n:Nat) (hn:n<=65536) (k:Nat):(Mv.pg (Mv.new n) (k:Int)).now=zeros16:=by
 unfold Mv.pg Mv.new;rw[i9,d6,E6];split<;>rfl
namespace Wa
variable {W : Wa} {s : Stp}
def step1 (W:Wa) (s:Stp):Wa:=
 if skip s then W
 else
  let r:=W.P.step s
  let off:=r.1.nd.off
  let h:=W.hold s r.2
  let W2:Wa:={W with P:=r.1,M:=h.1,wrong:=W.wrong||h.2,full:=W.full||(decide (r.2.err=11)&&decide (s.fn≠7))}
  if s.fn=7 then
   let st:=decide (r.2.err=11)&& !off&&decide (W2.lates>1)
   let W3:Wa:={W2 with M:=Mv.cut W2.M,stuck:=st,wrong:=W2.wrong||(decide (r.2.err≠0)&& !off&& !st)}
   if r.2.err=0 then {W3 with since:=r.1.nd.ops,late:=0}else W3
  else {W2 with wrong:=W2.wrong||(W.on&& !off&&(decide (r.2.err=9)||decide (r.2.err=12)))}
def noted (W:Wa) (s:Stp):Wa:=if s.fn=8 then {W with late:=W.late+1}else W
theorem ask_fn (W:Wa) (s:Stp):(W.ask s).fn=s.fn:=by unfold ask;split<;>rfl
theorem ask_skip (W:Wa) (s:Stp):skip (W.ask s)=skip s:=by unfold ask skip;split<;>rfl
theorem step_eq (hst:W.stuck=false):W.step s=(W.noted s).step1 (W.ask s):=by
 by_cases h8:s.fn=8
 ·have hn:W.noted s={W with late:=W.late+1}:=by unfold noted;rw[f0 h8]
  have h3:∀t,W.hold (W.ask s) t=W.hold s t:=λt=>by
   unfold hold;rw[ask_fn,h8];rfl
  have h4:({W with late:=W.late+1}:Wa).hold (W.ask s)=W.hold s:=funext h3;rw[hn];unfold step1;rw[ask_skip,ask_fn,h4];unfold step;rw[d8 (show¬W.stuck=true by rw[hst];decide),f0 h8];dsimp only;rw[d8 (show¬s.fn=7 by omega),d8 (show¬s.fn=7 by omega)];rfl
 ·have hn:W.noted s=W:=by unfold noted;rw[d8 h8]
  have ha:W.ask s=s:=by unfold ask;rw[d8 h8]
  rw[hn,ha];unfold step;rw[d8 (show¬W.stuck=true by rw[hst];decide),d8 h8,ha];rfl
theorem step_skip (h:skip s=true):W.step1 s=W:=by
 unfold step1;rw[f0 h]
theorem step_mount (hst:W.stuck=false) (h7:s.fn=7) (h:skip s=false) (he:(W.P.step s).2.err=0):W.step1 s={W with P:=(W.P.step s).1,M:=Mv.cut W.M,stuck:=false,since:=(W.P.step s).1.nd.ops,late:=0}:=by
 unfold step1;simp only[h,h7,he];unfold hold;simp[h7,he]
theorem step_else (hst:W.stuck=false) (h7:s.fn≠7) (h:skip s=false) (hon:W.on=true) (hoff:(W.P.step s).1.nd.off=false):W.step1 s={W with P:=(W.P.step s).1,M:=(W.hold s (W.P.step s).2).1,wrong:=(W.wrong||(W.hold s (W.P.step s).2).2)||(decide ((W.P.step s).2.err=9)||decide ((W.P.step s).2.err=12)),full:=W.full||decide ((W.P.step s).2.err=11)}:=by
 unfold step1;simp[h,h7,hon,hoff]
variable {t : Td}
theorem hold1_0 (h1:s.fn=1) (he:t.err=0):W.hold s t=(Mv.saw W.M s.lpn t.data,!Mv.may W.M s.lpn t.data):=by unfold hold;simp[h1,he]
theorem hold1_e (h1:s.fn=1) (he:t.err≠0):W.hold s t=(W.M,(decide (t.err=10)||decide (t.err=11))||(decide (t.err=3)&&decide (s.lpn>=0)&&decide (s.lpn<(W.M.length:Int)))):=by unfold hold;simp[h1,he]
theorem hold2_0 (h2:s.fn=2) (he:t.err=0):W.hold s t=(Mv.write W.M s.lpn s.data,!Mv.inR W.M s.lpn):=by unfold hold;simp[h2,he]
theorem hold3_0 (h3:s.fn=3) (he:t.err=0):W.hold s t=(Mv.write W.M s.lpn zd,!Mv.inR W.M s.lpn):=by unfold hold;simp[h3,he]
theorem hold2_e (h1:s.fn=2\/s.fn=3) (he:t.err≠0):W.hold s t=(W.M,false):=by
 unfold hold;rcases h1 with h | h<;>simp[h,he]
theorem hold4_0 (h4:s.fn=4) (he:t.err=0):W.hold s t=(Mv.flush W.M,false):=by unfold hold;simp[h4,he]
theorem hold4_e (h4:s.fn=4) (he:t.err≠0):W.hold s t=(W.M,false):=by unfold hold;simp[h4,he]
theorem hold_x (h1:s.fn≠1) (h2:s.fn≠2) (h3:s.fn≠3) (h4:s.fn≠4):W.hold s t=(W.M,false):=by unfold hold;simp[h1,h2,h3,h4]
end Wa
theorem DevF.faults {d D B P n:Nat} {c:Nat->List UInt8}:∀(l:List Fl) {F:Fv} {m:Nat},DevF d D B P F n m c->(∀f∈l,f.x=(d:Int))->DevF d D B P (F.setN (a0A F.S.N l)) n (m+l.length) c
 | [],_,_,h,_=>h
 | f::l,F,m,h,hl=>by
  have h1:=h.faulted f.kind f.y f.z f.n f.xx;rw[<- hl f (D2 ..)]at h1;have h2:=DevF.faults (d:=d) l (by rw[hl f (D2 ..)]at h1;exact h1) (λg hg=>hl g (E5 _ hg));rw[m7,show m+(l.length+1)=m+1+l.length from by omega];have e:F.setN (a0A F.S.N (f::l))=({F with S:={F.S with N:=(F.S.N.fault f.kind (d:Int) f.y f.z f.n f.xx).2}}:Fv).setN (a0A (F.S.N.fault f.kind (d:Int) f.y f.z f.n f.xx).2 l):=by
   rw[<- hl f (D2 ..)];rfl
  rw[e];exact h2
theorem DevF.c_len {fd:Int} {D B P n m:Nat} {F:Fv} {c:Nat->List UInt8} (h:DevF fd D B P F n m c) {i:Nat} (hi:i<lgN D B P):(c i).length=16:=by
 obtain⟨W,hW,hc⟩:=h.fi;rw[<- hc i hi];exact b0R hW.wok h.ok.dat i
structure WtF (D B P:Nat) (W:Wa) (Z:Fv) (n m b:Nat):Prop where
 z:W.P.Z=some Z
 die:∃d:Nat,W.die=(d:Int)/\d<D
 dev:∃c,DevF W.die D B P Z n m c/\∀i:Nat,i<lgN D B P->(Mv.pg W.M (i:Int)).now=c i
 calm:Mv.Calm W.M
 pl:∀f∈W.P.L,f.x=W.die
 few:m+W.P.L.length<=b+15
 stuck:W.stuck=false
 wrong:W.wrong=false
 len:W.M.length=lgN D B P
 fine:Mv.Fine W.M b
 log:W.P.log.length<=b
 late:0<=W.late/\W.late<=b
 b1:1<=b
namespace WtF
variable {D B P n m b : Nat} {W : Wa} {Z : Fv}
theorem less (h:WtF D B P W Z n m b) {k c:Nat} (hk:k<=n) (hb:b<=c):WtF D B P W Z k m c:=by
 obtain⟨d,hD,hM⟩:=h.dev;exact⟨h.z,h.die,⟨d,hD.less hk,hM⟩,h.calm,h.pl,by have:=h.few;omega,h.stuck,h.wrong,h.len,h.fine.more hb,C6 h.log hb,by have:=h.late;omega,C6 h.b1 hb⟩
theorem does (h:WtF D B P W Z (n+605) m b) {s:Stp} (h6:s.fn≠6) (h7:s.fn≠7) (h8:s.fn=8->s.f.x=W.die) (hd:s.data.length=16):
  ∃Z' t m' c,W.P.run.does s=({W.P with Z:=some Z',L:=a0G Z.S.N.ops W.P.L},t)/\DevF W.die D B P Z' n m' c/\m'+(a0G Z.S.N.ops W.P.L).length<=m+W.P.L.length+1/\t.data.length=16/\t.err≠9/\t.err≠12/\(W.hold s t).2=false/\Mv.Calm (W.hold s t).1/\∀i:Nat,i<lgN D B P->(Mv.pg (W.hold s t).1 (i:Int)).now=c i:=by
 obtain⟨c,hD,hM⟩:=h.dev;obtain⟨d,hd0,hdl⟩:=h.die;have hnd:W.P.nd=Z.S.N:=by unfold Pv.nd;rw[h.z]
 have hrun:W.P.run={W.P with Z:=some (Z.setN (a0A Z.S.N (Q8 Z.S.N.ops W.P.L))),L:=a0G Z.S.N.ops W.P.L}:=by
  unfold Pv.run Pv.setN;rw[h.z,hnd]
 have hlen:(Q8 Z.S.N.ops W.P.L).length+(a0G Z.S.N.ops W.P.L).length=W.P.L.length:=by
  unfold Q8 a0G;rw[<- f9,List.takeWhile_append_dropWhile]
 have hdm:∀f∈Q8 Z.S.N.ops W.P.L,f.x=(d:Int):=λf hf=>by
  rw[<- hd0];exact h.pl f ((List.takeWhile_sublist _).subset hf)
 have hD1:DevF W.die D B P (Z.setN (a0A Z.S.N (Q8 Z.S.N.ops W.P.L))) (n+605) (m+(Q8 Z.S.N.ops W.P.L).length) c:=by
  rw[hd0]at hD ⊢;exact hD.faults _ hdm
 generalize hZ1:Z.setN (a0A Z.S.N (Q8 Z.S.N.ops W.P.L))=Z1 at hrun hD1;generalize hm1:m+(Q8 Z.S.N.ops W.P.L).length=m1 at hD1;have hb2:m1+(a0G Z.S.N.ops W.P.L).length=m+W.P.L.length:=by omega
 rw[hrun];unfold Pv.does;have hMl:=h.len
 by_cases h1:s.fn=1
 ·rw[f0 h1];dsimp only;have hr:=hD1.read s.lpn
  by_cases hi:s.lpn<0\/s.lpn>=(lgN D B P:Int)
  ·rw[f0 hi]at hr;rw[hr];refine⟨Z1,_,m1,c,rfl,hD1.less (by omega),by omega,rfl,(show(3:Int)≠9 by decide),(show(3:Int)≠12 by decide),?_,?_,?_⟩
   ·rw[Wa.hold1_e h1 (show(3:Int)≠0 by decide)];have:¬(s.lpn>=0/\s.lpn<(W.M.length:Int)):=by omega
    dsimp only;simp only[H0,a1a,c9];omega
   ·rw[Wa.hold1_e h1 (show(3:Int)≠0 by decide)];exact h.calm
   ·rw[Wa.hold1_e h1 (show(3:Int)≠0 by decide)];exact hM
  ·rw[d8 hi]at hr;rw[hr];obtain⟨k,hk⟩:∃k:Nat,s.lpn=(k:Int):=⟨s.lpn.toNat,by omega⟩;have hkl:k<lgN D B P:=by omega
   have hh:=Wa.hold1_0 (W:=W) (t:=⟨0,c s.lpn.toNat⟩) h1 rfl;rw[h.calm.saw,hk,i9,h.calm.may (by omega) (hM k hkl)]at hh;rw[hk,i9];refine⟨Z1,_,m1,c,rfl,hD1.less (by omega),by omega,hD1.c_len hkl,(show(0:Int)≠9 by decide),(show(0:Int)≠12 by decide),?_,?_,?_⟩
   ·rw[hh];rfl
   ·rw[hh];exact h.calm
   ·rw[hh];exact hM
 rw[d8 h1]
 by_cases h2:s.fn=2
 ·rw[f0 h2];obtain⟨er,c',w1,w2,w3⟩:=(hD1.less (k:=n+1) (by omega)).write s.lpn hd;dsimp only;rw[w1];rcases w3 with⟨rfl,q,rfl⟩ | ⟨q,rfl⟩
  ·obtain⟨k,hk⟩:∃k:Nat,s.lpn=(k:Int):=⟨s.lpn.toNat,by omega⟩;have hkl:k<lgN D B P:=by omega
   have hh:=Wa.hold2_0 (W:=W) (t:=⟨0,zd⟩) h2 rfl;rw[hk,Mv.inR_of (by omega)]at hh;obtain⟨g1,g2⟩:=h.calm.write (k:=k) (by omega) s.data;refine⟨_,_,m1,_,rfl,w2,by omega,rfl,(show(0:Int)≠9 by decide),(show(0:Int)≠12 by decide),?_,?_,λi hi=>?_⟩
   ·rw[hh];rfl
   ·rw[hh];exact g1
   ·rw[hh,g2 i (by omega),hM i hi,hk,i9]
  ·have e0:er≠0/\er≠9/\er≠12:=by omega
   have hh:=Wa.hold2_e (W:=W) (s:=s) (t:=⟨er,zd⟩) (.inl h2) e0.1;exact⟨_,_,m1,_,rfl,w2,by omega,rfl,e0.2.1,e0.2.2,by rw[hh],by rw[hh];exact h.calm,by rw[hh];exact hM⟩
 rw[d8 h2]
 by_cases h3:s.fn=3
 ·rw[f0 h3];obtain⟨er,c',w1,w2,w3⟩:=(hD1.less (k:=n+1) (by omega)).trim s.lpn;dsimp only;rw[w1];rcases w3 with⟨rfl,q,rfl⟩ | ⟨q,rfl⟩
  ·obtain⟨k,hk⟩:∃k:Nat,s.lpn=(k:Int):=⟨s.lpn.toNat,by omega⟩;have hkl:k<lgN D B P:=by omega
   have hh:=Wa.hold3_0 (W:=W) (t:=⟨0,zd⟩) h3 rfl;rw[hk,Mv.inR_of (by omega)]at hh;obtain⟨g1,g2⟩:=h.calm.write (k:=k) (by omega) zd;refine⟨_,_,m1,_,rfl,w2,by omega,rfl,(show(0:Int)≠9 by decide),(show(0:Int)≠12 by decide),?_,?_,λi hi=>?_⟩
   ·rw[hh];rfl
   ·rw[hh];exact g1
   ·rw[hh,g2 i (by omega),hM i hi,hk,i9];rfl
  ·have e0:er≠0/\er≠9/\er≠12:=by omega
   have hh:=Wa.hold2_e (W:=W) (s:=s) (t:=⟨er,zd⟩) (.inr h3) e0.1;exact⟨_,_,m1,_,rfl,w2,by omega,rfl,e0.2.1,e0.2.2,by rw[hh],by rw[hh];exact h.calm,by rw[hh];exact hM⟩
 rw[d8 h3]
 by_cases h4:s.fn=4
 ·rw[f0 h4];obtain⟨er,w1,w2,w3⟩:=(hD1.less (k:=n+200) (by omega)).flush;dsimp only;rw[w1]
  by_cases e0:er=0
  ·subst e0;have hh:=Wa.hold4_0 (W:=W) (s:=s) (t:=⟨0,zd⟩) h4 rfl;obtain⟨g1,g2⟩:=h.calm.flush;exact⟨_,_,m1,c,rfl,w2,by omega,rfl,(show(0:Int)≠9 by decide),(show(0:Int)≠12 by decide),by rw[hh],by rw[hh];exact g1,λi hi=>by rw[hh,g2 i (by omega),hM i hi]⟩
  ·have hh:=Wa.hold4_e (W:=W) (s:=s) (t:=⟨er,zd⟩) h4 e0;exact⟨_,_,m1,c,rfl,w2,by omega,rfl,by show er≠9;omega,by show er≠12;omega,by rw[hh],by rw[hh];exact h.calm,by rw[hh];exact hM⟩
 rw[d8 h4];have hx:=λt=>Wa.hold_x (W:=W) (s:=s) (t:=t) h1 h2 h3 h4
 by_cases h5:s.fn=5
 ·rw[f0 h5];obtain⟨er,w1,w2,w3⟩:=(hD1.less (k:=n+2) (by omega)).tick;dsimp only;rw[w1];exact⟨_,_,m1,c,rfl,w2,by omega,rfl,by show er≠9;omega,by show er≠12;omega,by rw[hx],by rw[hx];exact h.calm,by rw[hx];exact hM⟩
 rw[d8 h5,d8 h6,d8 h7]
 by_cases h8':s.fn=8
 ·rw[f0 h8'];have hf:=(hD1.less (k:=n) (by omega));rw[hd0]at hf;have hf2:=hf.faulted s.f.kind s.f.y s.f.z s.f.n s.f.xx;rw[<- hd0,<- h8 h8']at hf2;refine⟨_,_,m1+1,c,rfl,by rw[<- h8 h8'];exact hf2,by omega,by split<;>rfl,by split<;>decide,by split<;>decide,by rw[hx],by rw[hx];exact h.calm,by rw[hx];exact hM⟩
 rw[d8 h8'];exact⟨Z1,_,m1,c,rfl,hD1.less (by omega),by omega,rfl,(show(1:Int)≠9 by decide),(show(1:Int)≠12 by decide),by rw[hx],by rw[hx];exact h.calm,by rw[hx];exact hM⟩
theorem ask_f (h:W.stuck=false) {s:Stp} (h8:s.fn=8):(W.ask s).f.x=W.die:=by unfold Wa.ask;rw[f0 h8]
theorem pre (h:WtF D B P W Z (n+605) m b) {s:Stp} (h6:s.fn≠6) (h7:s.fn≠7) (hd:s.data.length=16):∃Z2,(W.P.step (W.ask s)).1.Z=some Z2/\Z2.S.N.off=false/\(W.P.step (W.ask s)).2.data.length=16:=by
 obtain⟨Z',t,m',c,e1,e2,_,e3,_⟩:=h.does (s:=W.ask s) (by rw[Wa.ask_fn];exact h6) (by rw[Wa.ask_fn];exact h7) (λh8=>ask_f h.stuck (by rw[Wa.ask_fn]at h8;exact h8)) (by unfold Wa.ask;split<;>exact hd);have hst:W.P.step (W.ask s)=({W.P with Z:=some Z',L:=a0G Z.S.N.ops W.P.L,log:=W.P.log++[t]},t):=by
  unfold Pv.step;rw[e1]
 rw[hst];exact⟨Z',rfl,e2.off,e3⟩
theorem step (h:WtF D B P W Z (n+605) m b) {s:Stp} (h6:s.fn≠6) (h7:s.fn≠7) (hd:s.data.length=16):∃Z' m',WtF D B P (W.step s) Z' n m' (b+1):=by
 have hf1:(W.ask s).fn=s.fn:=Wa.ask_fn W s;obtain⟨Z',t,m',c,e1,e2,e2',e3,e4,e5,e6,e7,e8⟩:=h.does (s:=W.ask s) (by rw[hf1];exact h6) (by rw[hf1];exact h7) (λh8=>ask_f h.stuck (by rw[hf1]at h8;exact h8)) (by unfold Wa.ask;split<;>exact hd);have hst:W.P.step (W.ask s)=({W.P with Z:=some Z',L:=a0G Z.S.N.ops W.P.L,log:=W.P.log++[t]},t):=by
  unfold Pv.step;rw[e1]
 have hb1:=h.b1;have hfew:=h.few;have hlate:=h.late;have hlog:(W.P.log++[t]).length<=b+1:=by rw[f9,K7];have:=h.log;omega
 have hnl:0<=(W.noted s).late/\(W.noted s).late<=(b+1:Nat):=by unfold Wa.noted;split<;>(try dsimp only)<;>omega
 have hnP:(W.noted s).P=W.P:=by unfold Wa.noted;split<;>rfl
 have hnM:(W.noted s).M=W.M:=by unfold Wa.noted;split<;>rfl
 have hnd:(W.noted s).die=W.die:=by unfold Wa.noted;split<;>rfl
 have hnw:(W.noted s).wrong=false:=by unfold Wa.noted;split<;>exact h.wrong
 have hns:(W.noted s).stuck=false:=by unfold Wa.noted;split<;>exact h.stuck
 have hnh:∀t,(W.noted s).hold (W.ask s) t=W.hold (W.ask s) t:=λt=>by unfold Wa.noted;split<;>rfl
 have hpl:∀f∈a0G Z.S.N.ops W.P.L,f.x=W.die:=λf hf=>h.pl f ((List.dropWhile_sublist _).subset hf);rw[Wa.step_eq h.stuck];generalize W.noted s=V at*;unfold Wa.step1
 by_cases hsk:Wa.skip (W.ask s)=true
 ·rw[f0 hsk];obtain⟨c0,hD,hM⟩:=h.dev;exact⟨Z,m,⟨by rw[hnP];exact h.z,by rw[hnd];exact h.die,⟨c0,by rw[hnd];exact hD.less (by omega),by rw[hnM];exact hM⟩,by rw[hnM];exact h.calm,by rw[hnP,hnd];exact h.pl,by rw[hnP];omega,hns,hnw,by rw[hnM];exact h.len,by rw[hnM];exact h.fine.more (by omega),by rw[hnP];have:=h.log;omega,hnl,by omega⟩⟩
 rw[d8 hsk,hnP,hst];dsimp only;have hM:=(Wa.hold_len W (W.ask s) t).trans h.len;have hF:=Wa.hold_fine (s:=W.ask s) h.fine hb1 (by unfold Wa.ask;split<;>exact hd) e3;rw[hf1,d8 h7,hnh,e6,hnw];refine⟨Z',m',⟨rfl,by dsimp only;rw[hnd];exact h.die,⟨c,by dsimp only;rw[hnd];exact e2,e8⟩,e7,by dsimp only;rw[hnd];exact hpl,by dsimp only;omega,hns,?_,hM,hF,hlog,hnl,by omega⟩⟩;dsimp only;rw[y6 e4,y6 e5];simp
theorem new (die:Int) (fs:List Fl) (hD:3<=D/\D<=6) (hB:8<=B/\B<=16) (hP:2<=P/\P<=8) (hlg:1<=lgN D B P/\lgN D B P<=200/\2*lgN D B P<=(B-5)*(P*(D-2))+1) (hgm:J2 D B P=true):WtF D B P (Wa.new D B P die fs) (Fv.of (Dv.new D B P (lgN D B P))) 54500 0 1:=by
 have hz:(Wa.new D B P die fs).P.Z=some (Fv.of (Dv.new D B P (lgN D B P))):=by
  show(if(Q6 (Nand.new D B P)).2=0 then some (Fv.of (Q6 (Nand.new D B P)).1)else Option.none)=_;rw[a9s (Dv.Ok.new D B P (lgN D B P) hgm 0 (by decide))];rfl
 have hL:(Wa.new D B P die fs).P.L=U6 a2E (plF D B P (Wa.fl D die fs)):=rfl;have hfx:∀f∈Wa.fl D die fs,f.x=Wa.dieI die D:=λf hf=>by
  obtain⟨g,_,rfl⟩:=List.mem_map.1 hf;rfl
 have hpm:List.Perm (U6 a2E (plF D B P (Wa.fl D die fs))) (plF D B P (Wa.fl D die fs)):=a3P _ _;have hd:0<=Wa.dieI die D/\Wa.dieI die D<D:=by
  unfold Wa.dieI;have:=a7j die D (by omega);have:=b4u die D (by omega);omega
 refine⟨hz,⟨(Wa.dieI die D).toNat,?_,by omega⟩,⟨_,DevF.new _ hD hB hP hlg.2.1 hgm,λi hi=>Mv.new_now _ (by omega) i⟩,Mv.Calm.new _,λf hf=>?_,?_,rfl,rfl,?_,λv hv=>?_,j8 _,⟨H4 _,by show(0:Int)<=((1:Nat):Int);decide⟩,j4 _⟩
 ·show Wa.dieI die D=_;omega
 ·rw[hL]at hf;exact hfx f (List.mem_filter.1 (hpm.mem_iff.1 hf)).1
 ·rw[hL,hpm.length_eq];have:=b2F D B P (Wa.fl D die fs);have:(Wa.fl D die fs).length<=15:=by unfold Wa.fl;rw[j7,l9];omega
  omega
 ·show(Mv.new (lgN D B P)).length=_;unfold Mv.new;rw[K8];omega
 ·obtain rfl:v=Mv.page0:=List.eq_of_mem_replicate hv;exact⟨rfl,by decide,by decide,by decide,by decide⟩
end WtF
end Go.Proofs.YtnffkcabeecopaaGreat
