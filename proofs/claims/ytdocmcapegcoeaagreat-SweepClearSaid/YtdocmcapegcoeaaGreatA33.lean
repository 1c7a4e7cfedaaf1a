/- Helpers, proved here. No condition. -/
import Derived.Test.YtdocmcapegcoeaaGreatA27
import Derived.Test.YtdocmcapegcoeaaGreatA28
set_option maxRecDepth 20000
set_option linter.all false
namespace Go.Proofs.YtdocmcapegcoeaaGreat
open Go
def wI (i:Nat):List (Int×En):=(List.range i).map λj:Nat=>((j:Int),e18 j ((j:Int)+1))
theorem wI_succ (i:Nat):wI (i+1)=wI i++[((i:Int),e18 i ((i:Int)+1))]:=by unfold wI;rw[List.range_succ,List.map_append];rfl
theorem put1_new {α:Type} {k:Int} {v:α}:∀{l:List (Int×α)},k∉l.map (·.1)->Tb.put1 l k v=l++[(k,v)]
 | [],_=>rfl
 | x::l,h=>by
  simp only[List.map_cons,List.mem_cons,not_or]at h;simp only[Tb.put1];rw[if_neg h.1,put1_new h.2];rfl
theorem wI_put (i:Nat):Tb.put1 (wI i) (i:Int) (e18 i ((i:Int)+1))=wI (i+1):=by
 rw[wI_succ,put1_new];intro h;simp only[wI,List.map_map,List.mem_map,List.mem_range,Function.comp]at h;obtain⟨j,hj,e⟩:=h;omega
theorem wI_look (i:Nat):∀j:Nat,Tb.look (wI i) (j:Int)=if j<i then some (e18 j ((j:Int)+1))else none:=by
 induction i with
 | zero=>intro j;rfl
 | succ i ih=>
  intro j;rw[<- wI_put,Tb.look_put1,ih]
  by_cases h:j=i
  ·subst h;rw[if_pos rfl,if_pos (by omega)]
  ·rw[if_neg (by omega)]
   by_cases h2:j<i
   ·rw[if_pos h2,if_pos (by omega)]
   ·rw[if_neg h2,if_neg (by omega)]
theorem wI_look_neg (i:Nat) {x:Int} (h:x<0):Tb.look (wI i) x=none:=by
 rw[Tb.look_none];intro hm;simp only[wI,List.map_map,List.mem_map,List.mem_range,Function.comp]at hm;obtain⟨j,_,e⟩:=hm;omega
theorem wI_ok {i:Nat} (h:i<=500):WOk (wI i):=λx e he=>by
 by_cases hx:x<0
 ·rw[wI_look_neg i hx]at he;cases he
 ·obtain⟨j,rfl⟩:=Int.eq_ofNat_of_zero_le (show 0<=x by omega);rw[wI_look]at he;split at he
  ·injection he with he;subst he;exact⟨rfl,e18_fit (by omega)⟩
  ·cases he
theorem wI_wput (i:Nat) {E:List En}:∀n,(∀j:Nat,j<n->E.getD j En.zero=e18 ((i:Int)+j) ((i:Int)+j+1))->wput (wI i) E n=wI (i+n)
 | 0,_=>rfl
 | n+1,h=>by
  rw[wput_succ,wI_wput i n λj hj=>h j (by omega),h n (by omega),<- Nat.add_assoc,<- wI_put];have:((i+n:Nat):Int)=(i:Int)+n:=by omega
  rw[this];rfl
theorem filter_range (c:Nat):∀n,c<=n->((List.range n).filter λi=>decide (i<c))=List.range c
  | 0, h => by obtain rfl : c = 0 := by omega
               rfl
  | n+1,h=>by
    rw[List.range_succ,List.filter_append]
    by_cases e:c=n+1
    · subst e;have:((List.range n).filter λi=>decide (i<n+1))=List.range n:=List.filter_eq_self.2 λx hx=>by have:=List.mem_range.1 hx;exact decide_eq_true (by omega)
      rw[this,List.range_succ];simp
    · rw[filter_range c n (by omega)];simp;omega
structure SqC (D B P count i r:Nat) (S:Dv):Prop where
 sq:SeqI D B P r S
 ii:i=min count (r*(D-1))
 rr:r=0\/(r-1)*(D-1)<count
 next:S.next=(i:Int)+1
 hd:Hd S (wI i)
 look:∀j,j<i->Tb.look S.T.at_ (j:Int)=some ⟨0,((j/(D-1):Nat):Int),((j % (D-1):Nat):Int),L.all D,(j:Int)+1,1⟩
 rows:S.rows+r=P*B
 log:S.T.logical=500
namespace SqC
variable {D B P count i r k m : Nat} {S : Dv}
theorem step (h:SqC D B P count i r S) (hO:S.Ok (8*Dv.fuel+k) m) (hc:count<=P*(D-1)) (hi:i<count):
  ∃V,S.pen (eL i (count-i))=(V,((min (D-1) (count-i):Nat):Int),(0:Int))/\SqC D B P count (i+min (D-1) (count-i)) (r+1) V/\V.Ok k m:=by
 have hg:=hO.gd.ok.bd16;rw[h.sq.dies,h.sq.blocks,h.sq.pages]at hg;have hir:i=r*(D-1):=by have:=h.ii;omega
 have hPk:P*(D-1)<=8*5:=Nat.mul_le_mul hg.2.2.2 (by omega);have hrP:r<P:=by
  rcases Nat.lt_or_ge r P with e | e
  ·exact e
  ·have:P*(D-1)<=r*(D-1):=Nat.mul_le_mul_right _ e;omega
 have hel:=eL_len (i:Int) (count-i);have hf:=eL_fit (lpn:=(i:Int)) (j:=count-i) (by omega);have hnd:=eL_nodup (i:Int) (count-i);obtain⟨p1,p2,p3,p4,p5,p6,p7⟩:=h.sq.pen (l:=eL i (count-i)) hO (q:=0) (r:=r) (by omega) hrP (by omega) hf (by omega) (by rw[h.next];omega);obtain⟨a1,a2,a3,a4,a5⟩:=h.sq.at1 hO (q:=0) (r:=r) (by omega) hrP (by omega);have hat:=Dv.at1_like S;have hn:S.at1.fit (eL i (count-i))=min (D-1) (count-i):=by rw[p2,hel];omega
 have hlg:∀e∈eL (i:Int) (count-i),e.lpn<S.at1.T.logical:=λe he=>by
  rw[hat.2.1,h.log];simp only[eL,List.mem_map,List.mem_range]at he;obtain⟨z,hz,rfl⟩:=he;show(i:Int)+z<500;omega
 obtain⟨l1,l2⟩:=p6.look p5.inv p7 hf hlg hnd;have hH:=(h.hd.went h.sq.inv p5).wrote p5.inv p7 p6 hf hlg hnd;have hrw:=p6.rows p5.inv;have hrw2:=p5.rows;rw[hn]at p1 l1 l2 hH;have hget:∀j:Nat,j<min (D-1) (count-i)->(eL (i:Int) (count-i)).getD j En.zero=e18 ((i:Int)+j) ((i:Int)+j+1):=λj hj=>eL_get _ (by omega);rw[wI_wput i _ hget]at hH;have hlog2:(wroteP S.at1 (eL i (count-i))).T.logical=500:=by
  have:=(Dv.pen_keep hO λe he=>(hf e he).len).2.2;rw[p1]at this;exact this.trans h.log
 refine⟨_,p1,⟨p3,?_, .inr (by rw[Nat.add_sub_cancel];omega),?_,hH,λj hj=>?_,by have:=h.rows;omega,hlog2⟩,p4⟩
 ·rw[Nat.succ_mul];omega
 ·show S.at1.next+(S.at1.fit (eL i (count-i)):Int)=_;rw[hn,hat.2.2,h.next];omega
 ·by_cases hlt:j<i
  ·rw[l2 (j:Int) λj' hj'=>by
    rw[hget j' hj'];show(i:Int)+j'≠j;omega]
   rw[hat.2.1];exact h.look j hlt
  ·obtain⟨j',rfl⟩:∃j',j=i+j':=⟨j-i,by omega⟩;have hj':j'<min (D-1) (count-i):=by omega
   have:=l1 j' hj';rw[hget j' hj',a1,a2,a3,hat.2.2,h.next]at this;have e1:(i+j')/(D-1)=r:=by
    rw[hir,Nat.mul_comm,Nat.mul_add_div (by omega),Nat.div_eq_of_lt (by omega)];omega
   have e2:(i+j') % (D-1)=j':=by
    rw[hir,Nat.mul_comm,Nat.mul_add_mod,Nat.mod_eq_of_lt (by omega)]
   rw[e1,e2];have e3:(i:Int)+1+j'=((i+j':Nat):Int)+1:=by omega
   have e4:(e18 ((i:Int)+j') ((i:Int)+j'+1)).lpn=((i+j':Nat):Int):=by show(i:Int)+j'=_;omega
   rw[e3,e4]at this;exact this
theorem carry (h:SqC D B P count count r S) (hO:S.Ok (Dv.cost*count+k) m) (hc:1<=count/\count<=P*(D-1)) (most:Int):
  ∃V,S.carry 0 most=(V,((min (max most 0).toNat count:Nat):Int),(0:Int))/\Hd V (wI count)/\V.Ok k m/\Inv (-1) V/\r=(count+(D-1)-1)/(D-1)/\
   (∀j,j<count->min (max most 0).toNat count<=j->Tb.look V.T.at_ (j:Int)=some ⟨0,((j/(D-1):Nat):Int),((j % (D-1):Nat):Int),L.all D,(j:Int)+1,1⟩)/\
   ∀j,j<min (max most 0).toNat count->∃a,Tb.look V.T.at_ (j:Int)=some a/\(a.block≠0\/(r:Int)<=a.row)/\j/(D-1)<r:=by
 have hg:=hO.gd.ok.bd16;rw[h.sq.dies,h.sq.blocks,h.sq.pages]at hg;have hPk:P*(D-1)<=8*5:=Nat.mul_le_mul hg.2.2.2 (by omega);have hr1:1<=r:=by
  rcases Nat.eq_zero_or_pos r with e | e
  ·have:=h.ii;rw[e]at this;omega
  ·exact e
 have hcr:count<=r*(D-1):=by have:=h.ii;omega
 have hrr:(r-1)*(D-1)<count:=by
  rcases h.rr with e | e
  ·omega
  ·exact e
 have hrm:r*(D-1)=(r-1)*(D-1)+(D-1):=by
  obtain⟨z,rfl⟩:∃z,r=z+1:=⟨r-1,by omega⟩;rw[Nat.succ_mul];rfl
 have hrP:r<=P:=by
  rcases Nat.lt_or_ge P r with e | e
  ·have:P*(D-1)<=(r-1)*(D-1):=Nat.mul_le_mul_right _ (by omega);omega
  ·exact e
 have hrdiv:r=(count+(D-1)-1)/(D-1):=by
  have h1:count+(D-1)-1=r*(D-1)+(count+(D-1)-1-r*(D-1)):=by omega
  rw[h1,Nat.mul_comm,Nat.mul_add_div (by omega),Nat.div_eq_of_lt (by rw[Nat.mul_comm];omega)];omega
 have hnone:∀j:Nat,count<=j->Tb.look S.T.at_ (j:Int)=none:=λj hj=>h.hd.none (by rw[wI_look,if_neg (by omega)]);have hinB:∀x:Nat,Tb.inB S.T 0 (x:Int)=decide (x<count):=λx=>by
  unfold Tb.inB
  by_cases hx:x<count
  ·rw[h.look x hx,decide_eq_true hx];rfl
  ·rw[hnone x (by omega),decide_eq_false hx]
 have hins:S.T.ins 0=(List.range count).map λi:Nat=>(i:Int):=by
  unfold Tb.ins;rw[if_neg,h.log]
  ·unfold Tb.inK;have e5:(500:Int).toNat=500:=by decide
   rw[e5];have e6:((List.range 500).filter λi:Nat=>Tb.inB S.T 0 (i:Int))=List.range count:=by
    rw[<- filter_range count 500 (by omega)];exact List.filter_congr λx _=>hinB x
   rw[e6]
  ·rw[hO.T.cnt];intro e;have h0:=h.look 0 (by omega);have hm:=Tb.look_mem h0;have:0<S.T.at_.countP λx=>x.2.block==0:=List.countP_pos_iff.2 ⟨_,hm,rfl⟩;unfold Tb.cntB at e;omega
 obtain⟨c,hce⟩:∃c,(max most 0).toNat=c:=⟨_,rfl⟩;obtain⟨I,hI⟩:∃I,((List.range count).map λi:Nat=>(i:Int)).take c=I:=⟨_,rfl⟩;have hIl:I.length=min c count:=by rw[<- hI];simp
 have hIe:I=(List.range (min c count)).map λi:Nat=>(i:Int):=by rw[<- hI,<- List.map_take,List.take_range]
 have hmem:∀j:Nat,(j:Int)∈I↔j<min c count:=λj=>by
  rw[hIe,List.mem_map];constructor
  ·rintro⟨x,hx,e⟩;have:=List.mem_range.1 hx;omega
  ·intro hj;exact⟨j,List.mem_range.2 hj,rfl⟩
 have hIn:∀x∈I,∃j:Nat,x=(j:Int)/\j<count:=λx hx=>by
  rw[hIe,List.mem_map]at hx;obtain⟨j,hj,rfl⟩:=hx;have:=List.mem_range.1 hj;exact⟨j,rfl,by omega⟩
 have hPD:P*(D-1)<=(D-2)*(2*P):=by
  have:D-1<=2*(D-2):=by omega
  have h1:=Nat.mul_le_mul_left P this;rw[show P*(2*(D-2))=(D-2)*(2*P)from by rw[Nat.mul_comm P,Nat.mul_comm 2,Nat.mul_assoc]]at h1;exact h1
 have hrows:2*P<=S.rows:=by
  have h1:=h.rows;have h2:P*8<=P*B:=Nat.mul_le_mul_left _ hg.2.1.1;omega
 have hcost:Dv.cost*I.length<=Dv.cost*count:=Nat.mul_le_mul_left _ (by omega);obtain⟨V,β',v1,v2,v3,v4,v5,v6,v7⟩:=h.sq.inv.carry_go I.length S I 0 (wI count) 0 (2*P) k (hO.less (by omega)) (Nat.le_refl _) h.hd (wI_ok (by omega)) (λx hx=>by
  obtain⟨j,rfl,hj⟩:=hIn x hx;rw[wI_look,if_pos hj];rfl) (by
  rw[hIe];exact nodup_map_range _ _ λa b _ _ e=>by omega) (.calm h.sq.no) (by rw[h.sq.dies];omega) (by omega) (by rw[h.next];omega)
 have hcar:S.carry 0 most=(V,((min c count:Nat):Int),(0:Int)):=by
  unfold Dv.carry;rw[hins,hce];show Dv.carryGo (((List.range count).map λi:Nat=>(i:Int)).take c).length S (((List.range count).map λi:Nat=>(i:Int)).take c) 0=_;rw[hI,v1,hIl];simp
 rw[hce];refine⟨V,hcar,v3,v7,v2.inv,hrdiv,λj hj hjc=>?_,λj hj=>?_⟩
 ·rw[v2.rest _ λhm=>by have:=(hmem j).1 hm;omega];exact h.look j hj
 ·obtain⟨a,b1,b2,_⟩:=v2.pos _ ((hmem j).2 hj);refine⟨a,b1,?_,?_⟩
  ·rcases b2 with⟨x1,x2⟩ | ⟨x1,x2⟩
   ·right;rcases h.sq.op with⟨e,_⟩ | ⟨q0,r0,e1,e2,e3,e4⟩
    ·omega
    ·have:q0=0:=by
      rcases Nat.eq_zero_or_pos q0 with e | e
      ·exact e
      ·have:1*P<=q0*P:=Nat.mul_le_mul_right _ e;omega
     subst this;rw[e4]at x2;omega
   ·left;intro e;rw[e]at x2;have:=(h.sq.sb 0 (by omega)).2.2;rw[show(((0:Nat):Int))=0 from rfl,x2,eq_comm,decide_eq_false_iff_not]at this;omega
  ·have:j<r*(D-1):=by omega
   exact Nat.div_lt_of_lt_mul (by rw[Nat.mul_comm];exact this)
end SqC
end Go.Proofs.YtdocmcapegcoeaaGreat
