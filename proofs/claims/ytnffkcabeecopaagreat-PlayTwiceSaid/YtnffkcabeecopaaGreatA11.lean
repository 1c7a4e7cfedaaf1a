/- Helpers. No condition. -/
import Derived.Test.YtnffkcabeecopaaGreatA03
import Derived.Test.YtnffkcabeecopaaGreatA04
import Derived.Test.YtnffkcabeecopaaGreatA06
import Derived.Test.YtnffkcabeecopaaGreatA07
import Derived.Test.YtnffkcabeecopaaGreatA08
import Derived.Test.YtnffkcabeecopaaGreatA09
import Derived.Test.YtnffkcabeecopaaGreatA10
import Derived.WideKeyEntry
set_option maxRecDepth 20000
set_option linter.all false
namespace Go.Proofs.YtnffkcabeecopaaGreat
open Go Go.RowKit
theorem b2i {T:Tb} (h:∀x∈T.at_,0<=x.2.slot/\x.2.slot<=1000) (i:Int):0<=((Tb.look T.at_ i).getD AtV.zero).slot/\((Tb.look T.at_ i).getD AtV.zero).slot<=1000:=by
 cases hl:Tb.look T.at_ i with
 | none=>show(0:Int)<=0/\(0:Int)<=1000;omega
 | some a=>exact h _ (Tb.look_mem hl)
theorem b2b (n l:Nat) (S:Dv) (k mm:Nat) (hO:S.Ok k mm) (i:Int):FP 173 [pp n,pp l,iI i] [d8 n S.N,TbA l S.T]
  (Ps (.tuple #[enV (S.rd i).1,iI (S.rd i).2]) [d8 n S.N,TbA l S.T]):=by
 have hsl:=b2i hO.sl i;refine FE [2,3,0] Tryz.func173 λX F hX=>?_;refine J.qp (a0d l S.T i) [2] λ_=>?_;have hrd:S.rd i=(let a:=(Tb.look S.T.at_ i).getD AtV.zero;let x:=R.read S.N a.block a.row a.slot a.mask;if x.2=9 then(En.zero,9)else if x.2≠0\/x.1.lpn≠i\/x.1.seq≠a.seq then(⟨i,0,4,zeros16⟩,0)else(x.1,0)):=rfl;generalize(Tb.look S.T.at_ i).getD AtV.zero=a at hsl hrd ⊢;generalize(Tb.look S.T.at_ i).isSome=is;refine J.qp (a4c n S.N hO.gd.ok hO.gd.room a.block a.row a.slot a.mask (by omega) (by omega)) [1] λ_=>?_;dsimp only at hrd;generalize R.read S.N a.block a.row a.slot a.mask=r at hrd ⊢;obtain⟨e,x⟩:=r;dsimp only at hrd ⊢;refine J.qd (λ_ h1=>?_) λ_ h1=>?_
 ·simp only[beq_iff_eq]at h1;rw[if_pos h1]at hrd;refine J.qr [1,2] λ_=>?_;rw[hrd,h1];exact⟨rfl,rfl⟩
 simp only[beq_eq_false_iff_ne,ne_eq]at h1;rw[if_neg h1]at hrd;refine J.qn 4 λ_=>?_;cases hx:(x !=0)with
 | true=>
  have hx':x≠0:=by simpa using hx
  rw[if_pos (.inl hx')]at hrd;refine J.qT λ_=>?_;refine J.qr [1,2] λ_=>?_;rw[hrd];exact⟨rfl,rfl⟩
 | false=>
  have hx':x=0:=by simpa using hx
  refine J.qn 5 λ_=>?_;cases hy:(e.lpn !=i)with
  | true=>
   have hy':e.lpn≠i:=by simpa using hy
   rw[if_pos (.inr (.inl hy'))]at hrd;refine J.qT λ_=>?_;refine J.qr [1,2] λ_=>?_;rw[hrd];exact⟨rfl,rfl⟩
  | false=>
   have hy':e.lpn=i:=by simpa using hy
   refine J.qd (λ_ h2=>?_) λ_ h2=>?_
   ·have hz:e.seq≠a.seq:=by simpa using h2
    rw[if_pos (.inr (.inr hz))]at hrd;refine J.qr [1,2] λ_=>?_;rw[hrd];exact⟨rfl,rfl⟩
   ·have hz:e.seq=a.seq:=by simpa using h2
    rw[if_neg (by rw[hx',hy',hz];simp)]at hrd;refine J.qr [1,2] λ_=>?_;rw[hrd];exact⟨rfl,rfl⟩
theorem a0Z (a:Option Nat) (n c:Nat):slv a n c= .slice (oad a) n c:=by cases a<;>rfl
theorem a9I (S:Dv) {C:List Int} {E:List En} {i:Nat} {x:Int} (h:S.rds C=(E++(S.rds (C.drop i)).1,(S.rds (C.drop i)).2)) (hx:C[i]? =some x):((S.rd x).2≠0->(S.rds C).2=(S.rd x).2)/\((S.rd x).2=0->S.rds C=((E++[(S.rd x).1])++(S.rds (C.drop (i+1))).1,(S.rds (C.drop (i+1))).2)):=by
 obtain⟨h1,h2⟩:=List.getElem?_eq_some_iff.1 hx;have hd:C.drop i=x::C.drop (i+1):=by rw[List.drop_eq_getElem_cons h1,h2]
 rw[hd]at h;rw[h];refine⟨λh0=>?_,λh0=>?_⟩
 ·rw[Dv.rds,if_pos h0]
 ·rw[Dv.rds,if_neg (by simp[h0])];simp
theorem W8:∀(f:Nat) (S:Dv) (l:List En),0<=(Dv.write f S l).2.1/\(Dv.write f S l).2.1<=7
 | 0,S,l=>by show(0:Int)<=0/\(0:Int)<=7;omega
 | f+1,S,l=>by
  rw[Dv.write_succ];have hf:=Dv.fit_le S.at1 l;split
  ·show(0:Int)<=0/\(0:Int)<=7;omega
  split
  ·show(0:Int)<=0/\(0:Int)<=7;omega
  split
  ·show(0:Int)<=0/\(0:Int)<=7;omega
  split
  ·show(0:Int)<=0/\(0:Int)<=7;omega
  split
  ·show(0:Int)<=(S.at1.fit l:Int)/\(S.at1.fit l:Int)<=7;omega
  split
  ·show(0:Int)<=0/\(0:Int)<=7;omega
  ·exact W8 f _ l
set_option maxHeartbeats 1000000 in
theorem a1v (n t l p:Nat) (S:Dv) (k mm:Nat) (hO:S.Ok (Dv.costC+k) mm) (b most:Int):FP 117 [pp n,pp l,pp p,iI b,iI most] (DvP p n t l S)
  (Ps (.tuple #[iI (S.carry b most).2.1,iI (S.carry b most).2.2]) (DvP p n t l (S.carry b most).1)):=by
 have hlog:=hO.T.log;have hins:=Dv.ins_le hO b;obtain⟨L,hL⟩:∃L,L=S.T.ins b:=⟨_,rfl⟩;obtain⟨u,hu⟩:∃u:Nat,u=min (max most 0).toNat L.length:=⟨_,rfl⟩;refine FE [3,5,2,0,0] Tryz.func117 λX F hX=>?_;refine J.qF λ_=>?_;refine J.qc (a9r l S.T S.T.logical.toNat (by omega) (by omega) b) [4] λ_=>?_;rintro v As ⟨a,c,rfl,rfl⟩;refine⟨_,rfl,trivial,?_⟩;rw[<- hL];refine J.know (λh' s=>C8 (show D1 _ _ a L.length c _ _ from s.get (i:=5) rfl)) λhcap=>?_;rw[<- hL]at hins;have hmin:(if(L.length:Int)<(if(0:Int)>most then 0 else most)then(L.length:Int)else(if(0:Int)>most then 0 else most))=(u:Int):=by rw[b5s,min2,hu];omega
 have hul:u<=L.length:=by omega
 refine J.qn 10 λ_=>?_;rw[hmin,a0Z];refine J.v (.slice (oad a) u c) rfl rfl (λhg aa w he hw=>U0 tk rfl rfl rfl he rfl rfl rfl rfl (by omega)) ?_;refine J.q λ_=>?_;have hcar:S.carry b most=Dv.carryGo (L.take u).length S (L.take u) 0:=by
  unfold Dv.carry;rw[<- hL];have:L.take (max most 0).toNat=L.take u:=by
   rw[hu]
   by_cases hle:(max most 0).toNat<=L.length
   ·rw[Nat.min_eq_left hle]
   ·rw[Nat.min_eq_right (by omega),List.take_of_length_le (by omega),List.take_of_length_le (Nat.le_refl _)]
  rw[this]
 have htl:(L.take u).length=u:=by rw[List.length_take];omega
 rw[htl]at hcar;refine J.q λ_=>?_;refine J.l (α:=(Nat×Nat×Dv)) (λz=>z.1<=u/\u-z.1<=z.2.1/\z.2.2.Ok (Dv.cost*z.2.1+k) mm/\Dv.carryGo z.2.1 z.2.2 ((L.take u).drop z.1) z.1=S.carry b most) (λz=>[si 13 z.1,sv 12 (.slice (oad a) u c),⟨0,pp n,3, .tt⟩,⟨1,pp l,5, .tt⟩,⟨2,pp p,2, .tt⟩]) [1,2,3,4] (λz=>DvP p n t l z.2.2) (λz=>u-z.1) ((0,u,S)) (⟨Nat.zero_le _,by dsimp only;omega,hO.less (by have:Dv.cost*u<=Dv.costC:=Nat.mul_le_mul_left _ (by omega);dsimp only;omega),hcar.symm⟩) λz hI=>?_;obtain⟨d,j,Q⟩:=z;dsimp only at hI ⊢;obtain⟨hd,hj,hQ,hw⟩:=hI;refine J.qd (λ_ h1=>?_) λ_ h1=>?_
 ·simp only[decide_eq_true_eq,Int.ofNat_lt]at h1;obtain⟨j,rfl⟩:∃i,j=i+1:=⟨j-1,by omega⟩;have hQ1:Q.Ok (8*Dv.fuel+(Dv.cost*j+k)) mm:=hQ.less (by rw[Nat.mul_succ];unfold Dv.cost;omega);have hbd:=hQ.gd.ok.bd16;have hlb:=hQ.t.len;have hbb:Q.t.b<=1000:=by have:=hQ.t.b;omega
  rw[Dv.carryGo,if_neg (by rw[List.length_drop,htl];omega)]at hw;dsimp only at hw;obtain⟨s,hs⟩:∃s:Nat,s=(max Q.slots 1).toNat:=⟨_,rfl⟩;rw[<- hs]at hw;refine J.know (λh' s=>f8 (c:=(a,c)) (by omega) (s.get (i:=5) rfl)) λhg=>?_;obtain⟨ga,rfl⟩:=hg;refine J.qp (a5g p n t l Q hbb hlb) [1,2,3,4] λ_=>?_;have hsb:0<=Q.slots/\Q.slots<=7:=by
   unfold Dv.slots;split
   ·exact Dv.slots_le _
   ·exact Dv.slots_le _
  have hs1:1<=s/\s<=7:=by omega
  have h51:(if(1:Int)>Q.slots then 1 else Q.slots)=(s:Int):=by rw[hs];split<;>omega
  obtain⟨e,he⟩:∃e:Nat,e=min (d+s) u:=⟨_,rfl⟩;refine J.qn 4 λ_=>?_;rw[h51];have h54:(if(u:Int)<(d:Int)+(s:Int)then(u:Int)else(d:Int)+(s:Int))=(e:Int):=by rw[he];split<;>omega
  refine J.qn 4 λ_=>?_;rw[h54];refine J.q λ_=>?_;have h55:((e:Int).toNat-(d:Int).toNat)=e-d:=by omega
  obtain⟨w,hw0⟩:∃w,e=d+w:=⟨e-d,by omega⟩;have hw1:e-d=w:=by omega
  rw[h55,hw1,show 0+(d:Int).toNat*1=d from by omega,show c-(d:Int).toNat=c-d from by omega];obtain⟨C,hC⟩:∃C,C=((L.take u).drop d).take s:=⟨_,rfl⟩;have hCl:C.length=w:=by rw[hC,List.length_take,List.length_drop,htl];omega
  have hCg:∀i,i<w->∃x,C[i]? =some x/\(d6 L)[d+i]? =some (iI x):=λi hi=>by
   have hx:d+i<L.length:=by omega
   refine⟨L[d+i],?_,?_⟩
   ·rw[hC,List.getElem?_take,if_pos (by omega),List.getElem?_drop,List.getElem?_take,if_pos (by omega),List.getElem?_eq_getElem hx]
   ·rw[d6,List.getElem?_map,List.getElem?_eq_getElem hx];rfl
  rw[<- hC]at hw;refine J.turn1 [] rfl (As:=[c8 155 19 none 0 0 (c9 [])]) (λh s=>Sep.one ⟨rfl,rfl,rfl⟩) rfl ?_;refine J.q λ_=>?_;refine J.l (α:=(Nat×List En×Option Nat×Nat)) (λz=>z.1<=w/\z.2.1.length=z.1/\(∀x∈z.2.1,x.data.length=16)/\Q.rds C=(z.2.1++(Q.rds (C.drop z.1)).1,(Q.rds (C.drop z.1)).2)) (λz=>[si 57 z.1,si 56 w,sv 55 (.slice (some ⟨ga,d,none⟩) w (c-d)),sv 14 (slv z.2.2.1 z.2.1.length z.2.2.2),si 13 d,⟨12, .slice (oad (some ga)) u c,0, .tt⟩,⟨0,pp n,3, .tt⟩,⟨1,pp l,5, .tt⟩,⟨2,pp p,2, .tt⟩]) [6] (λz=>[c8 155 19 z.2.2.1 z.2.1.length z.2.2.2 (c9 z.2.1)]) (λz=>w-z.1) ((0,[],none,0)) (⟨Nat.zero_le _,rfl,by simp,by simp⟩) λz hI=>?_;obtain⟨i,E,ea,ec⟩:=z;dsimp only at hI ⊢;obtain⟨hi,hE,hEd,hrd⟩:=hI;refine J.qd (λ_ h2=>?_) λ_ h2=>?_
  ·simp only[decide_eq_true_eq,Int.ofNat_lt]at h2;obtain⟨x,hx,hx2⟩:=hCg i h2;obtain⟨st1,st2⟩:=a9I Q hrd hx;refine J.q λ_=>?_;refine J.v (iI x) rfl rfl (λhg aa w he hw=>i6 tk rfl rfl he rfl rfl rfl (hw.get (i:=5) rfl) (by rw[show d+(i:Int).toNat*1=d+i from by omega];exact hx2)) ?_;refine J.qp (b2b n l Q _ mm hQ1 x) [2,4] λ_=>?_;have hrl:=Dv.rd_len hQ1 x;refine J.qd (λ_ h3=>?_) λ_ h3=>?_
   ·simp only[bne_iff_ne,ne_eq]at h3;have h4:=st1 h3;rw[if_pos (by rw[h4];exact h3)]at hw;refine J.qr [1,2,3,4] λ_=>?_;rw[<- hw,h4];exact⟨rfl,rfl⟩
   simp only[bne_eq_false_iff_eq]at h3;have h4:=st2 h3;refine J.q λ_=>?_;refine J.ap 6 8 0 (C3 E (Q.rd x).1) λa3 c3=>?_;rw[show E.length+1=(E++[(Q.rd x).1]).length from by simp];refine J.q λ_=>?_;refine J.n ((i+1,E++[(Q.rd x).1],a3,c3)) (⟨by dsimp only;omega,by simp[hE],λy hy=>(List.mem_append.1 hy).elim (hEd y) (λhy=>by rw[List.mem_singleton.1 hy];exact hrl),h4⟩) (by dsimp only;omega) [0,1,2,3,4,5,6]
  simp only[decide_eq_false_iff_not,Int.ofNat_lt]at h2;have hie:i=w:=by omega
  have hrd2:Q.rds C=(E,0):=by
   rw[hrd,List.drop_of_length_le (by omega),Dv.rds];simp
  rw[hrd2,if_neg (by simp)]at hw;dsimp only at hw;have htook:=λh0=>Dv.pen_took hQ1 hEd h0 (by omega);have hkeep:=Dv.pen_keep hQ1 hEd;refine J.q λ_=>?_;rw[a0Z];refine J.q λ_=>?_;refine J.ca hX (by kernel_rfl) (R9 p n t l Q _ mm hQ1 (c8 155 19 ea E.length ec (c9 E)) (oad ea) E.length ec E (x6 155 19 ea E.length ec (c9 E)) rfl (by omega) hEd) [1,2,3,4,6] 0 rfl rfl rfl rfl rfl rfl (λ_=>rfl) ?_;refine cpq ⟨_,rfl,trivial,?_⟩;have hpb:0<=(Q.pen E).2.1/\(Q.pen E).2.1<=7:=W8 _ _ _;generalize Q.pen E=W at hw htook hkeep hpb ⊢;obtain⟨P,nn,er⟩:=W;dsimp only at hw htook hkeep hpb ⊢;refine J.qd (λ_ h5=>?_) λ_ h5=>?_
  ·simp only[bne_iff_ne,ne_eq]at h5;rw[if_pos h5]at hw;refine J.qr [1,2,3,4] λ_=>?_;rw[<- hw];exact⟨rfl,rfl⟩
  ·simp only[bne_eq_false_iff_eq]at h5;rw[if_neg (by rw[h5];decide)]at hw;have htk:=htook h5;obtain⟨v,rfl⟩:=Int.eq_ofNat_of_zero_le hpb.1;have hEl:E.length=w:=by omega
   have hvw:v<=w:=by have:=htk.2.1;omega
   rw[List.drop_drop]at hw;refine J.q λ_=>?_;refine J.n ((d+v,j,P)) (⟨by dsimp only;omega,by dsimp only;omega,hkeep.1,hw⟩) (by dsimp only;omega) [0,1,2,3,4,5]
 ·simp only[decide_eq_false_iff_not,Int.ofNat_lt]at h1;obtain rfl:d=u:=by omega
  have hz:(L.take d).drop d=[]:=List.drop_of_length_le (by omega);have hw2:S.carry b most=(Q,(d:Int),0):=by
   rw[<- hw,hz];cases j with
   | zero=>rfl
   | succ j=>rw[Dv.carryGo,if_pos List.length_nil]
  refine J.qr [1,2,3,4] λ_=>?_;rw[hw2];exact⟨rfl,rfl⟩
theorem a3A (b m:Int):∀(q:List Nat) (x:Nand×Tl×Int),x.2.2≠0->q.foldl (Dv.eraseD b m) x=x
 | [],x,_=>rfl
 | d::q,x,h=>by
  have:Dv.eraseD b m x d=x:=by unfold Dv.eraseD;rw[if_pos h]
  rw[List.foldl_cons,this];exact a3A b m q x h
theorem a4Z (f:Nand×Tl×Int->Nat->Nand×Tl×Int) (x:Nand×Tl×Int) {j n:Nat} (h:j<=n):(List.range n).foldl f x=((List.range n).drop j).foldl f ((List.range j).foldl f x):=by
 conv=>lhs;rw[<- List.take_append_drop j (List.range n)]
 rw[List.foldl_append];congr 2;rw[List.take_range,Nat.min_eq_left h]
theorem a9v (n t:Nat) (N:Nand) (tl:Tl) (k mm:Nat) (hG:N.Gd (6+k) mm) (hmm:mm<=1000) (hF:tl.Fit N) (b:Int):FP 135 [pp n,pp t,iI b] [d8 n N,TlA t tl]
  (Ps (iI (Dv.erase N tl b).2.2) [d8 n (Dv.erase N tl b).1,TlA t (Dv.erase N tl b).2.1]):=by
 have hbd:=hG.ok.bd16;have hb0:=hF.b;refine FE [2,3,0] Tryz.func135 λX F hX=>?_;refine J.qp (K0 t tl (by omega) hF.len b) [2] λ_=>?_;refine J.qp (M9 n N) [1] λ_=>?_;obtain⟨m,hm⟩:∃m,m=tl.mask b:=⟨_,rfl⟩;rw[<- hm];refine J.q λ_=>?_;refine J.l (α:=(Nat×Nand×Tl)) (λz=>z.1<=N.dies/\(List.range z.1).foldl (Dv.eraseD b m) (N,tl,0)=(z.2.1,z.2.2,0)/\z.2.1.Gd (6-z.1+k) mm/\z.2.2.Fit z.2.1/\N.Like z.2.1) (λz=>[si 16 z.1,si 15 N.dies,si 7 m,⟨0,pp n,2, .tt⟩,⟨1,pp t,3, .tt⟩,si 2 b]) [1,2] (λz=>[d8 n z.2.1,TlA t z.2.2]) (λz=>N.dies-z.1) ((0,N,tl)) (⟨Nat.zero_le _,rfl,hG,hF,Nand.Like.refl _⟩) λz hI=>?_;obtain⟨d,P,T⟩:=z;dsimp only at hI ⊢;obtain⟨hd,hfo,hP,hT,hlk⟩:=hI;have hTb:T.b<=1000:=by have:=hT.b;have:=hlk.blocks;omega
 refine J.qd (λ_ h1=>?_) λ_ h1=>?_
 ·simp only[decide_eq_true_eq,Int.ofNat_lt]at h1;have hsucc:(List.range (d+1)).foldl (Dv.eraseD b m) (N,tl,0)=Dv.eraseD b m (P,T,0) d:=by rw[List.range_succ,List.foldl_append,hfo];rfl
  have hP1:P.Gd (1+(6-(d+1)+k)) mm:=hP.less (by omega) (Nat.le_refl _);have hk:=Dv.eraseD_keep (k:=6-(d+1)+k) (m:=mm) b m (P,T,0) d hP1 hT;refine J.qp (a3p m d) [] λ_=>?_;refine J.qd (λ_ h2=>?_) λ_ h2=>?_
  ·simp only[Bool.not_eq_true']at h2;have hz:Dv.eraseD b m (P,T,0) d=(P,T,0):=by unfold Dv.eraseD;rw[if_neg (by simp),if_pos h2]
   refine J.q λ_=>?_;refine J.n ((d+1,P,T)) (⟨by dsimp only;omega,hsucc.trans hz,hP.less (by dsimp only;omega) (Nat.le_refl _),hT,hlk⟩) (by dsimp only;omega) [0,1,2]
  simp only[Bool.not_eq_false']at h2;have hz:Dv.eraseD b m (P,T,0) d=(P.eraseN d b,if P.eraseE d b=0 then T else if P.eraseE d b=9 then T else if P.eraseE d b=8 then T.die d else T.bad d b,if P.eraseE d b=9 then 9 else 0):=by
   unfold Dv.eraseD;rw[if_neg (by simp),if_neg (by rw[h2];decide)]
  rw[hz]at hsucc hk;refine J.qp (a7j n P hP.ok hP1.room hP.nodup (by have:=hP.few;omega) d b) [1] λ_=>?_;generalize P.eraseE d b=e at hsucc hk;refine J.qd (λ_ h3=>?_) λ_ h3=>?_
  ·simp only[beq_iff_eq]at h3;rw[if_pos h3,if_neg (by omega)]at hsucc;rw[if_pos h3]at hk;refine J.q λ_=>?_;refine J.n ((d+1,P.eraseN d b,T)) (⟨by dsimp only;omega,hsucc,hk.1,hT.like hk.2.2,hlk.trans hk.2.2⟩) (by dsimp only;omega) [0,1,2]
  simp only[beq_eq_false_iff_ne,ne_eq]at h3;rw[if_neg h3]at hsucc hk;refine J.qd (λ_ h4=>?_) λ_ h4=>?_
  ·simp only[beq_iff_eq]at h4;rw[if_pos h4,if_pos h4]at hsucc;have hall:Dv.eraseB N tl b=(P.eraseN d b,T,9):=by
    unfold Dv.eraseB;rw[<- hm,a4Z _ _ (show d+1<=N.dies by omega),hsucc];exact a3A b m _ _ (by simp)
   refine J.qr [1,2] λ_=>?_;unfold Dv.erase;rw[hall];exact⟨rfl,rfl⟩
  simp only[beq_eq_false_iff_ne,ne_eq]at h4;rw[if_neg h4,if_neg h4]at hsucc;rw[if_neg h4]at hk;refine J.qd (λ_ h5=>?_) λ_ h5=>?_
  ·simp only[beq_iff_eq]at h5;rw[if_pos h5]at hsucc hk;refine J.qp (X2 t T d) [2] λ_=>?_;refine J.q λ_=>?_;refine J.n ((d+1,P.eraseN d b,T.die d)) (⟨by dsimp only;omega,hsucc,hk.1,(hT.die d).like hk.2.2,hlk.trans hk.2.2⟩) (by dsimp only;omega) [0,1,2]
  simp only[beq_eq_false_iff_ne,ne_eq]at h5;rw[if_neg h5]at hsucc hk;refine J.qp (a6e t T hTb hT.len d b) [2] λ_=>?_;refine J.q λ_=>?_;refine J.n ((d+1,P.eraseN d b,T.bad d b)) (⟨by dsimp only;omega,hsucc,hk.1,(hT.bad d b).like hk.2.2,hlk.trans hk.2.2⟩) (by dsimp only;omega) [0,1,2]
 simp only[decide_eq_false_iff_not,Int.ofNat_lt]at h1;obtain rfl:d=N.dies:=by omega
 have hall:Dv.eraseB N tl b=(P,T,0):=by unfold Dv.eraseB;rw[<- hm];exact hfo
 have hres:Dv.erase N tl b=(P,Dv.eraseT P T b,0):=by unfold Dv.erase;rw[hall];rfl
 refine J.qp (M9 n P) [1] λ_=>?_;refine J.q λ_=>?_;refine J.l (α:=(Nat×Tl)) (λz=>z.1<=P.dies/\(List.range z.1).foldl (λt (d:Nat)=>t.wore b (P.wornAt d b)) T=z.2/\z.2.Fit P) (λz=>[si 44 z.1,si 43 P.dies,⟨0,pp n,2, .tt⟩,⟨1,pp t,3, .tt⟩,si 2 b]) [2] (λz=>[TlA t z.2]) (λz=>P.dies-z.1) ((0,T)) (⟨Nat.zero_le _,rfl,hT⟩) λz hI=>?_;clear hfo hT hTb hall;obtain⟨d,U⟩:=z;dsimp only at hI ⊢;obtain⟨hd2,hfo,hU⟩:=hI;have hUb:U.b<=1000:=by have:=hU.b;have:=hlk.blocks;omega
 have hPd:P.dies<=6:=by have:=hlk.dies;omega
 refine J.qd (λ_ h1=>?_) λ_ h1=>?_
 ·simp only[decide_eq_true_eq,Int.ofNat_lt]at h1;refine J.qp (a6w n P hP.ok d b) [1] λ_=>?_;refine J.qp (a3R t U hUb hU.len b (P.wornAt d b)) [2] λ_=>?_;refine J.q λ_=>?_;refine J.n ((d+1,U.wore b (P.wornAt d b))) (⟨by dsimp only;omega,by dsimp only;rw[List.range_succ,List.foldl_append,hfo];rfl,hU.wore _ _⟩) (by dsimp only;omega) [0,1,2]
 simp only[decide_eq_false_iff_not,Int.ofNat_lt]at h1;obtain rfl:d=P.dies:=by omega
 have hU2:U=Dv.wores P T b:=hfo.symm;refine J.qp (U6 t U hUb hU.len b) [2] λ_=>?_;refine J.qd (λ_ h2=>?_) λ_ h2=>?_
 ·refine J.qp (a1r t U hUb hU.len b true) [2] λ_=>?_;refine J.qr [1,2] λ_=>?_;rw[hres];unfold Dv.eraseT;rw[<- hU2,if_pos h2];exact⟨rfl,rfl⟩
 ·refine J.qr [1,2] λ_=>?_;rw[hres];unfold Dv.eraseT;rw[<- hU2,if_neg (by rw[h2];decide)];exact⟨rfl,rfl⟩
theorem X5 (n t l:Nat) (N:Nand) (tl:Tl) (T:Tb) (k mm:Nat) (hG:N.Gd (96+k) mm) (hmm:mm<=1000) (hF:tl.Fit N) (o:Int):FP 85 [pp n,pp t,pp l,iI o] [d8 n N,TlA t tl,TbA l T]
  (Ps (iI (Dv.clearX N tl T o).2.2) [d8 n (Dv.clearX N tl T o).1,TlA t (Dv.clearX N tl T o).2.1,TbA l T]):=by
 have hbd:=hG.ok.bd16;have hb0:=hF.b;have hlen:=A7 (s9 tl T) o tl.b;refine FE [2,3,4,0] Tryz.func85 λX F hX=>?_;refine J.qF λ_=>?_;refine J.qc (a7g t tl (by omega) hF.len l T o) [2,3] λ_=>?_;rintro v As ⟨a,c,rfl,rfl⟩;refine⟨_,rfl,trivial,?_⟩;obtain⟨L,hL⟩:∃L,L=g5 (s9 tl T) o tl.b:=⟨_,rfl⟩;have hX2:Dv.clearX N tl T o=Dv.clearGo L N tl:=by unfold Dv.clearX;rw[hL]
 rw[<- hL]at hlen ⊢;refine J.q λ_=>?_;refine J.l (α:=(Nat×Nand×Tl)) (λz=>z.1<=L.length/\Dv.clearGo (L.drop z.1) z.2.1 z.2.2=Dv.clearX N tl T o/\z.2.1.Gd (6*(L.length-z.1)+k) mm/\z.2.2.Fit z.2.1/\N.Like z.2.1) (λz=>[si 27 z.1,si 26 L.length,sv 25 (slv a L.length c),⟨0,pp n,2, .tt⟩,⟨1,pp t,3, .tt⟩]) [1,2] (λz=>[d8 n z.2.1,TlA t z.2.2]) (λz=>L.length-z.1) ((0,N,tl)) (⟨Nat.zero_le _,by rw[hX2];rfl,hG.less (by dsimp only;omega) (Nat.le_refl _),hF,Nand.Like.refl _⟩) λz hI=>?_;obtain⟨i,P,U⟩:=z;dsimp only at hI ⊢;obtain⟨hi,hgo,hP,hU,hlk⟩:=hI;refine J.qd (λ_ h1=>?_) λ_ h1=>?_
 ·simp only[decide_eq_true_eq,Int.ofNat_lt]at h1;obtain⟨x,hx⟩:∃x,L[i]? =some x:=⟨_,List.getElem?_eq_getElem h1⟩;have hdr:L.drop i=x::L.drop (i+1):=by
   obtain⟨h2,h3⟩:=List.getElem?_eq_some_iff.1 hx;rw[List.drop_eq_getElem_cons h2,h3]
  rw[hdr,Dv.clearGo]at hgo;have hP1:P.Gd (6+(6*(L.length-(i+1))+k)) mm:=hP.less (by omega) (Nat.le_refl _);have hk:=Dv.erase_keep hP1 hU x;refine J.know (λh' s=>f8 (c:=(a,c)) (by omega) (s.get (i:=4) rfl)) λhg=>?_;obtain⟨g,rfl⟩:=hg;refine J.q λ_=>?_;refine J.v (iI x) rfl rfl (λhg aa w he hw=>i6 tk rfl rfl he rfl rfl rfl (hw.get (i:=4) rfl) (by rw[show 0+(i:Int).toNat*1=i from by omega,d6,List.getElem?_map,hx];rfl)) ?_;refine J.qp (a9v n t P U _ mm hP1 hmm hU x) [1,2] λ_=>?_;generalize Dv.erase P U x=W at hgo hk ⊢;obtain⟨P',U',er⟩:=W;dsimp only at hgo hk ⊢;refine J.qd (λ_ h2=>?_) λ_ h2=>?_
  ·simp only[bne_iff_ne,ne_eq]at h2;rw[if_pos h2]at hgo;refine J.qr [1,2,3] λ_=>?_;rw[<- hgo];exact⟨rfl,rfl⟩
  ·simp only[bne_eq_false_iff_eq]at h2;rw[if_neg (by rw[h2];decide)]at hgo;refine J.q λ_=>?_;refine J.n ((i+1,P',U')) (⟨by dsimp only;omega,hgo,hk.1,hk.2.1.like hk.2.2,hlk.trans hk.2.2⟩) (by dsimp only;omega) [0,1,2,3,4]
 ·simp only[decide_eq_false_iff_not,Int.ofNat_lt]at h1;rw[List.drop_of_length_le (by omega),Dv.clearGo]at hgo;refine J.qr [1,2,3] λ_=>?_;rw[<- hgo];exact⟨rfl,rfl⟩
theorem X4 (n t l p:Nat) (S:Dv) (k mm:Nat) (hO:S.Ok (Dv.costM+k) mm) (hmm:mm<=1000):FP 87 [pp n,pp t,pp l,pp p] (DvP p n t l S)
  (Ps (iI S.room.2) (DvP p n t l S.room.1)):=by
 have hbd:=hO.gd.ok.bd16;have htb:=hO.t.b;have hC:=Dv.clear_keep (S:=S) (k:=Dv.costR*16+k) (m:=mm) (hO.less (by unfold Dv.costM;omega));refine FE [3,4,5,2] Tryz.func87 λX F hX=>?_;refine J.qF λ_=>?_;refine J.qp (O6 p n t l S) [1] λ_=>?_;refine J.q λ_=>?_;refine J.ca hX (by kernel_rfl) (X5 n t l S.N S.t S.T (Dv.costR*16+k) mm (hO.gd.less (by unfold Dv.costM;omega) (Nat.le_refl _)) hmm hO.t S.op) [2,3,4] 0 rfl rfl rfl rfl rfl rfl (λ_=>rfl) ?_;refine cpq ⟨_,rfl,trivial,?_⟩;have hroom:S.room=if S.clear.2≠0 then S.clear else Dv.roomGo S.t.b S.clear.1:=rfl
 refine J.qd (λ_ h1=>?_) λ_ h1=>?_
 ·simp only[bne_iff_ne,ne_eq]at h1;have h1:S.clear.2≠0:=h1;rw[if_pos h1]at hroom;refine J.qr [1,2,3,4] λ_=>?_;rw[hroom];exact⟨rfl,rfl⟩
 simp only[bne_eq_false_iff_eq]at h1;have h1:S.clear.2=0:=h1;rw[if_neg (by rw[h1];decide)]at hroom;have hB:S.clear.1.t.b=S.t.b:=by have:=hC.1.t.b;have:=hC.2.1.blocks;omega
 refine J.qp (a1q t S.clear.1.t) [3] λ_=>?_;rw[hB];refine J.q λ_=>?_;refine J.l (α:=(Nat×Dv)) (λz=>z.1<=S.t.b/\Dv.roomGo (S.t.b-z.1) z.2=S.room/\z.2.Ok (Dv.costR*(S.t.b-z.1)+k) mm) (λz=>[si 40 z.1,si 39 S.t.b,⟨0,pp n,3, .tt⟩,⟨1,pp t,4, .tt⟩,⟨2,pp l,5, .tt⟩,⟨3,pp p,2, .tt⟩]) [1,2,3,4] (λz=>DvP p n t l z.2) (λz=>S.t.b-z.1) ((0,S.clear.1)) (⟨Nat.zero_le _,hroom.symm,hC.1.less (by dsimp only;have:Dv.costR*(S.t.b-0)<=Dv.costR*16:=Nat.mul_le_mul_left _ (by omega);omega)⟩) λz hI=>?_;obtain⟨i,Q⟩:=z;dsimp only at hI ⊢;obtain⟨hi,hgo,hQ⟩:=hI;have hQb:=hQ.gd.ok.bd16;have hQt:=hQ.t.b;have hQp:=hQ.t.p;have hlb:=hQ.t.len;refine J.qd (λ_ h2=>?_) λ_ h2=>?_
 ·simp only[decide_eq_true_eq,Int.ofNat_lt]at h2;obtain⟨j,hj⟩:∃j,S.t.b-i=j+1:=⟨S.t.b-i-1,by omega⟩;have hj1:S.t.b-(i+1)=j:=by omega
  rw[hj,Dv.roomGo]at hgo;rw[hj]at hQ;refine J.qp (O6 p n t l Q) [1] λ_=>?_;refine J.qp (a9X t Q.t (by omega) hlb l Q.T Q.op) [3,4] λ_=>?_;refine J.qd (λ_ h3=>?_) λ_ h3=>?_
  ·simp only[decide_eq_true_eq]at h3;have h3:(Q.free:Int)>4:=h3;rw[if_pos h3]at hgo;refine J.qr [1,2,3,4] λ_=>?_;rw[<- hgo];exact⟨rfl,rfl⟩
  simp only[decide_eq_false_iff_not]at h3;have h3:¬(Q.free:Int)>4:=h3;rw[if_neg h3]at hgo;refine J.qp (O6 p n t l Q) [1] λ_=>?_;refine J.qp (a5j t Q.t (by omega) hlb l Q.T Q.op) [3,4] λ_=>?_;rw[show A6 (λx y=>orI [s4 (Q.T.count x) (Q.T.count y),s4 (Q.t.wear x) (Q.t.wear y)]) (g5 (L9 Q.t Q.T) Q.op Q.t.b)=Q.victim from rfl];obtain⟨vv,hvv⟩:∃v,v=Q.victim:=⟨_,rfl⟩;rw[<- hvv]at hgo ⊢;refine J.qn 7 λ_=>?_;cases h4:decide (vv<0)with
  | true=>
   have h4':vv<0:=by simpa using h4
   rw[if_pos (.inl h4')]at hgo;refine J.q λ_=>?_;refine J.v (iI 0) rfl rfl (λhg a w he hs=>absurd hg (by simp[G.on])) ?_;refine J.q λ_=>?_;refine J.v (.agg #[iI 0,iI 0,iI 0]) rfl rfl (λhg a w he hs=>absurd hg (by simp[G.on])) ?_;refine J.q λ_=>?_;refine J.v (iI 0) rfl rfl (λhg a w he hs=>absurd hg (by simp[G.on])) ?_;refine J.q λ_=>?_;refine J.v (iI 0) rfl rfl (λhg a w he hs=>absurd hg (by simp[G.on])) ?_;refine J.qT λ_=>?_;refine J.qr [1,2,3,4] λ_=>?_;rw[<- hgo];exact⟨rfl,rfl⟩
  | false=>
   have h4':¬vv<0:=by simpa using h4
   have hsb:=Dv.slots_le (Q.t.mask vv);have hmul:0<=(Q.t.p:Int)*G.slots (Q.t.mask vv)/\(Q.t.p:Int)*G.slots (Q.t.mask vv)<=8*7:=⟨Int.mul_nonneg (by omega) hsb.1,Int.mul_le_mul (by omega) hsb.2 hsb.1 (by omega)⟩;refine J.qp (A4 l Q.T vv) [4] λ_=>?_;refine J.qp (a1q t Q.t) [3] λ_=>?_;refine J.qp (K0 t Q.t (by omega) hlb vv) [3] λ_=>?_;refine J.qp (E6 (Q.t.mask vv)) [] λ_=>?_;refine J.qd (λ_ h5=>?_) λ_ h5=>?_
   ·have h5':Q.T.count vv>=Q.t.p*G.slots (Q.t.mask vv):=by simpa using h5
    rw[if_pos (.inr h5')]at hgo;refine J.qr [1,2,3,4] λ_=>?_;rw[<- hgo];exact⟨rfl,rfl⟩
   have h5':¬Q.T.count vv>=Q.t.p*G.slots (Q.t.mask vv):=by simpa using h5
   rw[if_neg (by rintro(e | e)<;>contradiction)]at hgo;dsimp only at hgo;have hQ1:Q.Ok (Dv.costC+(96+(Dv.costR*j+k))) mm:=hQ.less (by unfold Dv.costR;rw[Nat.mul_succ];omega);have hc:=Dv.carry_keep hQ1 vv (Q.T.count vv);refine J.qp (A4 l Q.T vv) [4] λ_=>?_;refine J.qp (a1v n t l p Q _ mm hQ1 vv (Q.T.count vv)) [1,2,3,4] λ_=>?_;generalize Q.carry vv (Q.T.count vv)=W at hgo hc ⊢;obtain⟨P,cn,er⟩:=W;dsimp only at hgo hc ⊢;refine J.qd (λ_ h6=>?_) λ_ h6=>?_
   ·simp only[bne_iff_ne,ne_eq]at h6;rw[if_pos h6]at hgo;refine J.qr [1,2,3,4] λ_=>?_;rw[<- hgo];exact⟨rfl,rfl⟩
   simp only[bne_eq_false_iff_eq]at h6;rw[if_neg (by rw[h6];decide)]at hgo;have hcl:=Dv.clear_keep hc.1;refine J.qp (O6 p n t l P) [1] λ_=>?_;refine J.qp (X5 n t l P.N P.t P.T (Dv.costR*j+k) mm hc.1.gd hmm hc.1.t P.op) [2,3,4] λ_=>?_;refine J.qd (λ_ h7=>?_) λ_ h7=>?_
   ·simp only[bne_iff_ne,ne_eq]at h7;have h7:P.clear.2≠0:=h7;rw[if_pos h7]at hgo;refine J.qr [1,2,3,4] λ_=>?_;rw[<- hgo];exact⟨rfl,rfl⟩
   ·simp only[bne_eq_false_iff_eq]at h7;have h7:P.clear.2=0:=h7;rw[if_neg (by rw[h7];decide)]at hgo;refine J.q λ_=>?_;refine J.n ((i+1,P.clear.1)) (⟨by dsimp only;omega,by dsimp only;rw[hj1];exact hgo,by dsimp only;rw[hj1];exact hcl.1⟩) (by dsimp only;omega) [0,1,2,3,4]
 ·simp only[decide_eq_false_iff_not,Int.ofNat_lt]at h2;have hz:S.t.b-i=0:=by omega
  rw[hz,Dv.roomGo]at hgo;refine J.qr [1,2,3,4] λ_=>?_;rw[<- hgo];exact⟨rfl,rfl⟩
theorem a2D (l:List Int) (f:Int->Int) (i:Nat) (x:Int) (h:l[i]? =some x):((l.take (i+1)).map f).sum=((l.take i).map f).sum+f x:=by
 rw[List.take_add_one,h,Option.toList_some,List.map_append,List.sum_append];simp
theorem b3M (l:List Int) (f:Int->Int) (c:Int) (hc:0<=c) (hf:∀x,0<=f x/\f x<=c):0<=(l.map f).sum/\(l.map f).sum<=c*l.length:=by
 induction l with
 | nil=>simp
 | cons x l ih=>
  have:=hf x;simp only[List.map_cons,List.sum_cons,List.length_cons,Int.natCast_add,Int.mul_add];omega
theorem a7l (t l:Nat) (S:Dv) (k mm:Nat) (hO:S.Ok k mm):FP 74 [pp t,pp l] [TlA t S.t,TbA l S.T]
  (Ps (iI S.leftN) [TlA t S.t,TbA l S.T]):=by
 have hbd:=hO.gd.ok.bd16;have htb:=hO.t.b;have hlog:=hO.T.log;obtain⟨L,hL⟩:∃L,L=S.hurts:=⟨_,rfl⟩;have hLl:L.length<=16:=by have:=A7 (I4 S.t S.T) (-1) S.t.b;rw[hL];unfold Dv.hurts;omega
 have hs:=λi=>b3M (L.take i) S.T.count 1000000 (by omega) (λx=>hO.T.bd x);refine FE [2,3] Tryz.func74 λX F hX=>?_;refine J.qc (a6r t S.t (by omega) hO.t.len l S.T S.T.logical.toNat (by omega) (by omega)) [1,2] λ_=>?_;rintro v As ⟨a,c,rfl,rfl⟩;refine⟨_,rfl,trivial,?_⟩;rw[show g5 (I4 S.t S.T) (-1) S.t.b=L from hL.symm];refine J.q λ_=>?_;refine J.l (α:=Nat) (λi=>i<=L.length) (λi=>[si 12 i,si 11 L.length,sv 10 (slv a L.length c),⟨5,iI ((L.take i).map S.T.count).sum,0, .tt⟩,⟨1,pp l,3, .tt⟩]) [] (λi=>[]) (λi=>L.length-i) (0) (Nat.zero_le _) λi hI=>?_;have hsi:=hs i;have htl:((L.take i).length:Int)<=16:=by rw[List.length_take];omega
 refine J.qd (λ_ h1=>?_) λ_ h1=>?_
 ·simp only[decide_eq_true_eq,Int.ofNat_lt]at h1;obtain⟨x,hx⟩:∃x,L[i]? =some x:=⟨_,List.getElem?_eq_getElem h1⟩;have hxb:=hO.T.bd x;have hsu:=a2D L S.T.count i x hx;refine J.know (λh' s=>f8 (c:=(a,c)) (by omega) (s.get (i:=3) rfl)) λhg=>?_;obtain⟨g,rfl⟩:=hg;refine J.q λ_=>?_;refine J.v (iI x) rfl rfl (λhg aa w he hw=>i6 tk rfl rfl he rfl rfl rfl (hw.get (i:=3) rfl) (by rw[show 0+(i:Int).toNat*1=i from by omega,d6,List.getElem?_map,hx];rfl)) ?_;refine J.qp (A4 l S.T x) [2] λ_=>?_;refine J.q λ_=>?_;rw[<- hsu];refine J.q λ_=>?_;refine J.n (i+1) (by omega) (by omega) [0,1,2,3]
 ·simp only[decide_eq_false_iff_not,Int.ofNat_lt]at h1;refine J.qr [1,2] λ_=>?_;rw[List.take_of_length_le (by omega),hL];exact⟨rfl,rfl⟩
theorem a7k (n t l p:Nat) (S:Dv) (k mm:Nat) (hO:S.Ok (Dv.costS+k) mm) (hmm:mm<=1000) (most:Int):FP 75 [pp n,pp t,pp l,pp p,iI most] (DvP p n t l S)
  (Ps (.tuple #[iI (S.step most).2.1,iI (S.step most).2.2]) (DvP p n t l (S.step most).1)):=by
 have hbd:=hO.gd.ok.bd16;have htd:=hO.t.d;have htb:=hO.t.b;refine FE [3,4,5,2,0] Tryz.func75 λX F hX=>?_;refine J.qp (a1q t S.t) [3] λ_=>?_;refine J.q λ_=>?_;refine J.l (α:=(Nat×Tl)) (λz=>z.1<=S.t.d/\(List.range z.1).foldl (λt (d:Nat)=>if S.N.deadAt d then t.die d else t) S.t=z.2/\z.2.Fit S.N) (λz=>[si 18 z.1,si 17 S.t.d,⟨0,pp n,3, .tt⟩,⟨1,pp t,4, .tt⟩,⟨2,pp l,5, .tt⟩,⟨3,pp p,2, .tt⟩,si 4 most]) [3] (λz=>[TlA t z.2]) (λz=>S.t.d-z.1) ((0,S.t)) (⟨Nat.zero_le _,rfl,hO.t⟩) λz hI=>?_;obtain⟨d,U⟩:=z;dsimp only at hI ⊢;obtain⟨hd,hfo,hU⟩:=hI;refine J.qd (λ_ h1=>?_) λ_ h1=>?_
 ·simp only[decide_eq_true_eq,Int.ofNat_lt]at h1;have hsu:(List.range (d+1)).foldl (λt (d:Nat)=>if S.N.deadAt d then t.die d else t) S.t=if S.N.deadAt d then U.die d else U:=by rw[List.range_succ,List.foldl_append,hfo];rfl
  refine J.qp (a1S n S.N hO.gd.ok d) [2] λ_=>?_;refine J.qd (λ_ h2=>?_) λ_ h2=>?_
  ·rw[if_pos h2]at hsu;refine J.qp (X2 t U d) [3] λ_=>?_;refine J.q λ_=>?_;refine J.n ((d+1,U.die d)) (⟨by dsimp only;omega,hsu,hU.die d⟩) (by dsimp only;omega) [0,1,2,3,4]
  ·rw[if_neg (by rw[h2];decide)]at hsu;refine J.q λ_=>?_;refine J.n ((d+1,U)) (⟨by dsimp only;omega,hsu,hU⟩) (by dsimp only;omega) [0,1,2,3,4]
 simp only[decide_eq_false_iff_not,Int.ofNat_lt]at h1;obtain rfl:d=S.t.d:=by omega
 have hseen:S.seen={S with t:=U}:=by unfold Dv.seen Dv.seeDead;rw[hfo]
 have hO1:S.seen.Ok (Dv.costM+(Dv.costC+k)) mm:=hO.seen.less (by unfold Dv.costS;omega);have hr:=Dv.room_keep hO1;obtain⟨Q,hQ⟩:∃Q,Q=S.seen:=⟨_,rfl⟩;have hQO:Q.Ok (Dv.costM+(Dv.costC+k)) mm:=by rw[hQ];exact hO1
 have hst:S.step most=(let r:=Q.room;if r.2≠0 then(r.1,0,r.2)else match r.1.hurts with | []=>(r.1,0,0) | b::_=>r.1.carry b most):=by rw[hQ];rfl
 rw[show d8 n S.N=d8 n Q.N from by rw[hQ];rfl,show TbA l S.T=TbA l Q.T from by rw[hQ];rfl,show TlA t U=TlA t Q.t from by rw[hQ,hseen],show J9 p n t l S=J9 p n t l Q from by rw[hQ];rfl];rw[<- hQ]at hr;refine J.qp (X4 n t l p Q _ mm hQO hmm) [1,2,3,4] λ_=>?_;dsimp only at hst;generalize Q.room=W at hst hr ⊢;obtain⟨P,er⟩:=W;dsimp only at hst hr ⊢;refine J.qd (λ_ h2=>?_) λ_ h2=>?_
 ·simp only[bne_iff_ne,ne_eq]at h2;rw[if_pos h2]at hst;refine J.qr [1,2,3,4] λ_=>?_;rw[hst];exact⟨rfl,rfl⟩
 simp only[bne_eq_false_iff_eq]at h2;rw[if_neg (by rw[h2];decide)]at hst;have hPb:=hr.1.gd.ok.bd16;have hPt:=hr.1.t.b;have hlog:=hr.1.T.log;have hLl:=A7 (I4 P.t P.T) (-1) P.t.b;refine J.qc (a6r t P.t (by omega) hr.1.t.len l P.T P.T.logical.toNat (by omega) (by omega)) [3,4] λ_=>?_;rintro v As ⟨a,c,rfl,rfl⟩;refine⟨_,rfl,trivial,?_⟩;have hh:g5 (I4 P.t P.T) (-1) P.t.b=P.hurts:=rfl;rw[hh]at hLl ⊢;generalize P.hurts=L at hst hLl ⊢;cases L with
 | nil=>
  refine J.qT λ_=>?_;refine J.qr [1,2,3,4] λ_=>?_;rw[hst];exact⟨rfl,rfl⟩
 | cons b L=>
  refine J.know (λh' s=>f8 (c:=(a,c)) (by simp) (s.get (i:=5) rfl)) λhg=>?_;obtain⟨g,rfl⟩:=hg;refine J.q λ_=>?_;refine J.cond rfl (λh=>absurd h (by rw[beq_iff_eq,List.length_cons];omega)) (λ_=>?_);refine J.q λ_=>?_;refine J.v (iI b) rfl rfl (λhg aa w he hw=>i6 tk rfl rfl he rfl rfl rfl (hw.get (i:=5) rfl) rfl) ?_;dsimp only at hst;refine J.qp (a1v n t l p P _ mm hr.1 b most) [1,2,3,4] λ_=>?_;refine J.qr [1,2,3,4] λ_=>?_;rw[hst];exact⟨rfl,rfl⟩
end Go.Proofs.YtnffkcabeecopaaGreat
namespace Go.Proofs.YtnffkcabeecopaaGreat
namespace Bt
end Bt
namespace S
end S
end Go.Proofs.YtnffkcabeecopaaGreat
namespace Go.Proofs.YtnffkcabeecopaaGreat
open Go Go.RowKit
namespace Nand
variable {N : Nand}
end Nand
theorem b2m (g c:Nat):FP 154 [slv (some g) 1 c] [c8 34 7 (some g) 1 c (ft 3 4 2 0 0)]
  (λv As=>∃a' c',v=slv a' 1 c'/\As=[c8 34 7 (some g) 1 c (ft 3 4 2 0 0),c8 34 7 a' 1 c' (ft 3 4 2 0 0)]):=by
 refine FE [0] Tryz.func154 λX F hX=>?_;refine J.qF λ_=>?_;refine J.qn 5 λbb=>?_;refine J.closeOwn (e:=34) (size:=7) (n:=0) (cap:=0) (xs:=[]) 2 rfl rfl rfl (Nat.le_refl _) (Nat.zero_le _) rfl rfl rfl ?_;refine J.q λ_=>?_;refine J.appendR hX tk (a:=some (bb 0)) (n:=0) (cap:=0) (xs:=[]) (oo:=0) (Ay:=c8 34 7 (some g) 1 c (ft 3 4 2 0 0)) 2 1 0 rfl rfl rfl rfl rfl rfl rfl rfl rfl rfl (x6 _ _ (some g) _ _ _) rfl rfl rfl rfl (by decide) (by decide) (by decide) (λ_=>rfl) λa' c'=>⟨_,rfl,trivial,?_⟩;refine J.qr [1,2] λ_=>?_;exact⟨a',c',rfl,rfl⟩
theorem b4V (p g c:Nat):FP 106 [pp p,iI 3] [.pt p 176 [slv (some g) 1 c],c8 34 7 (some g) 1 c (ft 3 4 2 0 0)]
  (λv As=>∃x a' c',v=slv a' 1 c'/\As=[.pt p 176 [x],c8 34 7 (some g) 1 c (ft 3 4 2 0 0),c8 34 7 a' 1 c' (ft 3 4 2 0 0)]):=by
 refine FE [2,0] Tryz.func106 λX F hX=>?_;refine J.know (p:=1<=c) (λh' s=>by obtain⟨_,cur,h1,h2,_⟩:=s.get (i:=2) rfl;exact h2) λhc=>?_;refine J.qF λ_=>?_;refine J.q λ_=>?_;refine J.l (α:=Nat) (λk=>k<=1) (λk=>[si 5 k,⟨0,pp p,2, .tt⟩,si 1 3]) [] (λk=>[]) (λk=>1-k) (0) (Nat.zero_le _) λk hI=>?_;rcases(by omega:k=0\/k=1)with rfl | rfl
 ·refine J.q λ_=>?_;refine J.v (iI 3) rfl rfl (λhg a w he hw=>i6 tk rfl rfl he hg rfl rfl (hw.get (i:=2) rfl) rfl) ?_;refine J.qT λ_=>?_;refine J.q λ_=>?_;refine J.n (1) (by omega) (by omega) [0,1,2]
 ·refine J.q λ_=>?_;refine J.v (iI 3) rfl rfl (λhg a w he hw=>absurd hg (by decide)) ?_;refine J.qF λ_=>?_;refine J.qc (b2m g c) [2] λ_=>?_;rintro v As ⟨a',c',rfl,rfl⟩;refine⟨_,rfl,trivial,?_⟩;refine J.qn 10 λ_=>?_;refine J.v (.slice (if c=1 then some ⟨g,0,none⟩else some ⟨g,7,none⟩) 0 (c-1)) rfl rfl (λhg a w he hw=>?_) ?_
  ·have e1:=f7 he (x:= .tmp 41) (s:=sv 41 (slv (some g) 1 c)) rfl;have e2:=f7 he (x:= .tmp 42) (s:=⟨42,iI ((1:Nat):Int),0, .tt⟩) rfl;simp only[Slot.val,G.on]at e1 e2;obtain⟨d,f,zv,ok⟩:=d7 (tk.get (t:=24) rfl);obtain⟨fe,rfl,g1,g2⟩:=ok.slice rfl;simp only[execOp,Option.map_some,Option.map_none,e1,e2,slv,Instr.sliceAt,Instr.slice,Instr.sliceBounds,Instr.sliceBound,asIntOf,Sem.run_bind,Sem.run_pure,Result.andThen_ok,d4 ok.hd,i4 g1,g2]
   by_cases h:c=1
   ·subst h;simp
   ·simp[h,Addr.add_none]
  refine J.qr [1,2,3] λ_=>?_;exact⟨_,a',c',rfl,rfl⟩
theorem b4T (p g c q:Nat) (N:Nand) (hN:N.Ok) (ho:N.ops=3):FP 63 [pp p,pp q] [.pt p 176 [slv (some g) 1 c],c8 34 7 (some g) 1 c (ft 3 4 2 0 0),d8 q N]
  (Ps (iI 1) [.emp, .emp,d8 q (N.fault 4 2 0 0 0 0).2]):=by
 refine FE [2,0] Tryz.func63 λX F hX=>?_;refine J.qp (a5l q N) [3] λ_=>?_;rw[ho];refine J.qc (b4V p g c) [1,2] λ_=>?_;rintro v As ⟨x,a',c',rfl,rfl⟩;refine⟨_,rfl,trivial,?_⟩;refine J.know (λh' s=>f8 (c:=(a',c')) (by decide) (s.get (i:=4) rfl)) λhg=>?_;obtain⟨g',rfl⟩:=hg;refine J.q λ_=>?_;refine J.l (α:=Nat) (λk=>k<=1) (λk=>[si 14 k,si 13 1,sv 12 (slv (some g') 1 c'),sv 5 (slv (some g') 1 c'),sp 1 q]) [3] (λk=>[d8 q (if k=0 then N else(N.fault 4 2 0 0 0 0).2)]) (λk=>1-k) (0) (Nat.zero_le _) λk hI=>?_;rcases(by omega:k=0\/k=1)with rfl | rfl
 ·refine J.qT λ_=>?_;refine J.q λ_=>?_;refine J.v (.agg (ft 3 4 2 0 0).toArray) rfl rfl (λhg a w he hw=>j7 tk rfl rfl he rfl rfl rfl (hw.get (i:=4) rfl) rfl rfl) ?_;refine J.qp (O8 q N hN 3 4 2 0 0 0 0) [3] λ_=>?_;refine J.q λ_=>?_;refine J.n (1) (by omega) (by omega) [0,1,2,3,4]
 ·refine J.qF λ_=>?_;refine J.turn1 [1,2] rfl (As:=[.emp, .emp]) (λh s=>⟨λ_=>0,λi A hA=>by
   match i,hA with
   | 0,hA=>simp at hA;subst hA;trivial
   | 1,hA=>simp at hA;subst hA;trivial
   | k+2,hA=>simp at hA⟩) rfl ?_
  exact J.qx [1,2,3]
def SpS (q:Nat) (l:List (A3×Value)):Atom:=exA λmr:Nat=>[.pt q 367 [.map (some mr)],s7 mr a3v l]
theorem a4Q:Tryz.prog.underlying 365=some (.map 32 9):=by kernel_rfl
def sE:Value:= .string ⟨#[]⟩
theorem b4G (w:World):(zeroValue 9).run Tryz.prog w= .ok sE w:=by kernel_rfl
theorem b4P:FP 304 [] [] (λv As=>∃q,v=pp q/\As=[SpS q []]):=by
 refine FE [] Tryz.func304 λX F hX=>?_;refine J.q λbs=>?_;refine J.turn1 [1] rfl (As:=[s7 (bs 0) a3v ([]:List (A3×Value))]) (λh s=>?_) rfl ?_
 ·refine⟨λ_=>0,λi A hA=>?_⟩;cases i with
  | zero=>simp at hA;subst hA;exact⟨#[],0,res_some.2 ⟨rfl,s.get (i:=0) rfl⟩,rfl,by simp,by simp⟩
  | succ k=>simp at hA
 refine J.cl (λmr:Nat=>[.pt (bs 1) 367 [.map (some mr)],s7 mr a3v ([]:List (A3×Value))]) (bs 0) [2,1] ?_;refine J.qr [2] λ_=>?_;exact⟨bs 1,rfl,rfl⟩
theorem b4Q (q:Nat) (l:List (A3×Value)):FP 309 [pp q] [SpS q l] (Ps (iI (l.length:Int)) [SpS q l]):=by
 refine FE [2] Tryz.func309 λX F hX=>?_;refine J.o (α:=Nat) 1 λmr=>?_;refine J.qF λ_=>?_;refine J.q λ_=>?_;refine J.v (iI (l.length:Int)) rfl rfl (λhg a w he hw=>a0B a4Q rfl rfl he rfl (hw.get (i:=2) rfl)) ?_;refine J.cl (λmr:Nat=>[.pt q 367 [.map (some mr)],s7 mr a3v l]) mr [1,2] ?_;exact J.qx [1]
theorem b3p (q:Nat) (l:List (A3×Value)) (x y z:Int):FP 306 [pp q, .agg #[iI x,iI y,iI z]] [SpS q l]
  (Ps (.tuple #[(p5 l (x,y,z)).getD sE, .bool (p5 l (x,y,z)).isSome]) [SpS q l]):=by
 refine FE [2,0] Tryz.func306 λX F hX=>?_;refine J.o (α:=Nat) 1 λmr=>?_;refine J.qF λ_=>?_;refine J.pq (.of [0,4,8,13,17,21,24,28,32,36,40]) [10] [1,2,3] λ_ _=>?_;refine J.vT (.tuple #[(p5 l (x,y,z)).getD sE, .bool (p5 l (x,y,z)).isSome]) rfl rfl (λ_ a w he hC=>?_) ?_
 ·exact(i7 (key:=(x,y,z)) C9 a4Q (z:=sE) b4G rfl rfl rfl rfl he rfl rfl (hC rfl _ (f0 (i:=2) rfl))).trans rfl
 refine J.cl (λmr:Nat=>[.pt q 367 [.map (some mr)],s7 mr a3v l]) mr [1,2] ?_;exact J.qx [1]
theorem b3o (q:Nat) (l:List (A3×Value)) (x y z:Int) (b:ByteArray):FP 305 [pp q, .agg #[iI x,iI y,iI z], .string b] [SpS q l]
  (Ps (.tuple #[]) [SpS q (H5 l (x,y,z) (.string b))]):=by
 refine FE [2,0,0] Tryz.func305 λX F hX=>?_;refine J.o (α:=Nat) 1 λmr=>?_;refine J.qT λ_=>?_;refine J.pq (.of [0,4,8,13,17,20,27]) [6] [1,2,3] λ_ _=>?_;refine J.mapUpdate hX C9 a4Q (x,y,z) 2 rfl rfl rfl rfl rfl rfl rfl rfl rfl rfl rfl rfl (λ_=>rfl) rfl ⟨trivial,?_⟩;refine J.cl (λmr:Nat=>[.pt q 367 [.map (some mr)],s7 mr a3v (H5 l (x,y,z) (.string b))]) mr [1,2] ?_;refine J.q λ_=>?_;refine J.f [1] ?_;exact⟨rfl,rfl⟩
theorem a8R {l:List (A3×Value)} {k:A3} (h:(p5 l k).isSome=false):W7 l k=l:=by
 refine a0H l k 0 ?_;have:=a2u l k 0;cases hf:fi l k 0 with
 | none=>rfl
 | some x=>rw[hf]at this;rw[<- this]at h;cases h
theorem a9s (q:Nat) (l:List (A3×Value)) (x y z:Int):FP 311 [pp q, .agg #[iI x,iI y,iI z]] [SpS q l]
  (Ps (.bool (p5 l (x,y,z)).isSome) [SpS q (W7 l (x,y,z))]):=by
 refine FE [2,0] Tryz.func311 λX F hX=>?_;refine J.qp (b3p q l x y z) [1] λ_=>?_;refine J.qd (λ_ h=>?_) λ_ h=>?_
 ·refine J.o (α:=Nat) 1 λmr=>?_;refine J.pq (.of [0,4,8,13,17,22]) [] [1,2] λ_ _=>?_;refine J.delete hX C9 a4Q (x,y,z) 3 rfl rfl rfl rfl rfl rfl rfl rfl rfl rfl (λ_=>rfl) rfl ⟨⟨rfl,rfl,trivial⟩,?_⟩;refine J.cl (λmr:Nat=>[.pt q 367 [.map (some mr)],s7 mr a3v (W7 l (x,y,z))]) mr [1,3] ?_;exact J.qx [1]
 ·refine J.qr [1] λ_=>?_;exact⟨rfl,by rw[a8R h];rfl⟩
theorem a6o {l:List (A3×Value)} {is:List Nat} {j:Nat} {y:A3×Value} (hy:l[j]? =some y):g6 (B4 (l.map (·.1)) is)++[iI y.1.1,iI y.1.2.1,iI y.1.2.2]=g6 (B4 (l.map (·.1)) (is++[j])):=by
 simp[g6,B4,hy]
theorem b3q (q:Nat) (l:List (A3×Value)) (hl:l.length<=12):FP 307 [pp q] [SpS q l]
  (λv As=>∃a cap l0 l',l0.Perm (l.map (·.1))/\l'=T4 a0T l0/\v=slv a l'.length cap/\As=[SpS q l,c8 32 3 a l'.length cap (g6 l')]):=by
 refine FE [2] Tryz.func307 λX F hX=>?_;refine J.o (α:=Nat) 1 λmr=>?_;refine J.qF λ_=>?_;refine J.q λ_=>?_;refine J.rangeMap hX 2 a4Q rfl rfl rfl rfl rfl rfl rfl (λ_=>rfl) (λ_=>rfl) λr=>⟨trivial,?_⟩;refine J.turn1 [] rfl (As:=[c8 32 3 none 0 0 (g6 (B4 (l.map (·.1)) []))]) (λh s=>Sep.one ⟨rfl,rfl,rfl⟩) rfl ?_;refine J.q λ_=>?_;refine J.l (α:=(List Nat×Option Nat×Nat)) (λx=>True) (λx=>[sp 11 r,sv 3 (slv x.2.1 x.1.length x.2.2)]) [2,3] (λx=>[itA mr r a3v l x.1,c8 32 3 x.2.1 x.1.length x.2.2 (g6 (B4 (l.map (·.1)) x.1))]) (λx=>l.length-x.1.length) (([],none,0)) (trivial) λx hI=>?_;obtain⟨is,a,cap⟩:=x;dsimp only;refine J.q λ_=>?_;refine J.know (p:=is.Nodup/\∀i∈is,i<l.length) (λh s=>?_) λhk=>?_
 ·obtain⟨_,_,_,_,_,_,_,_,h1,h2,_⟩:=s.get (i:=2) rfl;exact⟨h1,h2⟩
 have hle:=S8 _ _ hk.1 hk.2;refine J.rangeNext hX 2 rfl rfl rfl rfl rfl rfl rfl (λ_=>rfl) (λ_=>rfl) (λhp=>⟨trivial,?_⟩) (λj y hj hy=>⟨trivial,?_⟩)
 ·refine J.qF λ_=>?_;refine J.qp (a1B 276 a0T (by kernel_rfl) a6Z a is.length cap (B4 (l.map (·.1)) is) (by simp[B4]) (by omega)) [3] λ_=>?_;refine J.turn1 [2] rfl (As:=[s7 mr a3v l]) (λh s=>b0G s) rfl ?_;refine J.cl (λmr:Nat=>[.pt q 367 [.map (some mr)],s7 mr a3v l]) mr [1,2] ?_;refine J.qr [1,3] λ_=>?_;have hlen:is.length=(T4 a0T (B4 (l.map (·.1)) is)).length:=by rw[(D3 _ _).length_eq];simp[B4]
  refine⟨a,cap,B4 (l.map (·.1)) is,T4 a0T (B4 (l.map (·.1)) is),a1K (by rw[List.length_map];exact hp),rfl,?_,?_⟩
  ·rw[<- hlen]
  ·rw[<- hlen];rfl
 ·have hjl:j<l.length:=(List.getElem?_eq_some_iff.1 hy).1;refine J.qT λ_=>?_;refine J.q λ_=>?_;have hlt:(is++[j]).length<=l.length:=S8 _ _ (by
   rw[List.nodup_append];exact⟨hk.1,by simp,λa ha b hb=>by simp at hb;subst hb;rintro rfl;exact hj ha⟩) (λi hi=>by
   rw[List.mem_append]at hi;rcases hi with hi | hi
   ·exact hk.2 i hi
   ·simp at hi;subst hi;exact hjl)
  rw[List.length_append,List.length_singleton]at hlt;refine J.rangeEntry hX 2 rfl rfl rfl rfl rfl rfl rfl hy rfl ⟨trivial,?_⟩;refine J.q λ_=>?_;refine J.append hX tk 3 5 0 rfl rfl rfl rfl rfl rfl rfl rfl rfl rfl rfl rfl rfl rfl rfl rfl ?_ ?_ (λ_=>rfl) λa' cap'=>⟨_,(congrArg (λz=>r8 _ 3 (c8 _ _ _ _ _ z)) (a6o hy)).trans rfl,trivial,?_⟩
  ·simp only[maxLen];omega
  ·omega
  refine J.q λ_=>?_;rw[show is.length+1=(is++[j]).length from by simp];refine J.q λ_=>?_;refine J.n ((is++[j],a',cap')) (trivial) (by dsimp only;rw[List.length_append,List.length_singleton];omega) [0,1,2,3]
theorem a9t (b4 b5:Nat) (die blk:Int) (x:A3):FP 315 (H6 x::[pp b4,pp b5]) [.pt b4 3 [iI die], .pt b5 3 [iI blk]]
  (Ps (.bool ((x.1 !=die)||(x.2.1 !=blk))) [.pt b4 3 [iI die], .pt b5 3 [iI blk]]):=by
 refine FE [0,2,3] Tryz.func315 λX F hX=>?_;exact J.qx [1,2]
theorem b2a (q:Nat) (l:List (A3×Value)) (hl:l.length<=12) (die blk:Int):FP 310 [pp q,iI die,iI blk] [SpS q l]
  (λv As=>∃a cap l',l'.Perm ((l.map (·.1)).filter λx=>!((x.1 !=die)||(x.2.1 !=blk)))/\v=slv a l'.length cap/\As=[SpS q l,c8 32 3 a l'.length cap (g6 l')]):=by
 refine FE [2,0,0] Tryz.func310 λX F hX=>?_;refine J.q λbb=>?_;refine J.cb (b3q q l hl) [1] ?_;rintro v As ⟨a,cap,l0,l',hp0,hl',rfl,rfl⟩;refine⟨_,rfl,trivial,?_⟩;have hp:l'.Perm (l.map (·.1)):=by rw[hl'];exact(D3 _ _).trans hp0
 refine J.q λ_=>?_;refine J.turn1 [2,3] rfl (As:=[.hp (HP.of [.pt (bb 0) 3 [iI die], .pt (bb 1) 3 [iI blk]])]) (λh s=>Sep.hpOf.2 s) rfl ?_;refine J.q λ_=>?_;refine J.ca hX (by kernel_rfl) (a4J 315 [pp (bb 0),pp (bb 1)] (λx=>(x.1 !=die)||(x.2.1 !=blk)) _ (by kernel_rfl) (λx=>Fn.pack (a9t (bb 0) (bb 1) die blk x)) a l'.length cap l' rfl (by rw[hp.length_eq,List.length_map];omega)) [4,2] 0 rfl rfl rfl rfl rfl rfl (λ_=>rfl) ?_;rintro v As ⟨l2,rfl,rfl,rfl⟩;refine⟨_,rfl,trivial,?_⟩;refine J.qr [1,4] λ_=>?_;exact⟨a,cap,_,hp.filter _,rfl,rfl⟩
section
variable {KK : Type} [DecidableEq KK]
def W6 (l:List (KK×Value)) (k:KK) (z:Value):List (KK×Value):=match fi l k 0 with
 | none=>l++[(k,z)]
 | some _=>l
def b2Z (r:Nat) (kv:KK->Value) (l:List (KK×Value)) (key:KK) (st:Int) (h:Hl):Prop:=
 ∃es clock,h r=some (.map es clock)/\es.toList.map (λe=>(e.key,e.val))=l.map (λx=>(kv x.1,x.2))/\(es.toList.map (·.born)).Nodup/\(∀e∈es.toList,e.born<clock)/\
  ∃(j:Nat) (e0:MapEntry) (u:Value),es.toList[j]? =some e0/\e0.key=kv key/\(e0.born:Int)=st/\fi l key 0=some (j,u)
def b4p (r:Nat) (kv:KK->Value) (l:List (KK×Value)) (key:KK) (st:Int):Atom:= .hp ⟨b2Z r kv l key st,λ_ _ l ⟨es,c,h1,h2⟩=>⟨es,c,l _ _ h1,h2⟩⟩
theorem b1h (k:KK):∀(l:List (KK×Value)) i j u,fi l k i=some (j,u)->(l[j-i]?).map (·.1)=some k/\i<=j
 | [],i,j,u,h=>by cases h
 | x::l,i,j,u,h=>by
  unfold fi at h;split at h
  ·rename_i hh;injection h with h;injection h with e1 _;subst e1;simp[hh]
  ·have hl2:=a2i _ _ _ _ _ h;have:=b1h k l _ _ _ h;refine⟨?_,by omega⟩;rw[show j-i=(j-(i+1))+1 from by omega,List.getElem?_cons_succ];exact this.1
theorem b1i (k:KK) (z:Value):∀(l:List (KK×Value)) i,fi l k i=none->fi (l++[(k,z)]) k i=some (i+l.length,z)
 | [],i,_=>by simp[fi]
 | x::l,i,h=>by
  unfold fi at h;split at h
  ·cases h
  ·rename_i hh;rw[List.cons_append,fi,if_neg hh,b1i k z l _ h,List.length_cons];congr 2;omega
variable {P : Program} {kv : KK → Value}
theorem a1E {MT T E:TypeId} (hk:KeyOk P T kv) (hm:P.underlying MT=some (.map T E)) {z:Value} (hz:∀w,(zeroValue E).run P w= .ok z w) {w:World} {r:Nat} {l:List (KK×Value)} (h:a6y r kv l (hl w)) (k:KK):
  ∃w' st,(Instr.mapEntry MT (.map (some r)) (kv k)).run P w= .ok (.tuple #[(p5 l k).getD z,goInt st]) w'/\b2Z r kv (W6 l k z) k st (hl w')/\w.grownBy w' (some r):=by
 obtain⟨es,clock,h1,h2,h3,h4⟩:=h;have hf:=H8 hk k w es.toList l h2;have hr:r<w.heap.size:=(Array.getElem?_eq_some_iff.1 h1).1;have hlen:es.toList.length=l.length:=by have:=congrArg List.length h2;simpa using this
 have ha:=a2u l k 0;unfold Instr.mapEntry;simp only[Sem.run_bind,run_underlying hm,Result.andThen_ok,rgo h1,hk.check,hf];cases hfi:fi l k 0 with
 | none=>
  rw[hfi]at ha;have he:W6 l k z=l++[(k,z)]:=by rw[W6,hfi]
  refine⟨World.putObj' w r (.map (es.push {key:=kv k,val:=z,born:=clock}) (clock+1)),clock,?_,⟨es.push {key:=kv k,val:=z,born:=clock},clock+1,?_,?_,?_,?_,es.size,{key:=kv k,val:=z,born:=clock},z,?_,rfl,rfl,?_⟩,v6 _ _ _⟩
  ·simp only[Sem.run_bind,hz,Result.andThen_ok,rso _ h1,Sem.run_pure,<- ha,Option.map_none,Option.getD_none];rfl
  ·simp[hl,World.putObj',hr]
  ·rw[he];simp[h2]
  ·simp only[Array.toList_push,List.map_append,List.map_cons,List.map_nil];rw[List.nodup_append];refine⟨h3,by simp,?_⟩;intro a ha b hb;simp at hb;obtain⟨e,he,rfl⟩:=List.mem_map.1 ha;have:=h4 e he;omega
  ·intro e he;simp at he;rcases he with he | rfl
   ·have:=h4 e (by simpa using he);omega
   ·simp
  ·simp
  ·rw[he,b1i k z l 0 hfi,<- hlen];simp
 | some x=>
  obtain⟨j,u⟩:=x;rw[hfi]at ha;have he:W6 l k z=l:=by rw[W6,hfi]
  have hl2:=a2i _ _ _ _ _ hfi;obtain⟨e0,he0⟩:∃e0,es.toList[j]? =some e0:=⟨_,List.getElem?_eq_getElem (by omega)⟩;have he1:es[j]? =some e0:=by simpa using he0
  have hkey:e0.key=kv k:=by
   have h5:=(b1h k l 0 j u hfi).1;rw[Nat.sub_zero]at h5;have hx:(es.toList.map (λe=>(e.key,e.val)))[j]? =(l.map (λx=>(kv x.1,x.2)))[j]?:=by rw[h2]
   rw[List.getElem?_map,List.getElem?_map,he0]at hx;cases hlj:l[j]? with
   | none=>rw[hlj]at hx;simp at hx
   | some y=>
    rw[hlj]at hx h5;simp only[Option.map_some,Option.some.injEq,Prod.mk.injEq]at hx h5;rw[hx.1,h5]
  have hmod:es.modify j (λe=>{e with key:=kv k})=es:=by
   apply Array.toList_inj.1;rw[Array.toList_modify];apply List.ext_getElem?;intro i;rw[List.getElem?_modify]
   by_cases hij:j=i
   ·subst hij;rw[he0];simp only[Option.map_eq_map,Option.map_some,if_true,<- hkey]
   ·simp[hij]
  refine⟨World.putObj' w r (.map (es.modify j λe=>{e with key:=kv k}) clock),e0.born,?_,⟨es,clock,?_,?_,h3,h4,j,e0,u,he0,hkey,rfl,?_⟩,v6 _ _ _⟩
  ·simp only[he1,Option.map_some,Option.getD_some,hkey,Instr.keyThatStays,hk.bits,if_true,Sem.run_bind,Sem.run_pure,Result.andThen_ok,rso _ h1,<- ha];rfl
  ·rw[hmod];simp[hl,World.putObj',hr]
  ·rw[he];exact h2
  ·rw[he];exact hfi
theorem a0f {MT:TypeId} {w:World} {r:Nat} {l:List (KK×Value)} {key:KK} {st:Int} (h:b2Z r kv l key st (hl w)) (v:Value):
  ∃w',(Instr.entryStore MT (.map (some r)) (goInt st) v).run P w= .ok () w'/\a6y r kv (H5 l key v) (hl w')/\w.grownBy w' (some r):=by
 obtain⟨es,clock,h1,h2,h3,h4,j,e0,u,he0,hkey,hst,hfi⟩:=h;have hr:r<w.heap.size:=(Array.getElem?_eq_some_iff.1 h1).1;have hmp:=W1 es.toList l key v 0 j u h2 hfi;rw[Nat.sub_zero]at hmp;have hmod:es.modify j (λe=>{e with val:=v})=es.modify j (λe=>{e with key:=kv key,val:=v}):=by
  apply Array.toList_inj.1;rw[Array.toList_modify,Array.toList_modify];apply List.ext_getElem?;intro i;rw[List.getElem?_modify,List.getElem?_modify]
  by_cases hij:j=i
  ·subst hij;rw[he0];simp only[Option.map_eq_map,Option.map_some,if_true,<- hkey]
  ·simp[hij]
 have hidx:es.findIdx? (λe=>((e.born:Nat):Int)==st)=some j:=by
  rw[Go.WideElems.findIdx_arr,<- hst];exact Go.WideElems.findIdx_born h3 he0
 refine⟨World.putObj' w r (.map (es.modify j λe=>{e with val:=v}) clock),?_,⟨es.modify j λe=>{e with val:=v},clock,?_,?_,?_,?_⟩,v6 _ _ _⟩
 ·simp only[Instr.entryStore,Sem.run_bind,rgo h1,Result.andThen_ok,goInt,asInt,asIntOf,Sem.run_pure,hidx,rso _ h1];rfl
 ·simp[hl,World.putObj',hr]
 ·rw[hmod,Array.toList_modify];exact hmp.1
 ·rw[hmod,Array.toList_modify,hmp.2];exact h3
 ·intro e he;have:e.born∈(es.modify j λe=>{e with val:=v}).toList.map (·.born):=List.mem_map_of_mem he;rw[hmod,Array.toList_modify,hmp.2]at this;obtain⟨e',he',hb⟩:=List.mem_map.1 this;have:=h4 e' he';omega
end
section
variable {X : Cx} {P : Program} {K : List KI} {E : Env} {L : List Atom} {N : Nat} {F : HP} {Post : Value → List Atom → Prop} {rs : List ResultVar} {KK : Type} [DecidableEq KK] {kv : KK → Value}
theorem J.mapEntry (hX:IsCx X P rs N F Post) {KT MT ET:TypeId} (hk:KeyOk P KT kv) (hm:P.underlying MT=some (.map KT ET)) {z:Value} (hz:∀w,(zeroValue ET).run P w= .ok z w) {ops:Array Oper} {C:Cl} {lt:Bool} {i:Nat} {t:PT} {o:Oper} {g:G} {x y:Operand} {r:Nat} {l:List (KK×Value)} (key:KK) {k1 k2 t1 t2:Nat} {g1 g2:G} {kvv:Value} {E':Value->Env} (im:Nat)
  (ho:j5 ops.toList i=some o) (hg:gd ops.toList E o=some g) (hgo:g.on=true) (hop:o.op= .mapEntry MT x y) (hx:ev E x=some ⟨k1, .map (some r),t1,g1⟩) (v1:g1.on=true) (hy:ev E y=some ⟨k2,kvv,t2,g2⟩) (v2:g2.on=true) (hkv:kvv=kv key)
  (hL:j5 L im=some (s7 r kv l)) (hd:∀v,u9 N o.dst v 0 .tt E=some (E' v)) {L2:Int->List Atom} (hL2:∀st,r8 L im (b4p r kv (W6 l key z) key st)=some (L2 st)) (hJ:∀st,Conj (l4 lt C (L2 st))/\J X (.reg ops C t::K) (E' (.tuple #[(p5 l key).getD z, .int .i64 st])) (L2 st)):J X (.reg ops C (.alt lt i t .non)::K) E L:=by
 refine J.op hX (S:=λv' L'=>∃st,v'= .tuple #[(p5 l key).getD z, .int .i64 st]/\L'=L.set im (b4p r kv (W6 l key z) key st)) 0 ho hg hgo (λa0 w hen hs=>?_) hd (λv L' ⟨st,e1,e2⟩=>by subst e1;subst e2;rw[<- r7 (hL2 st)];exact hJ st);rw[j4]at hL;have ex:=f7 hen hx;have ey:=f7 hen hy;simp only[Slot.val,v1,v2]at ex ey;rw[hkv]at ey;have hmap:a6y r kv l (hl w):=hs.get hL;obtain⟨w',st,r1,r2,r3⟩:=a1E (P:=P) hk hm hz hmap key;refine⟨_,_, .value _,w',⟨st,rfl,rfl⟩,by simp only[execOp,hop,ex,ey,Sem.run_bind,r1,Result.andThen_ok,Sem.run_pure];rfl, .inl rfl,?_,Ext.grown r3⟩;exact Sep.step hs hL (x:=some r) (x':=some r) (λh g ⟨es,c,h1,_⟩ e=>by injection e with e;subst e;exact⟨_,h1⟩) r3 (.inl rfl) (λh hh=>by
  obtain⟨es,c,h1,h2⟩:=r2;exact⟨es,c,(hh r rfl).trans h1,h2⟩)
theorem J.entryStore (hX:IsCx X P rs N F Post) {MT:TypeId} {ops:Array Oper} {C:Cl} {lt:Bool} {i:Nat} {t:PT} {o:Oper} {g:G} {x y u:Operand} {r:Nat} {l:List (KK×Value)} {key:KK} {st:Int} {k1 k2 k3 t1 t2 t3:Nat} {g1 g2 g3:G} {v:Value} {E':Value->Env} (im:Nat)
  (ho:j5 ops.toList i=some o) (hg:gd ops.toList E o=some g) (hgo:g.on=true) (hop:o.op= .entryStore MT x y u) (hx:ev E x=some ⟨k1, .map (some r),t1,g1⟩) (v1:g1.on=true) (hy:ev E y=some ⟨k2, .int .i64 st,t2,g2⟩) (v2:g2.on=true) (hu:ev E u=some ⟨k3,v,t3,g3⟩) (v3:g3.on=true)
  (hL:j5 L im=some (b4p r kv l key st)) (hd:∀v,u9 N o.dst v 0 .tt E=some (E' v)) {L2:List Atom} (hL2:r8 L im (s7 r kv (H5 l key v))=some L2) (hJ:Conj (l4 lt C L2)/\J X (.reg ops C t::K) (E' undef) L2):J X (.reg ops C (.alt lt i t .non)::K) E L:=by
 refine J.op hX (S:=λv' L'=>v'=undef/\L'=L.set im (s7 r kv (H5 l key v))) 0 ho hg hgo (λa0 w hen hs=>?_) hd (λv L' ⟨e1,e2⟩=>by subst e1;subst e2;rw[<- r7 hL2];exact hJ);rw[j4]at hL;have ex:=f7 hen hx;have ey:=f7 hen hy;have eu:=f7 hen hu;simp only[Slot.val,v1,v2,v3]at ex ey eu;have hent:b2Z r kv l key st (hl w):=hs.get hL;obtain⟨w',r1,r2,r3⟩:=a0f (P:=P) (MT:=MT) hent v;refine⟨undef,_, .skip,w',⟨rfl,rfl⟩,by simp only[execOp,hop,ex,ey,eu,Sem.run_bind];rw[show(Value.int IntKind.i64 st)=goInt st from rfl,r1];rfl, .inr ⟨rfl,rfl⟩,?_,Ext.grown r3⟩;exact Sep.step hs hL (x:=some r) (x':=some r) (λh g ⟨es,c,h1,_⟩ e=>by injection e with e;subst e;exact⟨_,h1⟩) r3 (.inl rfl) (λh hh=>by
  obtain⟨es,c,h1,h2⟩:=r2;exact⟨es,c,(hh r rfl).trans h1,h2⟩)
end
abbrev Pg:={l:List UInt8//l.length=32}
def pgk (p:Pg):Value:=pgV p.1
theorem a3r:KeyOk Tryz.prog 106 pgk where
 now:=⟨_,Tryz.underlying106,λ_ _=> .inl rfl⟩
 eq:=λa b w=>by
  have:=x7 100 106 _ a2a 10000 (by omega) (p9 a.1) (p9 b.1) (a0o a.1) (a0o b.1) w;rw[b4o _ _ a.2 b.2,b2A,b2A]at this;have e:decide (a.1=b.1)=decide (a=b):=by
   by_cases h:a=b
   ·simp[h]
   ·have:¬a.1=b.1:=λe=>h (Subtype.ext e);simp[h,this]
  rw[<- e];exact this
 check:=λe a w=>by kernel_rfl
 bits:=λa=>by simp[pgk,p9,byC,bv,Instr.sameBits]
theorem a2R:Tryz.prog.underlying 368=some (.map 106 74):=by kernel_rfl
theorem a2M (w:World):(zeroValue 74).run Tryz.prog w= .ok (.slice none 0 0) w:=by kernel_rfl
def p1:Pg:=⟨[1,0,0,0,0,0,0,0,0,0,0,0,0,0,0,0,0,0,0,0,0,0,0,0,0,0,0,0,0,0,0,0],rfl⟩
def p2:Pg:=⟨[2,0,0,0,0,0,0,0,0,0,0,0,0,0,0,0,0,0,0,0,0,0,0,0,0,0,0,0,0,0,0,0],rfl⟩
def pg3:List Value:=p9 p1.1++(p9 p2.1++p9 p1.1)
def twL (k:Nat) (a b:Option Nat×Nat):List (Pg×Value):=match k with
 | 0=>[]
 | 1=>[(p1,slv a.1 1 a.2)]
 | 2=>[(p1,slv a.1 1 a.2),(p2,slv b.1 1 b.2)]
 | _=>[(p1,slv a.1 2 a.2),(p2,slv b.1 1 b.2)]
def twN (k:Nat):Nat:=match k with | 0=>0 | 1=>1 | 2=>1 | _=>2
def twM (k:Nat):Nat:=match k with | 0=>0 | 1=>0 | _=>1
def twA (k:Nat):List Value:=match k with | 0=>[] | 1=>[iI 0] | 2=>[iI 0] | _=>[iI 0,iI 2]
def twB (k:Nat):List Value:=match k with | 0=>[] | 1=>[] | _=>[iI 1]
def twO (k:Nat) (ga ca:Nat):List Value:=match k with | 0=>[] | _=>[slv (some ga) 2 ca]
theorem b1I (g:Nat):FP 308 [.slice (some ⟨g,0,none⟩) 3 3] [.pt g 106 pg3]
  (λv As=>∃o co a ca,v=slv o 1 co/\As=[c8 74 1 o 1 co [slv a 2 ca],c8 3 1 a 2 ca [iI 0,iI 2]]):=by
 refine FE [2] Tryz.func308 λX F hX=>?_;refine J.q λmm=>?_;refine J.turn1 [2] rfl (As:=[s7 (mm 0) pgk (twL 0 (none,0) (none,0)),c8 3 1 none 0 0 [],c8 3 1 none 0 0 []]) (λh s=>⟨λ_=>0,λi A hA=>by
  match i,hA with
  | 0,hA=>simp at hA;subst hA;exact⟨#[],0,res_some.2 ⟨rfl,s.get (i:=0) rfl⟩,rfl,by simp,by simp⟩
  | 1,hA=>simp at hA;subst hA;exact⟨rfl,rfl,rfl⟩
  | 2,hA=>simp at hA;subst hA;exact⟨rfl,rfl,rfl⟩
  | k+3,hA=>simp at hA⟩) rfl ?_
 refine J.q λ_=>?_;refine J.l (α:=(Nat×(Option Nat×Nat)×(Option Nat×Nat))) (λz=>z.1<=3/\(z.1=0->∀g,z.2.1.1≠some g)/\(z.1<=1->∀g,z.2.2.1≠some g)) (λz=>[si 13 z.1,si 12 3,⟨11, .slice (some ⟨g,0,none⟩) 3 3,2, .tt⟩,⟨0, .slice (some ⟨g,0,none⟩) 3 3,2, .tt⟩,⟨3, .map (some (mm 0)),3, .tt⟩]) [2,3,4] (λz=>[s7 (mm 0) pgk (twL z.1 z.2.1 z.2.2),c8 3 1 z.2.1.1 (twN z.1) z.2.1.2 (twA z.1),c8 3 1 z.2.2.1 (twM z.1) z.2.2.2 (twB z.1)]) (λz=>3-z.1) ((0,(none,0),(none,0))) (⟨by omega,by simp,by simp⟩) λz hI=>?_;obtain⟨k,⟨a,ca⟩,⟨b,cb⟩⟩:=z;dsimp only at hI ⊢;obtain⟨hI0,hI⟩:=hI;rcases(by omega:k=0\/k=1\/k=2\/k=3)with rfl | rfl | rfl | rfl
 ·--0
  refine J.qT λ_=>?_;obtain rfl:a=none:=by cases a with
   | none=>rfl
   | some g=>exact absurd rfl (hI.1 rfl g)
  refine J.know (p:=ca=0) (λh' s=>(s.get (i:=3) rfl).2.2) λhg=>?_;subst hg;refine J.q λ_=>?_;refine J.v (pgk p1) rfl rfl (λhg a w he hw=>i5 tk rfl rfl he rfl rfl rfl (hw.get (i:=1) rfl) rfl rfl) ?_;refine J.q λ_=>?_;refine J.mapEntry hX a3r a2R a2M p1 2 rfl rfl rfl rfl rfl rfl rfl rfl rfl rfl (λ_=>rfl) (λ_=>rfl) λst=>⟨trivial,?_⟩;refine J.q λ_=>?_;refine J.append hX tk (a:=none) (n:=0) (cap:=0) 3 6 0 rfl rfl rfl rfl rfl rfl rfl rfl rfl rfl rfl rfl rfl rfl rfl rfl (by decide) (by decide) (λ_=>rfl) λa2 c2=>⟨_,rfl,trivial,?_⟩;refine J.q λ_=>?_;refine J.entryStore hX 2 rfl rfl rfl rfl rfl rfl rfl rfl rfl rfl rfl (λ_=>rfl) rfl ⟨trivial,?_⟩;refine J.q λ_=>?_;refine J.n ((1,(a2,c2),(b,cb))) (⟨by dsimp only;omega,by simp,λ_=>hI.2 (by omega)⟩) (by dsimp only;omega) [0,1,2,3,4]
 ·--1
  refine J.qT λ_=>?_;obtain rfl:b=none:=by cases b with
   | none=>rfl
   | some g=>exact absurd rfl (hI.2 (by omega) g)
  refine J.know (p:=cb=0) (λh' s=>(s.get (i:=4) rfl).2.2) λhg=>?_;subst hg;refine J.q λ_=>?_;refine J.v (pgk p2) rfl rfl (λhg a w he hw=>i5 tk rfl rfl he rfl rfl rfl (hw.get (i:=1) rfl) rfl rfl) ?_;refine J.q λ_=>?_;refine J.mapEntry hX a3r a2R a2M p2 2 rfl rfl rfl rfl rfl rfl rfl rfl rfl rfl (λ_=>rfl) (λ_=>rfl) λst=>⟨trivial,?_⟩;refine J.q λ_=>?_;refine J.append hX tk (a:=none) (n:=0) (cap:=0) 4 6 0 rfl rfl rfl rfl rfl rfl rfl rfl rfl rfl rfl rfl rfl rfl rfl rfl (by decide) (by decide) (λ_=>rfl) λa2 c2=>⟨_,rfl,trivial,?_⟩;refine J.q λ_=>?_;refine J.entryStore hX 2 rfl rfl rfl rfl rfl rfl rfl rfl rfl rfl rfl (λ_=>rfl) rfl ⟨trivial,?_⟩;refine J.q λ_=>?_;refine J.n ((2,(a,ca),(a2,c2))) (⟨by dsimp only;omega,by simp,by simp⟩) (by dsimp only;omega) [0,1,2,3,4]
 ·--2
  refine J.qT λ_=>?_;refine J.know (λh' s=>f8 (c:=(a,ca)) (by decide) (s.get (i:=3) rfl)) λhg=>?_;obtain⟨ga,rfl⟩:=hg;refine J.q λ_=>?_;refine J.v (pgk p1) rfl rfl (λhg a w he hw=>i5 tk rfl rfl he rfl rfl rfl (hw.get (i:=1) rfl) rfl rfl) ?_;refine J.q λ_=>?_;refine J.mapEntry hX a3r a2R a2M p1 2 rfl rfl rfl rfl rfl rfl rfl rfl rfl rfl (λ_=>rfl) (λ_=>rfl) λst=>⟨trivial,?_⟩;refine J.q λ_=>?_;refine J.append hX tk (a:=(some ga)) (n:=1) (cap:=ca) 3 6 0 rfl rfl rfl rfl rfl rfl rfl rfl rfl rfl rfl rfl rfl rfl rfl rfl (by decide) (by decide) (λ_=>rfl) λa2 c2=>⟨_,rfl,trivial,?_⟩;refine J.q λ_=>?_;refine J.entryStore hX 2 rfl rfl rfl rfl rfl rfl rfl rfl rfl rfl rfl (λ_=>rfl) rfl ⟨trivial,?_⟩;refine J.q λ_=>?_;refine J.n ((3,(a2,c2),(b,cb))) (⟨by dsimp only;omega,by simp,by simp⟩) (by dsimp only;omega) [0,1,2,3,4]
 ·refine J.qF λ_=>?_;refine J.know (λh' s=>f8 (c:=(a,ca)) (by decide) (s.get (i:=3) rfl)) λhg=>?_;obtain⟨ga,rfl⟩:=hg;refine J.know (λh' s=>f8 (c:=(b,cb)) (by decide) (s.get (i:=4) rfl)) λhg=>?_;obtain⟨gb,rfl⟩:=hg;refine J.turn1 [] rfl (As:=[c8 74 1 none 0 0 []]) (λh s=>Sep.one ⟨rfl,rfl,rfl⟩) rfl ?_;refine J.q λ_=>?_;refine J.l (α:=(Nat×Option Nat×Nat)) (λz=>z.1<=3/\(z.1=0->∀g,z.2.1≠some g)) (λz=>[si 29 z.1,si 28 3,⟨27, .slice (some ⟨g,0,none⟩) 3 3,2, .tt⟩,⟨3, .map (some (mm 0)),3, .tt⟩,⟨6,slv z.2.1 (twM (z.1+1)) z.2.2,0, .tt⟩]) [5] (λz=>[c8 74 1 z.2.1 (twM (z.1+1)) z.2.2 (twO z.1 ga ca)]) (λz=>3-z.1) ((0,none,0)) (⟨by omega,by simp⟩) λz hI=>?_;obtain⟨k,o,co⟩:=z;dsimp only at hI ⊢;obtain⟨hI0,hJ⟩:=hI;rcases(by omega:k=0\/k=1\/k=2\/k=3)with rfl | rfl | rfl | rfl
  ·refine J.qT λ_=>?_;refine J.q λ_=>?_;refine J.v (pgk p1) rfl rfl (λhg a w he hw=>i5 tk rfl rfl he rfl rfl rfl (hw.get (i:=1) rfl) rfl rfl) ?_;refine J.q λ_=>?_;refine J.v (slv (some ga) 2 ca) rfl rfl (λhg a w he hw=>?_) ?_
   ·exact(i7 (key:=p1) a3r a2R (z:= .slice none 0 0) a2M rfl rfl rfl rfl he rfl rfl (hw.get (i:=2) rfl)).trans rfl
   refine J.q λ_=>?_;refine J.v (iI 0) rfl rfl (λhg a w he hw=>i6 tk rfl rfl he rfl rfl rfl (hw.get (i:=3) rfl) rfl) ?_;refine J.qT λ_=>?_;obtain rfl:o=none:=by cases o with
    | none=>rfl
    | some g=>exact absurd rfl (hJ rfl g)
   refine J.know (p:=co=0) (λh' s=>(s.get (i:=5) rfl).2.2) λhg=>?_;subst hg;refine J.q λ_=>?_;refine J.append hX tk (a:=none) (n:=0) (cap:=0) 5 7 0 rfl rfl rfl rfl rfl rfl rfl rfl rfl rfl rfl rfl rfl rfl rfl rfl (by decide) (by decide) (λ_=>rfl) λo2 c2=>⟨_,rfl,trivial,?_⟩;refine J.q λ_=>?_;refine J.n ((1,o2,c2)) (⟨by dsimp only;omega,by simp⟩) (by dsimp only;omega) [0,1,2,3,4,5]
  ·refine J.qT λ_=>?_;refine J.q λ_=>?_;refine J.v (pgk p2) rfl rfl (λhg a w he hw=>i5 tk rfl rfl he rfl rfl rfl (hw.get (i:=1) rfl) rfl rfl) ?_;refine J.q λ_=>?_;refine J.v (slv (some gb) 1 cb) rfl rfl (λhg a w he hw=>?_) ?_
   ·exact(i7 (key:=p2) a3r a2R (z:= .slice none 0 0) a2M rfl rfl rfl rfl he rfl rfl (hw.get (i:=2) rfl)).trans rfl
   refine J.q λ_=>?_;refine J.v (iI 1) rfl rfl (λhg a w he hw=>i6 tk rfl rfl he rfl rfl rfl (hw.get (i:=4) rfl) rfl) ?_;refine J.qF λ_=>?_;refine J.q λ_=>?_;refine J.n ((2,o,co)) (⟨by dsimp only;omega,by simp⟩) (by dsimp only;omega) [0,1,2,3,4,5]
  ·refine J.qT λ_=>?_;refine J.q λ_=>?_;refine J.v (pgk p1) rfl rfl (λhg a w he hw=>i5 tk rfl rfl he rfl rfl rfl (hw.get (i:=1) rfl) rfl rfl) ?_;refine J.q λ_=>?_;refine J.v (slv (some ga) 2 ca) rfl rfl (λhg a w he hw=>?_) ?_
   ·exact(i7 (key:=p1) a3r a2R (z:= .slice none 0 0) a2M rfl rfl rfl rfl he rfl rfl (hw.get (i:=2) rfl)).trans rfl
   refine J.q λ_=>?_;refine J.v (iI 0) rfl rfl (λhg a w he hw=>i6 tk rfl rfl he rfl rfl rfl (hw.get (i:=3) rfl) rfl) ?_;refine J.qF λ_=>?_;refine J.q λ_=>?_;refine J.n ((3,o,co)) (⟨by dsimp only;omega,by simp⟩) (by dsimp only;omega) [0,1,2,3,4,5]
  ·refine J.qF λ_=>?_;refine J.qr [5,3] λ_=>?_;exact⟨o,co,some ga,ca,rfl,rfl⟩
theorem b4W {α:Type} {l:List α} {a b:α} (h:l.Perm [a,b]):l=[a,b]\/l=[b,a]:=by
 match l,h.length_eq,h with
 | [x,y],_,h=>
  have hx:=(h.mem_iff (a:=x)).1 (by simp);simp only[List.mem_cons,List.not_mem_nil,or_false]at hx;rcases hx with rfl | rfl
  ·left;have:=(List.perm_cons x).1 h;rw[List.perm_singleton.1 this]
  ·right;have:=(List.perm_cons x).1 (h.trans (List.Perm.swap x a []));rw[List.perm_singleton.1 this]
theorem b2c (a:ByteArray) (w:World) (o1 o2:Operand):(do eqGuard .eql 9 o1 o2 (.string a) (.string a);binOp .eql 9 (.string a) (.string a):Sem Value).run Tryz.prog w= .ok (.bool true) w:=by
 have hu:Tryz.prog.underlying 9=some .string:=by kernel_rfl
 simp[eqGuard,binOp,Op.stringOp,a2k,Op.equalIn,d4 hu]
theorem a7P {E:Env} {n:Nat} {a:Act} {w:World} {o:Oper} {x y:Operand} {k1 k2 u1 u2 t2:Nat} {g1 g2:G} {s1:ByteArray} (hop:o.op= .binOp .eql 9 x y t2) (hx:ev E x=some ⟨k1, .string s1,u1,g1⟩) (hy:ev E y=some ⟨k2, .string s1,u2,g2⟩) (he:EnvOK n E a) (v1:g1.on=true) (v2:g2.on=true):
  (execOp a.eval o).run Tryz.prog w= .ok (.value (.bool true)) w:=by
 have ex:=f7 he hx;have ey:=f7 he hy;simp only[Slot.val,v1,v2]at ex ey;have h:=b2c s1 w x y;simp only[execOp,hop,ex,ey];simp only[Sem.run_bind]at h ⊢;rw[h];rfl
def sX:Value:= .string ⟨#[120]⟩
def sY:Value:= .string ⟨#[121]⟩
def sL:List (A3×Value):=[((1,2,3),sX),((0,9,9),sY)]
theorem b2e {l:List A3} (h:l.Perm [((1:Int),(2:Int),(3:Int)),(0,9,9)]):T4 a0T l=[(0,9,9),(1,2,3)]:=by
 rcases b4W h with rfl | rfl<;>decide
theorem b0z:FP 299 [] [] (Ps (.bool true) []):=by
 refine FE [] Tryz.func299 λX F hX=>?_;refine J.qc (b4P) [] λ_=>?_;rintro v As ⟨q,rfl,rfl⟩;refine⟨_,rfl,trivial,?_⟩;refine J.qF λ_=>?_;refine J.qp (b3o q [] 1 2 3 ⟨#[120]⟩) [1] λ_=>?_;refine J.qp (b3o q [((1,2,3),sX)] 0 9 9 ⟨#[121]⟩) [1] λ_=>?_;refine J.qp (b3p q sL 1 2 3) [1] λ_=>?_;rw[show(p5 sL (1,2,3)).getD sE=sX from rfl,show(p5 sL (1,2,3)).isSome=true from rfl];refine J.qc (b3q q sL (by decide)) [1] λ_=>?_;rintro v As ⟨a,cap,l0,l',hp,hl',rfl,rfl⟩;refine⟨_,rfl,trivial,?_⟩;obtain rfl:l'=[(0,9,9),(1,2,3)]:=hl'.trans (b2e hp);refine J.know (λh' s=>f8 (c:=(a,cap)) (by decide) (s.get (i:=2) rfl)) λhg=>?_;obtain⟨ga,rfl⟩:=hg;refine J.q λbp=>?_;refine J.cb (b1I (bp 0)) [3] ?_;rintro v As ⟨o,co,a2,c2,rfl,rfl⟩;refine⟨_,rfl,trivial,?_⟩;refine J.know (λh' s=>f8 (c:=(o,co)) (by decide) (s.get (i:=3) rfl)) λhg=>?_;obtain⟨go,rfl⟩:=hg;refine J.know (λh' s=>f8 (c:=(a2,c2)) (by decide) (s.get (i:=4) rfl)) λhg=>?_;obtain⟨g2,rfl⟩:=hg;refine J.q λ_=>?_;refine J.v (.bool true) rfl rfl (λhg a w he hw=>(a7P rfl rfl rfl he rfl rfl).trans rfl) ?_;refine J.qp (b4Q q sL) [1] λ_=>?_;refine J.q λ_=>?_;refine J.v (iI 0) rfl rfl (λhg a w he hw=>i6 tk rfl rfl he hg rfl rfl (hw.get (i:=2) rfl) rfl) ?_;refine J.qc (b2a q sL (by decide) 1 2) [1] λ_=>?_;rintro v As ⟨a3,c3,l3,hp3,rfl,rfl⟩;refine⟨_,rfl,trivial,?_⟩;have h3:l3.length=1:=hp3.length_eq.trans rfl;rw[h3];refine J.q λ_=>?_;refine J.v (H6 (0,9,9)) rfl rfl (λhg a w he hw=>j7 tk rfl rfl he hg rfl rfl (hw.get (i:=2) rfl) rfl rfl) ?_;refine J.qp (a9s q sL 0 9 9) [1] λ_=>?_;rw[show(p5 sL (0,9,9)).isSome=true from rfl,show W7 sL (0,9,9)=[((1,2,3),sX)]from rfl];refine J.q λ_=>?_;refine J.v (H6 (0,9,9)) rfl rfl (λhg a w he hw=>j7 tk rfl rfl he hg rfl rfl (hw.get (i:=2) rfl) rfl rfl) ?_;refine J.qp (a9s q [((1,2,3),sX)] 0 9 9) [1] λ_=>?_;rw[show(p5 [(((1:Int),(2:Int),(3:Int)),sX)] (0,9,9)).isSome=false from rfl];refine J.q λ_=>?_;refine J.v (slv (some g2) 2 c2) rfl rfl (λhg a w he hw=>i6 tk rfl rfl he hg rfl rfl (hw.get (i:=3) rfl) rfl) ?_;refine J.q λ_=>?_;refine J.v (slv (some g2) 2 c2) rfl rfl (λhg a w he hw=>i6 tk rfl rfl he hg rfl rfl (hw.get (i:=3) rfl) rfl) ?_;refine J.q λ_=>?_;refine J.v (iI 2) rfl rfl (λhg a w he hw=>i6 tk rfl rfl he hg rfl rfl (hw.get (i:=4) rfl) rfl) ?_;exact J.qx []
theorem b0A:FP 291 [] [] (Ps (.bool true) []):=by
 refine FE [] Tryz.func291 λX F hX=>?_;refine J.qp (b0z) [] λ_=>?_;exact J.qx []
def b5b:List Lk:=lvD++[.int .i64, .int .i64, .int .i64, .int .i64, .int .i64, .int .i64, .int .i64]
theorem b0r:s8 Tryz.prog 100 234=some b5b:=by kernel_rfl
theorem b1f (s:Sh):Fits b5b (shL s):=Fits.append (J4 s.data) (show Fits [.int .i64, .int .i64, .int .i64, .int .i64, .int .i64, .int .i64, .int .i64] [.int .i64 s.role, .int .i64 s.lpn, .int .i64 s.seq, .int .i64 s.kind, .int .i64 s.block, .int .i64 s.row, .int .i64 s.mask]from⟨rfl,rfl,rfl,rfl,rfl,rfl,rfl,trivial⟩)
theorem b5r (zs:List Value):mkV Tryz.prog 234 zs= .agg zs.toArray:=by simp[mkV,Tryz.underlying234]
theorem b5v:Tryz.prog.eqGuardType Tryz.prog.depth 234=false:=by kernel_rfl
theorem b5w (x y:Sh) (hx:x.data.length=16) (hy:y.data.length=16):g7 (shL x) (shL y)=decide (x=y):=by
 have h1:shL x=j8 x.data++[.int .i64 x.role, .int .i64 x.lpn, .int .i64 x.seq, .int .i64 x.kind, .int .i64 x.block, .int .i64 x.row, .int .i64 x.mask]:=rfl;have h2:shL y=j8 y.data++[.int .i64 y.role, .int .i64 y.lpn, .int .i64 y.seq, .int .i64 y.kind, .int .i64 y.block, .int .i64 y.row, .int .i64 y.mask]:=rfl;rw[h1,h2,x8 (a:=j8 x.data) (c:=j8 y.data) rfl,eqD _ _ hx hy];obtain⟨d,r,l,s,k,b,ro,m⟩:=x;obtain⟨d',r',l',s',k',b',ro',m'⟩:=y;rw[Bool.eq_iff_iff];simp[g7,U3,Sh.mk.injEq]
def b5d:List Lk:=[.int .i64, .int .i64, .int .i64]++lvD
theorem a5y:s8 Tryz.prog 100 155=some b5d:=by kernel_rfl
theorem a4u (e:En):Fits b5d (enL e):=Fits.append (show Fits [.int .i64, .int .i64, .int .i64] [.int .i64 e.lpn, .int .i64 e.seq, .int .i64 e.role]from⟨rfl,rfl,rfl,trivial⟩) (J4 e.data)
theorem b5a (zs:List Value):mkV Tryz.prog 155 zs= .agg zs.toArray:=by simp[mkV,Tryz.underlying155]
theorem b5h:Tryz.prog.eqGuardType Tryz.prog.depth 155=false:=by kernel_rfl
theorem b5k (x y:En) (hx:x.data.length=16) (hy:y.data.length=16):g7 (enL x) (enL y)=true↔x=y:=by
 have h1:enL x=[.int .i64 x.lpn, .int .i64 x.seq, .int .i64 x.role]++j8 x.data:=rfl;have h2:enL y=[.int .i64 y.lpn, .int .i64 y.seq, .int .i64 y.role]++j8 y.data:=rfl;rw[h1,h2,x8 (a:=[.int .i64 x.lpn, .int .i64 x.seq, .int .i64 x.role]) (c:=[.int .i64 y.lpn, .int .i64 y.seq, .int .i64 y.role]) rfl,eqD _ _ hx hy];obtain⟨l,s,r,d⟩:=x;obtain⟨l',s',r',d'⟩:=y;simp[g7,U3,En.mk.injEq,and_assoc]
section
variable {X : Cx} {P : Program} {T : Tab} {K : List KI} {E : Env} {L : List Atom} {N : Nat} {F : HP} {Post : Value → List Atom → Prop} {rs : List ResultVar}
theorem J.effG (hX:IsCx X P rs N F Post) (hT:TabOK P T) {ops:Array Oper} {C:Cl} {lt:Bool} {i:Nat} {t:PT} {o:Oper} {g:G} {v:Nat->Value} {tag:Nat} {L':Nat->List Atom} {ob:List Prop} {E':Value->Env}
  (ho:j5 ops.toList i=some o) (hg:gd ops.toList E o=some g) (hgo:g.on=true) (hef:∀x:Nat,eff T (λ_=>x) E L 0 o.op=some ⟨v x,tag,L' x,ob,1⟩) (hob:Conj ob)
  (hd:∀v,u9 N o.dst v tag .tt E=some (E' v)) (hJ:∀x,Conj (l4 lt C (L' x))/\J X (.reg ops C t::K) (E' (v x)) (L' x)):J X (.reg ops C (.alt lt i t .non)::K) E L:=by
 refine J.op hX (S:=λv' L2=>∃x,v'=v x/\L2=L' x) tag ho hg hgo (λa0 w hen hs=>?_) hd (λv' L2 ⟨x,e1,e2⟩=>by subst e1;subst e2;exact hJ x);obtain⟨nv,w',r1,r2,r3,r4⟩:=a7u (P:=P) hT hen (hef w.heap.size) hob hs (.inr rfl);exact⟨v w.heap.size,L' w.heap.size,nv,w',⟨w.heap.size,rfl,rfl⟩,r1,r2,r3,r4⟩
end
end Go.Proofs.YtnffkcabeecopaaGreat
namespace Go.Proofs.YtnffkcabeecopaaGreat
open Go Go.RowKit
def pgB (a b:UInt8):List UInt8:=[a,b,0,0,0,0,0,0,0,0,0,0,0,0,0,0,0,0,0,0,0,0,0,0,0,0,0,0,0,0,0,0]
namespace B7
def N0:Nand:=Nand.new 3 8 2
def N1:Nand:=N0.progN 1 0 0 (pgB 7 0)
def N2:Nand:=N1.progN 1 0 0 (pgB 8 0)
def N3:Nand:=(N2.fault 3 1 0 0 0 0).2
def N4:Nand:=N3.eraseN 1 0
def N5:Nand:=N4.setCut 0 1
def N6:Nand:=N5.progN 1 0 0 (pgB 5 6)
def N7:Nand:=N6.onN
def N8:Nand:=(N7.fault 4 2 0 0 0 0).2
theorem G0:N0.Gd 100 0:=Nand.Gd.new 3 8 2 rfl 100 (by decide)
theorem G1:N1.Gd 99 0:=G0.prog 1 0 0 _ rfl
theorem G2:N2.Gd 98 0:=G1.prog 1 0 0 _ rfl
theorem G3:N3.Gd 98 0:=G2.fault0 3 1 0 0 0 0 (by decide)
theorem G4:N4.Gd 97 0:=G3.erase 1 0
theorem G5:N5.Gd 97 0:=G4.cut 0 1 (by decide) (by decide)
theorem G6:N6.Gd 96 0:=G5.prog 1 0 0 _ rfl
theorem G7:N7.Gd 96 0:=G6.on
theorem G8:N8.Gd 96 0:=G7.fault0 4 2 0 0 0 0 (by decide)
end B7
open B7
theorem b2z:FP 43 [.agg #[iI 0,iI 0,iI 0]] [] (Ps (.pointer none) []):=by
 refine FE [0] Tryz.func43 λX F hX=>?_;refine J.q λg1=>?_;refine J.cb (a0J 0 0 0) [] ?_;refine cpq ⟨_,rfl,trivial,?_⟩;rw[show m6 0 0 0=false from rfl];refine J.qT λ_=>?_;exact J.qx []
theorem b0x:FP 281 [] [] (Ps (.bool true) []):=by
 refine FE [] Tryz.func281 λX F hX=>?_;refine J.qc (a3i 3 8 2 rfl) [] λ_=>?_;rintro v As ⟨q,rfl,rfl⟩;refine⟨_,rfl,trivial,?_⟩;refine J.qp (b2z) [] λ_=>?_;refine J.qF λ_=>?_;refine J.p (.of [0,5,8,16,21,24,14,31,32,36]) [7,8,9] [3] λ_=>?_;refine J.qp (U8 q N0 G0.ok G0.room 1 0 0 (pgB 7 0) rfl) [2] λ_=>?_;rw[show N0.progE 1 0 0=0 from by kernel_rfl];refine J.qp (U8 q N1 G1.ok G1.room 1 0 0 (pgB 8 0) rfl) [2] λ_=>?_;rw[show N1.progE 1 0 0=4 from by kernel_rfl];refine J.qp (a1R q N2 G2.ok 1 0 0) [2] λ_=>?_;rw[show N2.readE 1 0 0=0 from by kernel_rfl,show N2.readV 1 0 0=pgB 7 0 from by kernel_rfl];refine J.qp (a1R q N2 G2.ok 2 0 0) [2] λ_=>?_;rw[show N2.readE 2 0 0=5 from by kernel_rfl];refine J.qp (O8 q N2 G2.ok 0 3 1 0 0 0 0) [2] λ_=>?_;rw[show(N2.fault 3 1 0 0 0 0).1=true from by kernel_rfl];refine J.qp (a1R q N3 G3.ok 1 0 0) [2] λ_=>?_;rw[show N3.readE 1 0 0=6 from by kernel_rfl];refine J.qp (a7j q N3 G3.ok G3.room G3.nodup (Nat.le_trans G3.few (by decide)) 1 0) [2] λ_=>?_;rw[show N3.eraseE 1 0=0 from by kernel_rfl];refine J.qp (a3j q N4 0 1) [2] λ_=>?_;refine J.qp (U8 q N5 G5.ok G5.room 1 0 0 (pgB 5 6) rfl) [2] λ_=>?_;rw[show N5.progE 1 0 0=9 from by kernel_rfl];refine J.qp (a8h q N6) [2] λ_=>?_;refine J.qp (a1R q N7 G7.ok 1 0 0) [2] λ_=>?_;rw[show N7.readE 1 0 0=0 from by kernel_rfl,show N7.readV 1 0 0=Nand.fillP 1 (pgB 5 6)from by kernel_rfl];refine J.q λbf=>?_;refine J.cb (b4U (bf (0+1))) [8] ?_;rintro v As ⟨p,a,c,rfl,rfl⟩;refine⟨_,rfl,trivial,?_⟩;refine J.know (λh' s=>f8 (c:=(a,c)) (by decide) (s.get (i:=9) rfl)) λhg=>?_;obtain⟨g,rfl⟩:=hg;refine J.qp (b0A) [] λ_=>?_;refine J.qp (a5C) [] λ_=>?_;refine J.qp (a5m q N7) [2] λ_=>?_;rw[show N7.broken=1 from by kernel_rfl];refine J.q λ_=>?_;refine J.v (.bool true) rfl rfl (λhg a w he hw=>(w5 (xs:=p9 (pgB 7 0)) (ys:=p9 (pgB 7 0)) rfl rfl rfl he hg rfl a2a (a0o _) (a0o _) b2A b5g).trans (by rw[b4o _ _ rfl rfl];simp)) ?_;refine J.qp (a5l q N7) [2] λ_=>?_;rw[show N7.ops=3 from by kernel_rfl];refine J.qp (a6w q N7 G7.ok 1 0) [2] λ_=>?_;rw[show N7.wornAt 1 0=1 from by kernel_rfl];refine J.qp (b0j q N7 G7.ok 1 0) [2] λ_=>?_;rw[show N7.next 1 0=1 from by kernel_rfl];refine J.qp (b3P p (some ⟨g,0,none⟩) 1 c) [8] λ_=>?_;refine J.qp (b4T p g c q N7 G7.ok (by kernel_rfl)) [8,9,2] λ_=>?_;refine J.qp (a1S q N8 G8.ok 2) [2] λ_=>?_;rw[show N8.deadAt 2=true from by kernel_rfl];refine J.q λ_=>?_;refine J.effG hX tk rfl rfl rfl (λ_=>rfl) (by(repeat' (first | exact Conj.nil | refine Conj.cons ?_ ?_ | omega | exact hq0 | (simpa using hq0) | (exactλh=>h) | exact rfl | (intro hq;have hq0:=hq;try simp only[Bool.and_eq_true,Bool.or_eq_true,decide_eq_true_eq,Bool.not_eq_true',decide_eq_false_iff_not]at hq) | (simp;done) | (simp;omega) | decide))) (λ_=>rfl) λbg=>⟨trivial,?_⟩;refine J.qp (b3Q bg) [10] λ_=>?_;exact J.qx []
theorem a5B:FP 277 [] [] (Ps (.bool true) []):=by
 refine FE [] Tryz.func277 λX F hX=>?_;refine J.qp (b0x) [] λ_=>?_;exact J.qx []
end Go.Proofs.YtnffkcabeecopaaGreat
namespace Go.Proofs.YtnffkcabeecopaaGreat
open Go Go.RowKit
theorem a8T (x:Int):FP 302 [.int .u8 x] [] (Ps (.bool (x !=255)) []):=by
 refine FE [0] Tryz.func302 λX F hX=>?_;exact J.qx []
theorem b1F (b:Nat) (p:List UInt8) (h:(((p.getD 0 0).toNat:Int) !=255)=true):FP 314 [.slice (some ⟨b,0,none⟩) 32 32, .func (.func 302) #[] #[]] [.pt b 106 (p9 p)] (Ps (iI 0) []):=by
 refine FE [2,0] Tryz.func314 λX F hX=>?_;refine J.q λ_=>?_;refine J.l (α:=Nat) (λk=>k=0) (λk=>[si 8 0,si 7 32,⟨0, .slice (some ⟨b,0,none⟩) 32 32,2, .tt⟩,⟨1, .func (.func 302) #[] #[],0, .tt⟩]) [] (λk=>[]) (λk=>0) (0) (rfl) λk hI=>?_;refine J.qT λ_=>?_;refine J.q λ_=>?_;refine J.v (byC p 0) rfl rfl (λhg a w he hw=>f9 tk rfl rfl he rfl rfl rfl (hw.get (i:=1) rfl) rfl) ?_;refine J.qp (a8T ((p.getD 0 0).toNat:Int)) [] λ_=>?_;rw[h];refine J.qT λ_=>?_;exact J.qx []
theorem a5Z (b:Nat) (p:List UInt8) (h:(((p.getD 0 0).toNat:Int) !=255)=true):FP 301 [.slice (some ⟨b,0,none⟩) 32 32, .func (.func 302) #[] #[]] [.pt b 106 (p9 p)] (Ps (.bool true) []):=by
 refine FE [2,0] Tryz.func301 λX F hX=>?_;refine J.qp (b1F b p h) [1] λ_=>?_;exact J.qx []
theorem b1G (p:List UInt8) (h:(((p.getD 0 0).toNat:Int) !=255)=true):FP 295 [pgV p] [] (Ps (.bool false) []):=by
 refine FE [0] Tryz.func295 λX F hX=>?_;refine J.q λbb=>?_;refine J.cb (a5Z (bb 0) p h) [1] ?_;refine cpq ⟨_,rfl,trivial,?_⟩;exact J.qx []
namespace B9
def e:En:=⟨3,9,1,[1,2,0,0,0,0,0,0,0,0,0,0,0,0,0,0]⟩
def pad:En:=⟨0,0,3,zeros16⟩
def a:Sh:=W.sh 2 1 7 e
def b:Sh:=W.sh 2 1 7 pad
def p:Sh:=W.par 2 1 7 [e,pad]
def pg:List UInt8:=H9 a
theorem h_a:W.own 2 1 7 e=a:=by kernel_rfl
theorem h_a2:W.ok 2 1 7 e=true:=by kernel_rfl
theorem h_b:W.own 2 1 7 pad=b:=by kernel_rfl
theorem h_b2:W.ok 2 1 7 pad=true:=by kernel_rfl
theorem h_p2:W.parB 2 1 7 [e,pad]=true:=by kernel_rfl
theorem h_pl:p.data.length=16:=by kernel_rfl
theorem h_m:S.may a=true:=by kernel_rfl
theorem h_g:S.getV pg=a:=by kernel_rfl
theorem h_g2:S.getE pg=0:=by kernel_rfl
theorem h_z2:S.getE O5=1:=by kernel_rfl
theorem h_k:W.back p [b]=e:=by kernel_rfl
theorem h_k2:W.backB p [b]=true:=by kernel_rfl
theorem h_meta:S.meta_ 2 5 77=144120685633994829:=by kernel_rfl
theorem h_mp:S.may p=true:=by kernel_rfl
theorem h_mz:S.may Sh.zero=false:=by kernel_rfl
theorem h_bl:(((pg.getD 0 0).toNat:Int) !=255)=true:=by kernel_rfl
theorem h_pgl:pg.length=32:=R8 a rfl
end B9
open B9
theorem b0w:FP 282 [] [] (Ps (.bool true) []):=by
 refine FE [] Tryz.func282 λX F hX=>?_;refine J.qp (a4O 2 1 7 e rfl) [] λ_=>?_;rw[h_a,h_a2];refine J.qp (a4O 2 1 7 pad rfl) [] λ_=>?_;rw[h_b,h_b2];refine J.q λb1=>?_;refine J.ca hX (by kernel_rfl) (a4N 2 1 7 (.pt (b1 (0+1)) 155 (c9 [e,pad])) (some ⟨b1 (0+1),0,none⟩) 2 2 [e,pad] (Q6 _ _ _ _ _ rfl) rfl (by decide)) [5] 0 rfl rfl rfl rfl rfl rfl (λ_=>rfl) ?_;refine cpq ⟨_,rfl,trivial,?_⟩;rw[show W.par 2 1 7 [e,pad]=p from rfl,h_p2];refine J.qp (b0U a rfl) [] λ_=>?_;rw[show H9 a=pg from rfl,h_m];refine J.qp (b0W pg h_pgl) [] λ_=>?_;rw[h_g,h_g2];refine J.qp (b0W O5 rfl) [] λ_=>?_;rw[h_z2];refine J.q λb2=>?_;refine J.cO 234 23 1 1 (j3 [b]) 10 ?_;refine J.qp (a9d p h_pl (some (b2 (0+1))) 1 1 [b] rfl (by decide) (by decide)) [10] λ_=>?_;rw[h_k,h_k2];refine J.qp (b0V 2 5 77) [] λ_=>?_;rw[h_meta];refine J.qp (b4k 144120685633994829 (by decide)) [] λ_=>?_;refine J.qp (a5C) [] λ_=>?_;refine J.q λ_=>?_;refine J.v (.bool true) rfl rfl (λhg x w he hw=>(w5 (xs:=shL a) (ys:=shL a) rfl rfl rfl he hg rfl b0r (b1f _) (b1f _) b5r b5v).trans (by rw[b5w _ _ rfl rfl];simp)) ?_;refine J.q λ_=>?_;refine J.v (.bool true) rfl rfl (λhg x w he hw=>(w5 (xs:=enL e) (ys:=enL e) rfl rfl rfl he hg rfl a5y (a4u _) (a4u _) b5a b5h).trans (by rw[(b5k _ _ rfl rfl).2 rfl])) ?_;refine J.qp (a3w p h_pl) [] λ_=>?_;rw[h_mp];refine J.qp (a3w Sh.zero rfl) [] λ_=>?_;rw[h_mz];refine J.qp (b1G pg h_bl) [] λ_=>?_;refine J.qr [] λ_=>?_;exact⟨by kernel_rfl,rfl⟩
theorem a5A:FP 278 [] [] (Ps (.bool true) []):=by
 refine FE [] Tryz.func278 λX F hX=>?_;refine J.qp (b0w) [] λ_=>?_;exact J.qx []
end Go.Proofs.YtnffkcabeecopaaGreat
namespace Go.Proofs.YtnffkcabeecopaaGreat
open Go Go.RowKit
namespace B11
def N0:Nand:=Nand.new 3 8 2
def N1:Nand:=(R.write N0 1 0 7 [B9.e,B9.pad]).1
def N2:Nand:=(N1.fault 4 0 0 0 0 0).2
def fn:Fnd:=⟨B9.e,1,0,0,7,true,true⟩
theorem G0:N0.Gd 100 0:=Nand.Gd.new 3 8 2 rfl 100 (by decide)
theorem G1:N1.Gd 92 0:=W9 (by decide) G0
theorem G2:N2.Gd 92 0:=G1.fault0 4 0 0 0 0 0 (by decide)
theorem h_w:(R.write N0 1 0 7 [B9.e,B9.pad]).2=(0,0):=by kernel_rfl
theorem h_l1:(M.look N1 0 1 0).2=1:=by kernel_rfl
theorem h_l2:(M.look N1 0 1 0).1.lpn=3:=by kernel_rfl
theorem h_l3:(M.look N1 0 2 0).2=2:=by kernel_rfl
theorem h_r:R.read N2 1 0 0 7=(B9.e,0):=by kernel_rfl
theorem h_a:R.all N2 1 0=[fn]:=by kernel_rfl
theorem h_m:M.masks N2 1 0=[7]:=by kernel_rfl
end B11
open B11
theorem a8r:FP 266 [] [] (Ps (.bool true) []):=by
 refine FE [] Tryz.func266 λX F hX=>?_;refine J.q λb1=>?_;refine J.cb (a3i 3 8 2 rfl) [] ?_;rintro v As ⟨q,rfl,rfl⟩;refine⟨_,rfl,trivial,?_⟩;refine J.qF λ_=>?_;refine J.q λb1=>?_;refine J.ca hX (by kernel_rfl) (a1b q N0 (.pt (b1 (0+1)) 155 (c9 [B9.e,B9.pad])) 1 0 7 (some ⟨b1 (0+1),0,none⟩) 2 2 0 [B9.e,B9.pad] (Q6 _ _ _ _ _ rfl) rfl (by decide) (G0.less (by decide) (Nat.le_refl _))) [1,3] 0 rfl rfl rfl rfl rfl rfl (λ_=>rfl) ?_;refine cpq ⟨_,rfl,trivial,?_⟩;rw[h_w];refine J.qp (a0i q N1 G1.ok G1.room 0 1 0) [1] λ_=>?_;rw[h_l1];refine J.qp (a0i q N1 G1.ok G1.room 0 2 0) [1] λ_=>?_;rw[h_l3];refine J.qp (O8 q N1 G1.ok 0 4 0 0 0 0 0) [1] λ_=>?_;refine J.qp (a4c q N2 G2.ok G2.room 1 0 0 7 (by decide) (by decide)) [1] λ_=>?_;rw[h_r];refine J.qc (b3s q N2 G2.ok G2.room 1 0) [1] λ_=>?_;rintro v As ⟨a,c,rfl,rfl⟩;refine⟨_,rfl,trivial,?_⟩;rw[h_a];refine J.know (λh' s=>f8 (c:=(a,c)) (by decide) (s.get (i:=7) rfl)) λhg=>?_;obtain⟨ga,rfl⟩:=hg;refine J.qp (a5B) [] λ_=>?_;refine J.qp (a5A) [] λ_=>?_;refine J.q λ_=>?_;rw[h_l2];refine J.v (.bool true) rfl rfl (λhg x w he hw=>(w5 (xs:=enL B9.e) (ys:=enL B9.e) rfl rfl rfl he hg rfl a5y (a4u _) (a4u _) b5a b5h).trans (by rw[(b5k _ _ rfl rfl).2 rfl])) ?_;refine J.q λ_=>?_;refine J.v (.bool true) rfl rfl (λhg x w he hw=>i6 tk rfl rfl he hg rfl rfl (hw.get (i:=7) rfl) rfl) ?_;refine J.q λ_=>?_;refine J.v (.bool true) rfl rfl (λhg x w he hw=>i6 tk rfl rfl he hg rfl rfl (hw.get (i:=7) rfl) rfl) ?_;refine J.q λ_=>?_;refine J.v (iI 7) rfl rfl (λhg x w he hw=>i6 tk rfl rfl he hg rfl rfl (hw.get (i:=7) rfl) rfl) ?_;refine J.qc (a7m q N2 G2.ok G2.room 1 0) [1] λ_=>?_;rintro v As ⟨a2,c2,rfl,rfl⟩;refine⟨_,rfl,trivial,?_⟩;rw[h_m];exact J.qx []
end Go.Proofs.YtnffkcabeecopaaGreat
namespace Go.Proofs.YtnffkcabeecopaaGreat
open Go Go.RowKit
theorem a6V (a:Int) (n:Int) (hn:0<n): -n<a.tmod n/\a.tmod n<n:=by
 refine⟨?_,Int.tmod_lt_of_pos a hn⟩;obtain⟨k,rfl | rfl⟩:=Int.eq_nat_or_neg a
 ·have:=Int.tmod_nonneg (a:=(k:Int)) n (by omega);omega
 ·rw[Int.neg_tmod];have:=Int.tmod_lt_of_pos (k:Int) hn;omega
theorem b3L (a:Int) (n:Int) (hn:0<n):0<=(a.tmod n+n).tmod n/\(a.tmod n+n).tmod n<n:=by
 have:=a6V a n hn;exact⟨Int.tmod_nonneg _ (by omega),Int.tmod_lt_of_pos _ hn⟩
theorem b4f (a b c:Int):FP 17 [iI a,iI b,iI c] [] (λv As=>∃D B P:Nat,v= .agg #[iI D,iI B,iI P]/\(3<=D/\D<=6)/\(8<=B/\B<=16)/\(2<=P/\P<=8)/\As=[]):=by
 have a1:=a6V a 4 (by decide);have a2:=b3L a 4 (by decide);have b1:=a6V b 9 (by decide);have b2:=b3L b 9 (by decide);have c1:=a6V c 7 (by decide);have c2:=b3L c 7 (by decide);refine FE [0,0,0] Tryz.func17 λX F hX=>?_;refine J.q λb1=>?_;refine J.ru hX [] ?_;obtain⟨D,hD⟩:=Int.eq_ofNat_of_zero_le a2.1;obtain⟨B,hB⟩:=Int.eq_ofNat_of_zero_le b2.1;obtain⟨P,hP⟩:=Int.eq_ofNat_of_zero_le c2.1;refine⟨3+D,8+B,2+P,?_,by omega,by omega,by omega,rfl⟩;rw[hD,hB,hP,Int.natCast_add,Int.natCast_add,Int.natCast_add];rfl
end Go.Proofs.YtnffkcabeecopaaGreat
