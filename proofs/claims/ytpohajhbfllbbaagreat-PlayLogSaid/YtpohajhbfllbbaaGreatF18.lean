/- Helpers. No condition. -/
import Derived.Test.YtpohajhbfllbbaaGreatF06
import Derived.Test.YtpohajhbfllbbaaGreatF09
import Derived.Test.YtpohajhbfllbbaaGreatF13
import Derived.Test.YtpohajhbfllbbaaGreatF14
import Derived.Test.YtpohajhbfllbbaaGreatF15
import Derived.Test.YtpohajhbfllbbaaGreatF17
set_option maxRecDepth 20000
set_option linter.all false
namespace Go.Proofs.YtpohajhbfllbbaaGreat
open Go Go.RowKit
theorem b1X {T:Tb} (h:∀x∈T.at_,0<=x.2.slot/\x.2.slot<=1000) (i:Int):0<=((Tb.look T.at_ i).getD AtV.zero).slot/\((Tb.look T.at_ i).getD AtV.zero).slot<=1000:=by
 cases hl:Tb.look T.at_ i with
 | none=>show(0:Int)<=0/\(0:Int)<=1000;omega
 | some a=>exact h _ (Tb.look_mem hl)
theorem b1Q (n l:Nat) (S:Dv) (k mm:Nat) (hO:S.Ok k mm) (i:Int):FP 154 [pp n,pp l,iI i] [d8 n S.N,TbA l S.T]
  (Ps (.tuple #[enV (S.rd i).1,iI (S.rd i).2]) [d8 n S.N,TbA l S.T]):=by
 have hsl:=b1X hO.sl i;refine FE [2,3,0] Tryz.func154 λX F hX=>?_;refine J.qp (Z8 l S.T i) [2] λ_=>?_;have hrd:S.rd i=(let a:=(Tb.look S.T.at_ i).getD AtV.zero;let x:=R.read S.N a.block a.row a.slot a.mask;if x.2=9 then(En.zero,9)else if x.2≠0\/x.1.lpn≠i\/x.1.seq≠a.seq then(⟨i,0,4,zeros16⟩,0)else(x.1,0)):=rfl;generalize(Tb.look S.T.at_ i).getD AtV.zero=a at hsl hrd ⊢;generalize(Tb.look S.T.at_ i).isSome=is;refine J.qp (a3W n S.N hO.gd.ok hO.gd.room a.block a.row a.slot a.mask (by omega) (by omega)) [1] λ_=>?_;dsimp only at hrd;generalize R.read S.N a.block a.row a.slot a.mask=r at hrd ⊢;obtain⟨e,x⟩:=r;dsimp only at hrd ⊢;refine J.qd (λ_ h1=>?_) λ_ h1=>?_
 ·simp only[beq_iff_eq]at h1;rw[if_pos h1]at hrd;refine J.qr [1,2] λ_=>?_;rw[hrd,h1];exact⟨rfl,rfl⟩
 simp only[beq_eq_false_iff_ne,ne_eq]at h1;rw[if_neg h1]at hrd;refine J.qn 4 λ_=>?_;cases hx:(x !=0)with
 | true=>
  have hx':x≠0:=by simpa using hx
  rw[if_pos (.inl hx')]at hrd;refine J.qT λ_=>?_;refine J.qr [1,2] λ_=>?_;rw[hrd];exact⟨rfl,rfl⟩
 | false=>
  have hx':x=0:=by simpa using hx
  refine J.qn 5 λ_=>?_;cases hy:(e.lpn !=i)with
  | true=>
   have hy':e.lpn≠i:=by simpa using hy
   rw[if_pos (.inr (.inl hy'))]at hrd;refine J.qT λ_=>?_;refine J.qr [1,2] λ_=>?_;rw[hrd];exact⟨rfl,rfl⟩
  | false=>
   have hy':e.lpn=i:=by simpa using hy
   refine J.qd (λ_ h2=>?_) λ_ h2=>?_
   ·have hz:e.seq≠a.seq:=by simpa using h2
    rw[if_pos (.inr (.inr hz))]at hrd;refine J.qr [1,2] λ_=>?_;rw[hrd];exact⟨rfl,rfl⟩
   ·have hz:e.seq=a.seq:=by simpa using h2
    rw[if_neg (by rw[hx',hy',hz];simp)]at hrd;refine J.qr [1,2] λ_=>?_;rw[hrd];exact⟨rfl,rfl⟩
theorem a0T (a:Option Nat) (n c:Nat):slv a n c= .slice (oad a) n c:=by cases a<;>rfl
theorem a9x (S:Dv) {C:List Int} {E:List En} {i:Nat} {x:Int} (h:S.rds C=(E++(S.rds (C.drop i)).1,(S.rds (C.drop i)).2)) (hx:C[i]? =some x):((S.rd x).2≠0->(S.rds C).2=(S.rd x).2)/\((S.rd x).2=0->S.rds C=((E++[(S.rd x).1])++(S.rds (C.drop (i+1))).1,(S.rds (C.drop (i+1))).2)):=by
 obtain⟨h1,h2⟩:=List.getElem?_eq_some_iff.1 hx;have hd:C.drop i=x::C.drop (i+1):=by rw[List.drop_eq_getElem_cons h1,h2]
 rw[hd]at h;rw[h];refine⟨λh0=>?_,λh0=>?_⟩
 ·rw[Dv.rds,if_pos h0]
 ·rw[Dv.rds,if_neg (by simp[h0])];simp
theorem W5:∀(f:Nat) (S:Dv) (l:List En),0<=(Dv.write f S l).2.1/\(Dv.write f S l).2.1<=7
 | 0,S,l=>by show(0:Int)<=0/\(0:Int)<=7;omega
 | f+1,S,l=>by
  rw[Dv.write_succ];have hf:=Dv.fit_le S.at1 l;split
  ·show(0:Int)<=0/\(0:Int)<=7;omega
  split
  ·show(0:Int)<=0/\(0:Int)<=7;omega
  split
  ·show(0:Int)<=0/\(0:Int)<=7;omega
  split
  ·show(0:Int)<=0/\(0:Int)<=7;omega
  split
  ·show(0:Int)<=(S.at1.fit l:Int)/\(S.at1.fit l:Int)<=7;omega
  split
  ·show(0:Int)<=0/\(0:Int)<=7;omega
  ·exact W5 f _ l
set_option maxHeartbeats 1000000 in
theorem a1o (n t l p:Nat) (S:Dv) (k mm:Nat) (hO:S.Ok (Dv.costC+k) mm) (b most:Int):FP 101 [pp n,pp l,pp p,iI b,iI most] (DvP p n t l S)
  (Ps (.tuple #[iI (S.carry b most).2.1,iI (S.carry b most).2.2]) (DvP p n t l (S.carry b most).1)):=by
 have hlog:=hO.T.log;have hins:=Dv.ins_le hO b;obtain⟨L,hL⟩:∃L,L=S.T.ins b:=⟨_,rfl⟩;obtain⟨u,hu⟩:∃u:Nat,u=min (max most 0).toNat L.length:=⟨_,rfl⟩;refine FE [3,5,2,0,0] Tryz.func101 λX F hX=>?_;refine J.qF λ_=>?_;refine J.qc (a9g l S.T S.T.logical.toNat (by omega) (by omega) b) [4] λ_=>?_;rintro v As ⟨a,c,rfl,rfl⟩;refine⟨_,rfl,trivial,?_⟩;rw[<- hL];refine J.know (λh' s=>C2 (show C9 _ _ a L.length c _ _ from s.get (i:=5) rfl)) λhcap=>?_;rw[<- hL]at hins;have hmin:(if(L.length:Int)<(if(0:Int)>most then 0 else most)then(L.length:Int)else(if(0:Int)>most then 0 else most))=(u:Int):=by rw[b5j,min2,hu];omega
 have hul:u<=L.length:=by omega
 refine J.qn 10 λ_=>?_;rw[hmin,a0T];refine J.v (.slice (oad a) u c) rfl rfl (λhg aa w he hw=>T7 tk rfl rfl rfl he rfl rfl rfl rfl (by omega)) ?_;refine J.q λ_=>?_;have hcar:S.carry b most=Dv.carryGo (L.take u).length S (L.take u) 0:=by
  unfold Dv.carry;rw[<- hL];have:L.take (max most 0).toNat=L.take u:=by
   rw[hu]
   by_cases hle:(max most 0).toNat<=L.length
   ·rw[Nat.min_eq_left hle]
   ·rw[Nat.min_eq_right (by omega),List.take_of_length_le (by omega),List.take_of_length_le (Nat.le_refl _)]
  rw[this]
 have htl:(L.take u).length=u:=by rw[List.length_take];omega
 rw[htl]at hcar;refine J.q λ_=>?_;refine J.l (α:=(Nat×Nat×Dv)) (λz=>z.1<=u/\u-z.1<=z.2.1/\z.2.2.Ok (Dv.cost*z.2.1+k) mm/\Dv.carryGo z.2.1 z.2.2 ((L.take u).drop z.1) z.1=S.carry b most) (λz=>[si 13 z.1,sv 12 (.slice (oad a) u c),⟨0,pp n,3, .tt⟩,⟨1,pp l,5, .tt⟩,⟨2,pp p,2, .tt⟩]) [1,2,3,4] (λz=>DvP p n t l z.2.2) (λz=>u-z.1) ((0,u,S)) (⟨Nat.zero_le _,by dsimp only;omega,hO.less (by have:Dv.cost*u<=Dv.costC:=Nat.mul_le_mul_left _ (by omega);dsimp only;omega),hcar.symm⟩) λz hI=>?_;obtain⟨d,j,Q⟩:=z;dsimp only at hI ⊢;obtain⟨hd,hj,hQ,hw⟩:=hI;refine J.qd (λ_ h1=>?_) λ_ h1=>?_
 ·simp only[decide_eq_true_eq,Int.ofNat_lt]at h1;obtain⟨j,rfl⟩:∃i,j=i+1:=⟨j-1,by omega⟩;have hQ1:Q.Ok (8*Dv.fuel+(Dv.cost*j+k)) mm:=hQ.less (by rw[Nat.mul_succ];unfold Dv.cost;omega);have hbd:=hQ.gd.ok.bd16;have hlb:=hQ.t.len;have hbb:Q.t.b<=1000:=by have:=hQ.t.b;omega
  rw[Dv.carryGo,if_neg (by rw[List.length_drop,htl];omega)]at hw;dsimp only at hw;obtain⟨s,hs⟩:∃s:Nat,s=(max Q.slots 1).toNat:=⟨_,rfl⟩;rw[<- hs]at hw;refine J.know (λh' s=>f8 (c:=(a,c)) (by omega) (s.get (i:=5) rfl)) λhg=>?_;obtain⟨ga,rfl⟩:=hg;refine J.qp (a4X p n t l Q hbb hlb) [1,2,3,4] λ_=>?_;have hsb:0<=Q.slots/\Q.slots<=7:=by
   unfold Dv.slots;split
   ·exact Dv.slots_le _
   ·exact Dv.slots_le _
  have hs1:1<=s/\s<=7:=by omega
  have h51:(if(1:Int)>Q.slots then 1 else Q.slots)=(s:Int):=by rw[hs];split<;>omega
  obtain⟨e,he⟩:∃e:Nat,e=min (d+s) u:=⟨_,rfl⟩;refine J.qn 4 λ_=>?_;rw[h51];have h54:(if(u:Int)<(d:Int)+(s:Int)then(u:Int)else(d:Int)+(s:Int))=(e:Int):=by rw[he];split<;>omega
  refine J.qn 4 λ_=>?_;rw[h54];refine J.q λ_=>?_;have h55:((e:Int).toNat-(d:Int).toNat)=e-d:=by omega
  obtain⟨w,hw0⟩:∃w,e=d+w:=⟨e-d,by omega⟩;have hw1:e-d=w:=by omega
  rw[h55,hw1,show 0+(d:Int).toNat*1=d from by omega,show c-(d:Int).toNat=c-d from by omega];obtain⟨C,hC⟩:∃C,C=((L.take u).drop d).take s:=⟨_,rfl⟩;have hCl:C.length=w:=by rw[hC,List.length_take,List.length_drop,htl];omega
  have hCg:∀i,i<w->∃x,C[i]? =some x/\(d6 L)[d+i]? =some (iI x):=λi hi=>by
   have hx:d+i<L.length:=by omega
   refine⟨L[d+i],?_,?_⟩
   ·rw[hC,List.getElem?_take,if_pos (by omega),List.getElem?_drop,List.getElem?_take,if_pos (by omega),List.getElem?_eq_getElem hx]
   ·rw[d6,List.getElem?_map,List.getElem?_eq_getElem hx];rfl
  rw[<- hC]at hw;refine J.turn1 [] rfl (As:=[c8 135 19 none 0 0 (c9 [])]) (λh s=>Sep.one ⟨rfl,rfl,rfl⟩) rfl ?_;refine J.q λ_=>?_;refine J.l (α:=(Nat×List En×Option Nat×Nat)) (λz=>z.1<=w/\z.2.1.length=z.1/\(∀x∈z.2.1,x.data.length=16)/\Q.rds C=(z.2.1++(Q.rds (C.drop z.1)).1,(Q.rds (C.drop z.1)).2)) (λz=>[si 57 z.1,si 56 w,sv 55 (.slice (some ⟨ga,d,none⟩) w (c-d)),sv 14 (slv z.2.2.1 z.2.1.length z.2.2.2),si 13 d,⟨12, .slice (oad (some ga)) u c,0, .tt⟩,⟨0,pp n,3, .tt⟩,⟨1,pp l,5, .tt⟩,⟨2,pp p,2, .tt⟩]) [6] (λz=>[c8 135 19 z.2.2.1 z.2.1.length z.2.2.2 (c9 z.2.1)]) (λz=>w-z.1) ((0,[],none,0)) (⟨Nat.zero_le _,rfl,by simp,by simp⟩) λz hI=>?_;obtain⟨i,E,ea,ec⟩:=z;dsimp only at hI ⊢;obtain⟨hi,hE,hEd,hrd⟩:=hI;refine J.qd (λ_ h2=>?_) λ_ h2=>?_
  ·simp only[decide_eq_true_eq,Int.ofNat_lt]at h2;obtain⟨x,hx,hx2⟩:=hCg i h2;obtain⟨st1,st2⟩:=a9x Q hrd hx;refine J.q λ_=>?_;refine J.v (iI x) rfl rfl (λhg aa w he hw=>i5 tk rfl rfl he rfl rfl rfl (hw.get (i:=5) rfl) (by rw[show d+(i:Int).toNat*1=d+i from by omega];exact hx2)) ?_;refine J.qp (b1Q n l Q _ mm hQ1 x) [2,4] λ_=>?_;have hrl:=Dv.rd_len hQ1 x;refine J.qd (λ_ h3=>?_) λ_ h3=>?_
   ·simp only[bne_iff_ne,ne_eq]at h3;have h4:=st1 h3;rw[if_pos (by rw[h4];exact h3)]at hw;refine J.qr [1,2,3,4] λ_=>?_;rw[<- hw,h4];exact⟨rfl,rfl⟩
   simp only[bne_eq_false_iff_eq]at h3;have h4:=st2 h3;refine J.q λ_=>?_;refine J.ap 6 8 0 (B5 E (Q.rd x).1) λa3 c3=>?_;rw[show E.length+1=(E++[(Q.rd x).1]).length from by simp];refine J.q λ_=>?_;refine J.n ((i+1,E++[(Q.rd x).1],a3,c3)) (⟨by dsimp only;omega,by simp[hE],λy hy=>(List.mem_append.1 hy).elim (hEd y) (λhy=>by rw[List.mem_singleton.1 hy];exact hrl),h4⟩) (by dsimp only;omega) [0,1,2,3,4,5,6]
  simp only[decide_eq_false_iff_not,Int.ofNat_lt]at h2;have hie:i=w:=by omega
  have hrd2:Q.rds C=(E,0):=by
   rw[hrd,List.drop_of_length_le (by omega),Dv.rds];simp
  rw[hrd2,if_neg (by simp)]at hw;dsimp only at hw;have htook:=λh0=>Dv.pen_took hQ1 hEd h0 (by omega);have hkeep:=Dv.pen_keep hQ1 hEd;refine J.q λ_=>?_;rw[a0T];refine J.q λ_=>?_;refine J.ca hX (by kernel_rfl) (R6 p n t l Q _ mm hQ1 (c8 135 19 ea E.length ec (c9 E)) (oad ea) E.length ec E (w7 135 19 ea E.length ec (c9 E)) rfl (by omega) hEd) [1,2,3,4,6] 0 rfl rfl rfl rfl rfl rfl (λ_=>rfl) ?_;refine cpq ⟨_,rfl,trivial,?_⟩;have hpb:0<=(Q.pen E).2.1/\(Q.pen E).2.1<=7:=W5 _ _ _;generalize Q.pen E=W at hw htook hkeep hpb ⊢;obtain⟨P,nn,er⟩:=W;dsimp only at hw htook hkeep hpb ⊢;refine J.qd (λ_ h5=>?_) λ_ h5=>?_
  ·simp only[bne_iff_ne,ne_eq]at h5;rw[if_pos h5]at hw;refine J.qr [1,2,3,4] λ_=>?_;rw[<- hw];exact⟨rfl,rfl⟩
  ·simp only[bne_eq_false_iff_eq]at h5;rw[if_neg (by rw[h5];decide)]at hw;have htk:=htook h5;obtain⟨v,rfl⟩:=Int.eq_ofNat_of_zero_le hpb.1;have hEl:E.length=w:=by omega
   have hvw:v<=w:=by have:=htk.2.1;omega
   rw[List.drop_drop]at hw;refine J.q λ_=>?_;refine J.n ((d+v,j,P)) (⟨by dsimp only;omega,by dsimp only;omega,hkeep.1,hw⟩) (by dsimp only;omega) [0,1,2,3,4,5]
 ·simp only[decide_eq_false_iff_not,Int.ofNat_lt]at h1;obtain rfl:d=u:=by omega
  have hz:(L.take d).drop d=[]:=List.drop_of_length_le (by omega);have hw2:S.carry b most=(Q,(d:Int),0):=by
   rw[<- hw,hz];cases j with
   | zero=>rfl
   | succ j=>rw[Dv.carryGo,if_pos List.length_nil]
  refine J.qr [1,2,3,4] λ_=>?_;rw[hw2];exact⟨rfl,rfl⟩
theorem a3s (b m:Int):∀(q:List Nat) (x:Nand×Tl×Int),x.2.2≠0->q.foldl (Dv.eraseD b m) x=x
 | [],x,_=>rfl
 | d::q,x,h=>by
  have:Dv.eraseD b m x d=x:=by unfold Dv.eraseD;rw[if_pos h]
  rw[List.foldl_cons,this];exact a3s b m q x h
theorem a4R (f:Nand×Tl×Int->Nat->Nand×Tl×Int) (x:Nand×Tl×Int) {j n:Nat} (h:j<=n):(List.range n).foldl f x=((List.range n).drop j).foldl f ((List.range j).foldl f x):=by
 conv=>lhs;rw[<- List.take_append_drop j (List.range n)]
 rw[List.foldl_append];congr 2;rw[List.take_range,Nat.min_eq_left h]
theorem a9k (n t:Nat) (N:Nand) (tl:Tl) (k mm:Nat) (hG:N.Gd (6+k) mm) (hmm:mm<=1000) (hF:tl.Fit N) (b:Int):FP 128 [pp n,pp t,iI b] [d8 n N,TlA t tl]
  (Ps (iI (Dv.erase N tl b).2.2) [d8 n (Dv.erase N tl b).1,TlA t (Dv.erase N tl b).2.1]):=by
 have hbd:=hG.ok.bd16;have hb0:=hF.b;refine FE [2,3,0] Tryz.func128 λX F hX=>?_;refine J.qp (J6 t tl (by omega) hF.len b) [2] λ_=>?_;refine J.qp (M4 n N) [1] λ_=>?_;obtain⟨m,hm⟩:∃m,m=tl.mask b:=⟨_,rfl⟩;rw[<- hm];refine J.q λ_=>?_;refine J.l (α:=(Nat×Nand×Tl)) (λz=>z.1<=N.dies/\(List.range z.1).foldl (Dv.eraseD b m) (N,tl,0)=(z.2.1,z.2.2,0)/\z.2.1.Gd (6-z.1+k) mm/\z.2.2.Fit z.2.1/\N.Like z.2.1) (λz=>[si 16 z.1,si 15 N.dies,si 7 m,⟨0,pp n,2, .tt⟩,⟨1,pp t,3, .tt⟩,si 2 b]) [1,2] (λz=>[d8 n z.2.1,TlA t z.2.2]) (λz=>N.dies-z.1) ((0,N,tl)) (⟨Nat.zero_le _,rfl,hG,hF,Nand.Like.refl _⟩) λz hI=>?_;obtain⟨d,P,T⟩:=z;dsimp only at hI ⊢;obtain⟨hd,hfo,hP,hT,hlk⟩:=hI;have hTb:T.b<=1000:=by have:=hT.b;have:=hlk.blocks;omega
 refine J.qd (λ_ h1=>?_) λ_ h1=>?_
 ·simp only[decide_eq_true_eq,Int.ofNat_lt]at h1;have hsucc:(List.range (d+1)).foldl (Dv.eraseD b m) (N,tl,0)=Dv.eraseD b m (P,T,0) d:=by rw[List.range_succ,List.foldl_append,hfo];rfl
  have hP1:P.Gd (1+(6-(d+1)+k)) mm:=hP.less (by omega) (Nat.le_refl _);have hk:=Dv.eraseD_keep (k:=6-(d+1)+k) (m:=mm) b m (P,T,0) d hP1 hT;refine J.qp (a3i m d) [] λ_=>?_;refine J.qd (λ_ h2=>?_) λ_ h2=>?_
  ·simp only[Bool.not_eq_true']at h2;have hz:Dv.eraseD b m (P,T,0) d=(P,T,0):=by unfold Dv.eraseD;rw[if_neg (by simp),if_pos h2]
   refine J.q λ_=>?_;refine J.n ((d+1,P,T)) (⟨by dsimp only;omega,hsucc.trans hz,hP.less (by dsimp only;omega) (Nat.le_refl _),hT,hlk⟩) (by dsimp only;omega) [0,1,2]
  simp only[Bool.not_eq_false']at h2;have hz:Dv.eraseD b m (P,T,0) d=(P.eraseN d b,if P.eraseE d b=0 then T else if P.eraseE d b=9 then T else if P.eraseE d b=8 then T.die d else T.bad d b,if P.eraseE d b=9 then 9 else 0):=by
   unfold Dv.eraseD;rw[if_neg (by simp),if_neg (by rw[h2];decide)]
  rw[hz]at hsucc hk;refine J.qp (a6Y n P hP.ok hP1.room hP.nodup (by have:=hP.few;omega) d b) [1] λ_=>?_;generalize P.eraseE d b=e at hsucc hk;refine J.qd (λ_ h3=>?_) λ_ h3=>?_
  ·simp only[beq_iff_eq]at h3;rw[if_pos h3,if_neg (by omega)]at hsucc;rw[if_pos h3]at hk;refine J.q λ_=>?_;refine J.n ((d+1,P.eraseN d b,T)) (⟨by dsimp only;omega,hsucc,hk.1,hT.like hk.2.2,hlk.trans hk.2.2⟩) (by dsimp only;omega) [0,1,2]
  simp only[beq_eq_false_iff_ne,ne_eq]at h3;rw[if_neg h3]at hsucc hk;refine J.qd (λ_ h4=>?_) λ_ h4=>?_
  ·simp only[beq_iff_eq]at h4;rw[if_pos h4,if_pos h4]at hsucc;have hall:Dv.eraseB N tl b=(P.eraseN d b,T,9):=by
    unfold Dv.eraseB;rw[<- hm,a4R _ _ (show d+1<=N.dies by omega),hsucc];exact a3s b m _ _ (by simp)
   refine J.qr [1,2] λ_=>?_;unfold Dv.erase;rw[hall];exact⟨rfl,rfl⟩
  simp only[beq_eq_false_iff_ne,ne_eq]at h4;rw[if_neg h4,if_neg h4]at hsucc;rw[if_neg h4]at hk;refine J.qd (λ_ h5=>?_) λ_ h5=>?_
  ·simp only[beq_iff_eq]at h5;rw[if_pos h5]at hsucc hk;refine J.qp (W9 t T d) [2] λ_=>?_;refine J.q λ_=>?_;refine J.n ((d+1,P.eraseN d b,T.die d)) (⟨by dsimp only;omega,hsucc,hk.1,(hT.die d).like hk.2.2,hlk.trans hk.2.2⟩) (by dsimp only;omega) [0,1,2]
  simp only[beq_eq_false_iff_ne,ne_eq]at h5;rw[if_neg h5]at hsucc hk;refine J.qp (a5T t T hTb hT.len d b) [2] λ_=>?_;refine J.q λ_=>?_;refine J.n ((d+1,P.eraseN d b,T.bad d b)) (⟨by dsimp only;omega,hsucc,hk.1,(hT.bad d b).like hk.2.2,hlk.trans hk.2.2⟩) (by dsimp only;omega) [0,1,2]
 simp only[decide_eq_false_iff_not,Int.ofNat_lt]at h1;obtain rfl:d=N.dies:=by omega
 have hall:Dv.eraseB N tl b=(P,T,0):=by unfold Dv.eraseB;rw[<- hm];exact hfo
 have hres:Dv.erase N tl b=(P,Dv.eraseT P T b,0):=by unfold Dv.erase;rw[hall];rfl
 refine J.qp (M4 n P) [1] λ_=>?_;refine J.q λ_=>?_;refine J.l (α:=(Nat×Tl)) (λz=>z.1<=P.dies/\(List.range z.1).foldl (λt (d:Nat)=>t.wore b (P.wornAt d b)) T=z.2/\z.2.Fit P) (λz=>[si 44 z.1,si 43 P.dies,⟨0,pp n,2, .tt⟩,⟨1,pp t,3, .tt⟩,si 2 b]) [2] (λz=>[TlA t z.2]) (λz=>P.dies-z.1) ((0,T)) (⟨Nat.zero_le _,rfl,hT⟩) λz hI=>?_;clear hfo hT hTb hall;obtain⟨d,U⟩:=z;dsimp only at hI ⊢;obtain⟨hd2,hfo,hU⟩:=hI;have hUb:U.b<=1000:=by have:=hU.b;have:=hlk.blocks;omega
 have hPd:P.dies<=6:=by have:=hlk.dies;omega
 refine J.qd (λ_ h1=>?_) λ_ h1=>?_
 ·simp only[decide_eq_true_eq,Int.ofNat_lt]at h1;refine J.qp (a6l n P hP.ok d b) [1] λ_=>?_;refine J.qp (a3K t U hUb hU.len b (P.wornAt d b)) [2] λ_=>?_;refine J.q λ_=>?_;refine J.n ((d+1,U.wore b (P.wornAt d b))) (⟨by dsimp only;omega,by dsimp only;rw[List.range_succ,List.foldl_append,hfo];rfl,hU.wore _ _⟩) (by dsimp only;omega) [0,1,2]
 simp only[decide_eq_false_iff_not,Int.ofNat_lt]at h1;obtain rfl:d=P.dies:=by omega
 have hU2:U=Dv.wores P T b:=hfo.symm;refine J.qp (U3 t U hUb hU.len b) [2] λ_=>?_;refine J.qd (λ_ h2=>?_) λ_ h2=>?_
 ·refine J.qp (a1k t U hUb hU.len b true) [2] λ_=>?_;refine J.qr [1,2] λ_=>?_;rw[hres];unfold Dv.eraseT;rw[<- hU2,if_pos h2];exact⟨rfl,rfl⟩
 ·refine J.qr [1,2] λ_=>?_;rw[hres];unfold Dv.eraseT;rw[<- hU2,if_neg (by rw[h2];decide)];exact⟨rfl,rfl⟩
theorem X2 (n t l:Nat) (N:Nand) (tl:Tl) (T:Tb) (k mm:Nat) (hG:N.Gd (96+k) mm) (hmm:mm<=1000) (hF:tl.Fit N) (o:Int):FP 81 [pp n,pp t,pp l,iI o] [d8 n N,TlA t tl,TbA l T]
  (Ps (iI (Dv.clearX N tl T o).2.2) [d8 n (Dv.clearX N tl T o).1,TlA t (Dv.clearX N tl T o).2.1,TbA l T]):=by
 have hbd:=hG.ok.bd16;have hb0:=hF.b;have hlen:=A5 (s9 tl T) o tl.b;refine FE [2,3,4,0] Tryz.func81 λX F hX=>?_;refine J.qF λ_=>?_;refine J.qc (a6V t tl (by omega) hF.len l T o) [2,3] λ_=>?_;rintro v As ⟨a,c,rfl,rfl⟩;refine⟨_,rfl,trivial,?_⟩;obtain⟨L,hL⟩:∃L,L=g5 (s9 tl T) o tl.b:=⟨_,rfl⟩;have hX2:Dv.clearX N tl T o=Dv.clearGo L N tl:=by unfold Dv.clearX;rw[hL]
 rw[<- hL]at hlen ⊢;refine J.q λ_=>?_;refine J.l (α:=(Nat×Nand×Tl)) (λz=>z.1<=L.length/\Dv.clearGo (L.drop z.1) z.2.1 z.2.2=Dv.clearX N tl T o/\z.2.1.Gd (6*(L.length-z.1)+k) mm/\z.2.2.Fit z.2.1/\N.Like z.2.1) (λz=>[si 27 z.1,si 26 L.length,sv 25 (slv a L.length c),⟨0,pp n,2, .tt⟩,⟨1,pp t,3, .tt⟩]) [1,2] (λz=>[d8 n z.2.1,TlA t z.2.2]) (λz=>L.length-z.1) ((0,N,tl)) (⟨Nat.zero_le _,by rw[hX2];rfl,hG.less (by dsimp only;omega) (Nat.le_refl _),hF,Nand.Like.refl _⟩) λz hI=>?_;obtain⟨i,P,U⟩:=z;dsimp only at hI ⊢;obtain⟨hi,hgo,hP,hU,hlk⟩:=hI;refine J.qd (λ_ h1=>?_) λ_ h1=>?_
 ·simp only[decide_eq_true_eq,Int.ofNat_lt]at h1;obtain⟨x,hx⟩:∃x,L[i]? =some x:=⟨_,List.getElem?_eq_getElem h1⟩;have hdr:L.drop i=x::L.drop (i+1):=by
   obtain⟨h2,h3⟩:=List.getElem?_eq_some_iff.1 hx;rw[List.drop_eq_getElem_cons h2,h3]
  rw[hdr,Dv.clearGo]at hgo;have hP1:P.Gd (6+(6*(L.length-(i+1))+k)) mm:=hP.less (by omega) (Nat.le_refl _);have hk:=Dv.erase_keep hP1 hU x;refine J.know (λh' s=>f8 (c:=(a,c)) (by omega) (s.get (i:=4) rfl)) λhg=>?_;obtain⟨g,rfl⟩:=hg;refine J.q λ_=>?_;refine J.v (iI x) rfl rfl (λhg aa w he hw=>i5 tk rfl rfl he rfl rfl rfl (hw.get (i:=4) rfl) (by rw[show 0+(i:Int).toNat*1=i from by omega,d6,List.getElem?_map,hx];rfl)) ?_;refine J.qp (a9k n t P U _ mm hP1 hmm hU x) [1,2] λ_=>?_;generalize Dv.erase P U x=W at hgo hk ⊢;obtain⟨P',U',er⟩:=W;dsimp only at hgo hk ⊢;refine J.qd (λ_ h2=>?_) λ_ h2=>?_
  ·simp only[bne_iff_ne,ne_eq]at h2;rw[if_pos h2]at hgo;refine J.qr [1,2,3] λ_=>?_;rw[<- hgo];exact⟨rfl,rfl⟩
  ·simp only[bne_eq_false_iff_eq]at h2;rw[if_neg (by rw[h2];decide)]at hgo;refine J.q λ_=>?_;refine J.n ((i+1,P',U')) (⟨by dsimp only;omega,hgo,hk.1,hk.2.1.like hk.2.2,hlk.trans hk.2.2⟩) (by dsimp only;omega) [0,1,2,3,4]
 ·simp only[decide_eq_false_iff_not,Int.ofNat_lt]at h1;rw[List.drop_of_length_le (by omega),Dv.clearGo]at hgo;refine J.qr [1,2,3] λ_=>?_;rw[<- hgo];exact⟨rfl,rfl⟩
theorem X1 (n t l p:Nat) (S:Dv) (k mm:Nat) (hO:S.Ok (Dv.costM+k) mm) (hmm:mm<=1000):FP 83 [pp n,pp t,pp l,pp p] (DvP p n t l S)
  (Ps (iI S.room.2) (DvP p n t l S.room.1)):=by
 have hbd:=hO.gd.ok.bd16;have htb:=hO.t.b;have hC:=Dv.clear_keep (S:=S) (k:=Dv.costR*16+k) (m:=mm) (hO.less (by unfold Dv.costM;omega));refine FE [3,4,5,2] Tryz.func83 λX F hX=>?_;refine J.qF λ_=>?_;refine J.qp (O3 p n t l S) [1] λ_=>?_;refine J.q λ_=>?_;refine J.ca hX (by kernel_rfl) (X2 n t l S.N S.t S.T (Dv.costR*16+k) mm (hO.gd.less (by unfold Dv.costM;omega) (Nat.le_refl _)) hmm hO.t S.op) [2,3,4] 0 rfl rfl rfl rfl rfl rfl (λ_=>rfl) ?_;refine cpq ⟨_,rfl,trivial,?_⟩;have hroom:S.room=if S.clear.2≠0 then S.clear else Dv.roomGo S.t.b S.clear.1:=rfl
 refine J.qd (λ_ h1=>?_) λ_ h1=>?_
 ·simp only[bne_iff_ne,ne_eq]at h1;have h1:S.clear.2≠0:=h1;rw[if_pos h1]at hroom;refine J.qr [1,2,3,4] λ_=>?_;rw[hroom];exact⟨rfl,rfl⟩
 simp only[bne_eq_false_iff_eq]at h1;have h1:S.clear.2=0:=h1;rw[if_neg (by rw[h1];decide)]at hroom;have hB:S.clear.1.t.b=S.t.b:=by have:=hC.1.t.b;have:=hC.2.1.blocks;omega
 refine J.qp (a1j t S.clear.1.t) [3] λ_=>?_;rw[hB];refine J.q λ_=>?_;refine J.l (α:=(Nat×Dv)) (λz=>z.1<=S.t.b/\Dv.roomGo (S.t.b-z.1) z.2=S.room/\z.2.Ok (Dv.costR*(S.t.b-z.1)+k) mm) (λz=>[si 40 z.1,si 39 S.t.b,⟨0,pp n,3, .tt⟩,⟨1,pp t,4, .tt⟩,⟨2,pp l,5, .tt⟩,⟨3,pp p,2, .tt⟩]) [1,2,3,4] (λz=>DvP p n t l z.2) (λz=>S.t.b-z.1) ((0,S.clear.1)) (⟨Nat.zero_le _,hroom.symm,hC.1.less (by dsimp only;have:Dv.costR*(S.t.b-0)<=Dv.costR*16:=Nat.mul_le_mul_left _ (by omega);omega)⟩) λz hI=>?_;obtain⟨i,Q⟩:=z;dsimp only at hI ⊢;obtain⟨hi,hgo,hQ⟩:=hI;have hQb:=hQ.gd.ok.bd16;have hQt:=hQ.t.b;have hQp:=hQ.t.p;have hlb:=hQ.t.len;refine J.qd (λ_ h2=>?_) λ_ h2=>?_
 ·simp only[decide_eq_true_eq,Int.ofNat_lt]at h2;obtain⟨j,hj⟩:∃j,S.t.b-i=j+1:=⟨S.t.b-i-1,by omega⟩;have hj1:S.t.b-(i+1)=j:=by omega
  rw[hj,Dv.roomGo]at hgo;rw[hj]at hQ;refine J.qp (O3 p n t l Q) [1] λ_=>?_;refine J.qp (a9N t Q.t (by omega) hlb l Q.T Q.op) [3,4] λ_=>?_;refine J.qd (λ_ h3=>?_) λ_ h3=>?_
  ·simp only[decide_eq_true_eq]at h3;have h3:(Q.free:Int)>4:=h3;rw[if_pos h3]at hgo;refine J.qr [1,2,3,4] λ_=>?_;rw[<- hgo];exact⟨rfl,rfl⟩
  simp only[decide_eq_false_iff_not]at h3;have h3:¬(Q.free:Int)>4:=h3;rw[if_neg h3]at hgo;refine J.qp (O3 p n t l Q) [1] λ_=>?_;refine J.qp (a5a t Q.t (by omega) hlb l Q.T Q.op) [3,4] λ_=>?_;rw[show A4 (λx y=>orI [s4 (Q.T.count x) (Q.T.count y),s4 (Q.t.wear x) (Q.t.wear y)]) (g5 (L4 Q.t Q.T) Q.op Q.t.b)=Q.victim from rfl];obtain⟨vv,hvv⟩:∃v,v=Q.victim:=⟨_,rfl⟩;rw[<- hvv]at hgo ⊢;refine J.qn 7 λ_=>?_;cases h4:decide (vv<0)with
  | true=>
   have h4':vv<0:=by simpa using h4
   rw[if_pos (.inl h4')]at hgo;refine J.q λ_=>?_;refine J.v (iI 0) rfl rfl (λhg a w he hs=>absurd hg (by simp[G.on])) ?_;refine J.q λ_=>?_;refine J.v (.agg #[iI 0,iI 0,iI 0]) rfl rfl (λhg a w he hs=>absurd hg (by simp[G.on])) ?_;refine J.q λ_=>?_;refine J.v (iI 0) rfl rfl (λhg a w he hs=>absurd hg (by simp[G.on])) ?_;refine J.q λ_=>?_;refine J.v (iI 0) rfl rfl (λhg a w he hs=>absurd hg (by simp[G.on])) ?_;refine J.qT λ_=>?_;refine J.qr [1,2,3,4] λ_=>?_;rw[<- hgo];exact⟨rfl,rfl⟩
  | false=>
   have h4':¬vv<0:=by simpa using h4
   have hsb:=Dv.slots_le (Q.t.mask vv);have hmul:0<=(Q.t.p:Int)*G.slots (Q.t.mask vv)/\(Q.t.p:Int)*G.slots (Q.t.mask vv)<=8*7:=⟨Int.mul_nonneg (by omega) hsb.1,Int.mul_le_mul (by omega) hsb.2 hsb.1 (by omega)⟩;refine J.qp (z8 l Q.T vv) [4] λ_=>?_;refine J.qp (a1j t Q.t) [3] λ_=>?_;refine J.qp (J6 t Q.t (by omega) hlb vv) [3] λ_=>?_;refine J.qp (D8 (Q.t.mask vv)) [] λ_=>?_;refine J.qd (λ_ h5=>?_) λ_ h5=>?_
   ·have h5':Q.T.count vv>=Q.t.p*G.slots (Q.t.mask vv):=by simpa using h5
    rw[if_pos (.inr h5')]at hgo;refine J.qr [1,2,3,4] λ_=>?_;rw[<- hgo];exact⟨rfl,rfl⟩
   have h5':¬Q.T.count vv>=Q.t.p*G.slots (Q.t.mask vv):=by simpa using h5
   rw[if_neg (by rintro(e | e)<;>contradiction)]at hgo;dsimp only at hgo;have hQ1:Q.Ok (Dv.costC+(96+(Dv.costR*j+k))) mm:=hQ.less (by unfold Dv.costR;rw[Nat.mul_succ];omega);have hc:=Dv.carry_keep hQ1 vv (Q.T.count vv);refine J.qp (z8 l Q.T vv) [4] λ_=>?_;refine J.qp (a1o n t l p Q _ mm hQ1 vv (Q.T.count vv)) [1,2,3,4] λ_=>?_;generalize Q.carry vv (Q.T.count vv)=W at hgo hc ⊢;obtain⟨P,cn,er⟩:=W;dsimp only at hgo hc ⊢;refine J.qd (λ_ h6=>?_) λ_ h6=>?_
   ·simp only[bne_iff_ne,ne_eq]at h6;rw[if_pos h6]at hgo;refine J.qr [1,2,3,4] λ_=>?_;rw[<- hgo];exact⟨rfl,rfl⟩
   simp only[bne_eq_false_iff_eq]at h6;rw[if_neg (by rw[h6];decide)]at hgo;have hcl:=Dv.clear_keep hc.1;refine J.qp (O3 p n t l P) [1] λ_=>?_;refine J.qp (X2 n t l P.N P.t P.T (Dv.costR*j+k) mm hc.1.gd hmm hc.1.t P.op) [2,3,4] λ_=>?_;refine J.qd (λ_ h7=>?_) λ_ h7=>?_
   ·simp only[bne_iff_ne,ne_eq]at h7;have h7:P.clear.2≠0:=h7;rw[if_pos h7]at hgo;refine J.qr [1,2,3,4] λ_=>?_;rw[<- hgo];exact⟨rfl,rfl⟩
   ·simp only[bne_eq_false_iff_eq]at h7;have h7:P.clear.2=0:=h7;rw[if_neg (by rw[h7];decide)]at hgo;refine J.q λ_=>?_;refine J.n ((i+1,P.clear.1)) (⟨by dsimp only;omega,by dsimp only;rw[hj1];exact hgo,by dsimp only;rw[hj1];exact hcl.1⟩) (by dsimp only;omega) [0,1,2,3,4]
 ·simp only[decide_eq_false_iff_not,Int.ofNat_lt]at h2;have hz:S.t.b-i=0:=by omega
  rw[hz,Dv.roomGo]at hgo;refine J.qr [1,2,3,4] λ_=>?_;rw[<- hgo];exact⟨rfl,rfl⟩
theorem a2w (l:List Int) (f:Int->Int) (i:Nat) (x:Int) (h:l[i]? =some x):((l.take (i+1)).map f).sum=((l.take i).map f).sum+f x:=by
 rw[List.take_add_one,h,Option.toList_some,List.map_append,List.sum_append];simp
theorem b3B (l:List Int) (f:Int->Int) (c:Int) (hc:0<=c) (hf:∀x,0<=f x/\f x<=c):0<=(l.map f).sum/\(l.map f).sum<=c*l.length:=by
 induction l with
 | nil=>simp
 | cons x l ih=>
  have:=hf x;simp only[List.map_cons,List.sum_cons,List.length_cons,Int.natCast_add,Int.mul_add];omega
theorem a7a (t l:Nat) (S:Dv) (k mm:Nat) (hO:S.Ok k mm):FP 65 [pp t,pp l] [TlA t S.t,TbA l S.T]
  (Ps (iI S.leftN) [TlA t S.t,TbA l S.T]):=by
 have hbd:=hO.gd.ok.bd16;have htb:=hO.t.b;have hlog:=hO.T.log;obtain⟨L,hL⟩:∃L,L=S.hurts:=⟨_,rfl⟩;have hLl:L.length<=16:=by have:=A5 (I0 S.t S.T) (-1) S.t.b;rw[hL];unfold Dv.hurts;omega
 have hs:=λi=>b3B (L.take i) S.T.count 1000000 (by omega) (λx=>hO.T.bd x);refine FE [2,3] Tryz.func65 λX F hX=>?_;refine J.qc (a6g t S.t (by omega) hO.t.len l S.T S.T.logical.toNat (by omega) (by omega)) [1,2] λ_=>?_;rintro v As ⟨a,c,rfl,rfl⟩;refine⟨_,rfl,trivial,?_⟩;rw[show g5 (I0 S.t S.T) (-1) S.t.b=L from hL.symm];refine J.q λ_=>?_;refine J.l (α:=Nat) (λi=>i<=L.length) (λi=>[si 12 i,si 11 L.length,sv 10 (slv a L.length c),⟨5,iI ((L.take i).map S.T.count).sum,0, .tt⟩,⟨1,pp l,3, .tt⟩]) [] (λi=>[]) (λi=>L.length-i) (0) (Nat.zero_le _) λi hI=>?_;have hsi:=hs i;have htl:((L.take i).length:Int)<=16:=by rw[List.length_take];omega
 refine J.qd (λ_ h1=>?_) λ_ h1=>?_
 ·simp only[decide_eq_true_eq,Int.ofNat_lt]at h1;obtain⟨x,hx⟩:∃x,L[i]? =some x:=⟨_,List.getElem?_eq_getElem h1⟩;have hxb:=hO.T.bd x;have hsu:=a2w L S.T.count i x hx;refine J.know (λh' s=>f8 (c:=(a,c)) (by omega) (s.get (i:=3) rfl)) λhg=>?_;obtain⟨g,rfl⟩:=hg;refine J.q λ_=>?_;refine J.v (iI x) rfl rfl (λhg aa w he hw=>i5 tk rfl rfl he rfl rfl rfl (hw.get (i:=3) rfl) (by rw[show 0+(i:Int).toNat*1=i from by omega,d6,List.getElem?_map,hx];rfl)) ?_;refine J.qp (z8 l S.T x) [2] λ_=>?_;refine J.q λ_=>?_;rw[<- hsu];refine J.q λ_=>?_;refine J.n (i+1) (by omega) (by omega) [0,1,2,3]
 ·simp only[decide_eq_false_iff_not,Int.ofNat_lt]at h1;refine J.qr [1,2] λ_=>?_;rw[List.take_of_length_le (by omega),hL];exact⟨rfl,rfl⟩
theorem a6Z (n t l p:Nat) (S:Dv) (k mm:Nat) (hO:S.Ok (Dv.costS+k) mm) (hmm:mm<=1000) (most:Int):FP 61 [pp n,pp t,pp l,pp p,iI most] (DvP p n t l S)
  (Ps (.tuple #[iI (S.step most).2.1,iI (S.step most).2.2]) (DvP p n t l (S.step most).1)):=by
 have hbd:=hO.gd.ok.bd16;have htd:=hO.t.d;have htb:=hO.t.b;refine FE [3,4,5,2,0] Tryz.func61 λX F hX=>?_;refine J.qp (a1j t S.t) [3] λ_=>?_;refine J.q λ_=>?_;refine J.l (α:=(Nat×Tl)) (λz=>z.1<=S.t.d/\(List.range z.1).foldl (λt (d:Nat)=>if S.N.deadAt d then t.die d else t) S.t=z.2/\z.2.Fit S.N) (λz=>[si 18 z.1,si 17 S.t.d,⟨0,pp n,3, .tt⟩,⟨1,pp t,4, .tt⟩,⟨2,pp l,5, .tt⟩,⟨3,pp p,2, .tt⟩,si 4 most]) [3] (λz=>[TlA t z.2]) (λz=>S.t.d-z.1) ((0,S.t)) (⟨Nat.zero_le _,rfl,hO.t⟩) λz hI=>?_;obtain⟨d,U⟩:=z;dsimp only at hI ⊢;obtain⟨hd,hfo,hU⟩:=hI;refine J.qd (λ_ h1=>?_) λ_ h1=>?_
 ·simp only[decide_eq_true_eq,Int.ofNat_lt]at h1;have hsu:(List.range (d+1)).foldl (λt (d:Nat)=>if S.N.deadAt d then t.die d else t) S.t=if S.N.deadAt d then U.die d else U:=by rw[List.range_succ,List.foldl_append,hfo];rfl
  refine J.qp (a1L n S.N hO.gd.ok d) [2] λ_=>?_;refine J.qd (λ_ h2=>?_) λ_ h2=>?_
  ·rw[if_pos h2]at hsu;refine J.qp (W9 t U d) [3] λ_=>?_;refine J.q λ_=>?_;refine J.n ((d+1,U.die d)) (⟨by dsimp only;omega,hsu,hU.die d⟩) (by dsimp only;omega) [0,1,2,3,4]
  ·rw[if_neg (by rw[h2];decide)]at hsu;refine J.q λ_=>?_;refine J.n ((d+1,U)) (⟨by dsimp only;omega,hsu,hU⟩) (by dsimp only;omega) [0,1,2,3,4]
 simp only[decide_eq_false_iff_not,Int.ofNat_lt]at h1;obtain rfl:d=S.t.d:=by omega
 have hseen:S.seen={S with t:=U}:=by unfold Dv.seen Dv.seeDead;rw[hfo]
 have hO1:S.seen.Ok (Dv.costM+(Dv.costC+k)) mm:=hO.seen.less (by unfold Dv.costS;omega);have hr:=Dv.room_keep hO1;obtain⟨Q,hQ⟩:∃Q,Q=S.seen:=⟨_,rfl⟩;have hQO:Q.Ok (Dv.costM+(Dv.costC+k)) mm:=by rw[hQ];exact hO1
 have hst:S.step most=(let r:=Q.room;if r.2≠0 then(r.1,0,r.2)else match r.1.hurts with | []=>(r.1,0,0) | b::_=>r.1.carry b most):=by rw[hQ];rfl
 rw[show d8 n S.N=d8 n Q.N from by rw[hQ];rfl,show TbA l S.T=TbA l Q.T from by rw[hQ];rfl,show TlA t U=TlA t Q.t from by rw[hQ,hseen],show J5 p n t l S=J5 p n t l Q from by rw[hQ];rfl];rw[<- hQ]at hr;refine J.qp (X1 n t l p Q _ mm hQO hmm) [1,2,3,4] λ_=>?_;dsimp only at hst;generalize Q.room=W at hst hr ⊢;obtain⟨P,er⟩:=W;dsimp only at hst hr ⊢;refine J.qd (λ_ h2=>?_) λ_ h2=>?_
 ·simp only[bne_iff_ne,ne_eq]at h2;rw[if_pos h2]at hst;refine J.qr [1,2,3,4] λ_=>?_;rw[hst];exact⟨rfl,rfl⟩
 simp only[bne_eq_false_iff_eq]at h2;rw[if_neg (by rw[h2];decide)]at hst;have hPb:=hr.1.gd.ok.bd16;have hPt:=hr.1.t.b;have hlog:=hr.1.T.log;have hLl:=A5 (I0 P.t P.T) (-1) P.t.b;refine J.qc (a6g t P.t (by omega) hr.1.t.len l P.T P.T.logical.toNat (by omega) (by omega)) [3,4] λ_=>?_;rintro v As ⟨a,c,rfl,rfl⟩;refine⟨_,rfl,trivial,?_⟩;have hh:g5 (I0 P.t P.T) (-1) P.t.b=P.hurts:=rfl;rw[hh]at hLl ⊢;generalize P.hurts=L at hst hLl ⊢;cases L with
 | nil=>
  refine J.qT λ_=>?_;refine J.qr [1,2,3,4] λ_=>?_;rw[hst];exact⟨rfl,rfl⟩
 | cons b L=>
  refine J.know (λh' s=>f8 (c:=(a,c)) (by simp) (s.get (i:=5) rfl)) λhg=>?_;obtain⟨g,rfl⟩:=hg;refine J.q λ_=>?_;refine J.cond rfl (λh=>absurd h (by rw[beq_iff_eq,List.length_cons];omega)) (λ_=>?_);refine J.q λ_=>?_;refine J.v (iI b) rfl rfl (λhg aa w he hw=>i5 tk rfl rfl he rfl rfl rfl (hw.get (i:=5) rfl) rfl) ?_;dsimp only at hst;refine J.qp (a1o n t l p P _ mm hr.1 b most) [1,2,3,4] λ_=>?_;refine J.qr [1,2,3,4] λ_=>?_;rw[hst];exact⟨rfl,rfl⟩
end Go.Proofs.YtpohajhbfllbbaaGreat
namespace Go.Proofs.YtpohajhbfllbbaaGreat
namespace Bt
end Bt
namespace S
end S
end Go.Proofs.YtpohajhbfllbbaaGreat
namespace Go.Proofs.YtpohajhbfllbbaaGreat
open Go Go.RowKit
namespace Nand
variable {N : Nand}
end Nand
theorem b2b (g c:Nat):FP 146 [slv (some g) 1 c] [c8 35 7 (some g) 1 c (ft 3 4 2 0 0)]
  (λv As=>∃a' c',v=slv a' 1 c'/\As=[c8 35 7 (some g) 1 c (ft 3 4 2 0 0),c8 35 7 a' 1 c' (ft 3 4 2 0 0)]):=by
 refine FE [0] Tryz.func146 λX F hX=>?_;refine J.qF λ_=>?_;refine J.qn 5 λbb=>?_;refine J.closeOwn (e:=35) (size:=7) (n:=0) (cap:=0) (xs:=[]) 2 rfl rfl rfl (Nat.le_refl _) (Nat.zero_le _) rfl rfl rfl ?_;refine J.q λ_=>?_;refine J.appendR hX tk (a:=some (bb 0)) (n:=0) (cap:=0) (xs:=[]) (oo:=0) (Ay:=c8 35 7 (some g) 1 c (ft 3 4 2 0 0)) 2 1 0 rfl rfl rfl rfl rfl rfl rfl rfl rfl rfl (w7 _ _ (some g) _ _ _) rfl rfl rfl rfl (by decide) (by decide) (by decide) (λ_=>rfl) λa' c'=>⟨_,rfl,trivial,?_⟩;refine J.qr [1,2] λ_=>?_;exact⟨a',c',rfl,rfl⟩
theorem b4L (p g c:Nat):FP 95 [pp p,iI 3] [.pt p 155 [slv (some g) 1 c],c8 35 7 (some g) 1 c (ft 3 4 2 0 0)]
  (λv As=>∃x a' c',v=slv a' 1 c'/\As=[.pt p 155 [x],c8 35 7 (some g) 1 c (ft 3 4 2 0 0),c8 35 7 a' 1 c' (ft 3 4 2 0 0)]):=by
 refine FE [2,0] Tryz.func95 λX F hX=>?_;refine J.know (p:=1<=c) (λh' s=>by obtain⟨_,cur,h1,h2,_⟩:=s.get (i:=2) rfl;exact h2) λhc=>?_;refine J.qF λ_=>?_;refine J.q λ_=>?_;refine J.l (α:=Nat) (λk=>k<=1) (λk=>[si 5 k,⟨0,pp p,2, .tt⟩,si 1 3]) [] (λk=>[]) (λk=>1-k) (0) (Nat.zero_le _) λk hI=>?_;rcases(by omega:k=0\/k=1)with rfl | rfl
 ·refine J.q λ_=>?_;refine J.v (iI 3) rfl rfl (λhg a w he hw=>i5 tk rfl rfl he hg rfl rfl (hw.get (i:=2) rfl) rfl) ?_;refine J.qT λ_=>?_;refine J.q λ_=>?_;refine J.n (1) (by omega) (by omega) [0,1,2]
 ·refine J.q λ_=>?_;refine J.v (iI 3) rfl rfl (λhg a w he hw=>absurd hg (by decide)) ?_;refine J.qF λ_=>?_;refine J.qc (b2b g c) [2] λ_=>?_;rintro v As ⟨a',c',rfl,rfl⟩;refine⟨_,rfl,trivial,?_⟩;refine J.qn 10 λ_=>?_;refine J.v (.slice (if c=1 then some ⟨g,0,none⟩else some ⟨g,7,none⟩) 0 (c-1)) rfl rfl (λhg a w he hw=>?_) ?_
  ·have e1:=f7 he (x:= .tmp 41) (s:=sv 41 (slv (some g) 1 c)) rfl;have e2:=f7 he (x:= .tmp 42) (s:=⟨42,iI ((1:Nat):Int),0, .tt⟩) rfl;simp only[Slot.val,G.on]at e1 e2;obtain⟨d,f,zv,ok⟩:=d7 (tk.get (t:=24) rfl);obtain⟨fe,rfl,g1,g2⟩:=ok.slice rfl;simp only[execOp,Option.map_some,Option.map_none,e1,e2,slv,Instr.sliceAt,Instr.slice,Instr.sliceBounds,Instr.sliceBound,asIntOf,Sem.run_bind,Sem.run_pure,Result.andThen_ok,d4 ok.hd,i9 g1,g2]
   by_cases h:c=1
   ·subst h;simp
   ·simp[h,Addr.add_none]
  refine J.qr [1,2,3] λ_=>?_;exact⟨_,a',c',rfl,rfl⟩
theorem b4J (p g c q:Nat) (N:Nand) (hN:N.Ok) (ho:N.ops=3):FP 50 [pp p,pp q] [.pt p 155 [slv (some g) 1 c],c8 35 7 (some g) 1 c (ft 3 4 2 0 0),d8 q N]
  (Ps (iI 1) [.emp, .emp,d8 q (N.fault 4 2 0 0 0 0).2]):=by
 refine FE [2,0] Tryz.func50 λX F hX=>?_;refine J.qp (a9Y q N) [3] λ_=>?_;rw[ho];refine J.qc (b4L p g c) [1,2] λ_=>?_;rintro v As ⟨x,a',c',rfl,rfl⟩;refine⟨_,rfl,trivial,?_⟩;refine J.know (λh' s=>f8 (c:=(a',c')) (by decide) (s.get (i:=4) rfl)) λhg=>?_;obtain⟨g',rfl⟩:=hg;refine J.q λ_=>?_;refine J.l (α:=Nat) (λk=>k<=1) (λk=>[si 14 k,si 13 1,sv 12 (slv (some g') 1 c'),sv 5 (slv (some g') 1 c'),sp 1 q]) [3] (λk=>[d8 q (if k=0 then N else(N.fault 4 2 0 0 0 0).2)]) (λk=>1-k) (0) (Nat.zero_le _) λk hI=>?_;rcases(by omega:k=0\/k=1)with rfl | rfl
 ·refine J.qT λ_=>?_;refine J.q λ_=>?_;refine J.v (.agg (ft 3 4 2 0 0).toArray) rfl rfl (λhg a w he hw=>j6 tk rfl rfl he rfl rfl rfl (hw.get (i:=4) rfl) rfl rfl) ?_;refine J.qp (O5 q N hN 3 4 2 0 0 0 0) [3] λ_=>?_;refine J.q λ_=>?_;refine J.n (1) (by omega) (by omega) [0,1,2,3,4]
 ·refine J.qF λ_=>?_;refine J.turn1 [1,2] rfl (As:=[.emp, .emp]) (λh s=>⟨λ_=>0,λi A hA=>by
   match i,hA with
   | 0,hA=>simp at hA;subst hA;trivial
   | 1,hA=>simp at hA;subst hA;trivial
   | k+2,hA=>simp at hA⟩) rfl ?_
  exact J.qx [1,2,3]
def SpS (q:Nat) (l:List (A3×Value)):Atom:=exA λmr:Nat=>[.pt q 352 [.map (some mr)],s7 mr a3v l]
theorem a4J:Tryz.prog.underlying 350=some (.map 33 9):=by kernel_rfl
def sE:Value:= .string ⟨#[]⟩
theorem b4w (w:World):(zeroValue 9).run Tryz.prog w= .ok sE w:=by kernel_rfl
theorem b4F:FP 297 [] [] (λv As=>∃q,v=pp q/\As=[SpS q []]):=by
 refine FE [] Tryz.func297 λX F hX=>?_;refine J.q λbs=>?_;refine J.turn1 [1] rfl (As:=[s7 (bs 0) a3v ([]:List (A3×Value))]) (λh s=>?_) rfl ?_
 ·refine⟨λ_=>0,λi A hA=>?_⟩;cases i with
  | zero=>simp at hA;subst hA;exact⟨#[],0,res_some.2 ⟨rfl,s.get (i:=0) rfl⟩,rfl,by simp,by simp⟩
  | succ k=>simp at hA
 refine J.cl (λmr:Nat=>[.pt (bs 1) 352 [.map (some mr)],s7 mr a3v ([]:List (A3×Value))]) (bs 0) [2,1] ?_;refine J.qr [2] λ_=>?_;exact⟨bs 1,rfl,rfl⟩
theorem b4G (q:Nat) (l:List (A3×Value)):FP 302 [pp q] [SpS q l] (Ps (iI (l.length:Int)) [SpS q l]):=by
 refine FE [2] Tryz.func302 λX F hX=>?_;refine J.o (α:=Nat) 1 λmr=>?_;refine J.qF λ_=>?_;refine J.q λ_=>?_;refine J.v (iI (l.length:Int)) rfl rfl (λhg a w he hw=>a0v a4J rfl rfl he rfl (hw.get (i:=2) rfl)) ?_;refine J.cl (λmr:Nat=>[.pt q 352 [.map (some mr)],s7 mr a3v l]) mr [1,2] ?_;exact J.qx [1]
theorem b3f (q:Nat) (l:List (A3×Value)) (x y z:Int):FP 299 [pp q, .agg #[iI x,iI y,iI z]] [SpS q l]
  (Ps (.tuple #[(p6 l (x,y,z)).getD sE, .bool (p6 l (x,y,z)).isSome]) [SpS q l]):=by
 refine FE [2,0] Tryz.func299 λX F hX=>?_;refine J.o (α:=Nat) 1 λmr=>?_;refine J.qF λ_=>?_;refine J.pq (.of [0,4,8,13,17,21,24,28,32,36,40]) [10] [1,2,3] λ_ _=>?_;refine J.vT (.tuple #[(p6 l (x,y,z)).getD sE, .bool (p6 l (x,y,z)).isSome]) rfl rfl (λ_ a w he hC=>?_) ?_
 ·exact(i6 (key:=(x,y,z)) C7 a4J (z:=sE) b4w rfl rfl rfl rfl he rfl rfl (hC rfl _ (f0 (i:=2) rfl))).trans rfl
 refine J.cl (λmr:Nat=>[.pt q 352 [.map (some mr)],s7 mr a3v l]) mr [1,2] ?_;exact J.qx [1]
theorem b3e (q:Nat) (l:List (A3×Value)) (x y z:Int) (b:ByteArray):FP 298 [pp q, .agg #[iI x,iI y,iI z], .string b] [SpS q l]
  (Ps (.tuple #[]) [SpS q (H2 l (x,y,z) (.string b))]):=by
 refine FE [2,0,0] Tryz.func298 λX F hX=>?_;refine J.o (α:=Nat) 1 λmr=>?_;refine J.qT λ_=>?_;refine J.pq (.of [0,4,8,13,17,20,27]) [6] [1,2,3] λ_ _=>?_;refine J.mapUpdate hX C7 a4J (x,y,z) 2 rfl rfl rfl rfl rfl rfl rfl rfl rfl rfl rfl rfl (λ_=>rfl) rfl ⟨trivial,?_⟩;refine J.cl (λmr:Nat=>[.pt q 352 [.map (some mr)],s7 mr a3v (H2 l (x,y,z) (.string b))]) mr [1,2] ?_;refine J.q λ_=>?_;refine J.f [1] ?_;exact⟨rfl,rfl⟩
theorem a8G {l:List (A3×Value)} {k:A3} (h:(p6 l k).isSome=false):W4 l k=l:=by
 refine a0B l k 0 ?_;have:=a2n l k 0;cases hf:fi l k 0 with
 | none=>rfl
 | some x=>rw[hf]at this;rw[<- this]at h;cases h
theorem a9h (q:Nat) (l:List (A3×Value)) (x y z:Int):FP 304 [pp q, .agg #[iI x,iI y,iI z]] [SpS q l]
  (Ps (.bool (p6 l (x,y,z)).isSome) [SpS q (W4 l (x,y,z))]):=by
 refine FE [2,0] Tryz.func304 λX F hX=>?_;refine J.qp (b3f q l x y z) [1] λ_=>?_;refine J.qd (λ_ h=>?_) λ_ h=>?_
 ·refine J.o (α:=Nat) 1 λmr=>?_;refine J.pq (.of [0,4,8,13,17,22]) [] [1,2] λ_ _=>?_;refine J.delete hX C7 a4J (x,y,z) 3 rfl rfl rfl rfl rfl rfl rfl rfl rfl rfl (λ_=>rfl) rfl ⟨⟨rfl,rfl,trivial⟩,?_⟩;refine J.cl (λmr:Nat=>[.pt q 352 [.map (some mr)],s7 mr a3v (W4 l (x,y,z))]) mr [1,3] ?_;exact J.qx [1]
 ·refine J.qr [1] λ_=>?_;exact⟨rfl,by rw[a8G h];rfl⟩
theorem a6d {l:List (A3×Value)} {is:List Nat} {j:Nat} {y:A3×Value} (hy:l[j]? =some y):g6 (A9 (l.map (·.1)) is)++[iI y.1.1,iI y.1.2.1,iI y.1.2.2]=g6 (A9 (l.map (·.1)) (is++[j])):=by
 simp[g6,A9,hy]
theorem b3g (q:Nat) (l:List (A3×Value)) (hl:l.length<=12):FP 300 [pp q] [SpS q l]
  (λv As=>∃a cap l0 l',l0.Perm (l.map (·.1))/\l'=S8 a0N l0/\v=slv a l'.length cap/\As=[SpS q l,c8 33 3 a l'.length cap (g6 l')]):=by
 refine FE [2] Tryz.func300 λX F hX=>?_;refine J.o (α:=Nat) 1 λmr=>?_;refine J.qF λ_=>?_;refine J.q λ_=>?_;refine J.rangeMap hX 2 a4J rfl rfl rfl rfl rfl rfl rfl (λ_=>rfl) (λ_=>rfl) λr=>⟨trivial,?_⟩;refine J.turn1 [] rfl (As:=[c8 33 3 none 0 0 (g6 (A9 (l.map (·.1)) []))]) (λh s=>Sep.one ⟨rfl,rfl,rfl⟩) rfl ?_;refine J.q λ_=>?_;refine J.l (α:=(List Nat×Option Nat×Nat)) (λx=>True) (λx=>[sp 11 r,sv 3 (slv x.2.1 x.1.length x.2.2)]) [2,3] (λx=>[itA mr r a3v l x.1,c8 33 3 x.2.1 x.1.length x.2.2 (g6 (A9 (l.map (·.1)) x.1))]) (λx=>l.length-x.1.length) (([],none,0)) (trivial) λx hI=>?_;obtain⟨is,a,cap⟩:=x;dsimp only;refine J.q λ_=>?_;refine J.know (p:=is.Nodup/\∀i∈is,i<l.length) (λh s=>?_) λhk=>?_
 ·obtain⟨_,_,_,_,_,_,_,_,h1,h2,_⟩:=s.get (i:=2) rfl;exact⟨h1,h2⟩
 have hle:=R7 _ _ hk.1 hk.2;refine J.rangeNext hX 2 rfl rfl rfl rfl rfl rfl rfl (λ_=>rfl) (λ_=>rfl) (λhp=>⟨trivial,?_⟩) (λj y hj hy=>⟨trivial,?_⟩)
 ·refine J.qF λ_=>?_;refine J.qp (a1u 269 a0N (by kernel_rfl) a6O a is.length cap (A9 (l.map (·.1)) is) (by simp[A9]) (by omega)) [3] λ_=>?_;refine J.turn1 [2] rfl (As:=[s7 mr a3v l]) (λh s=>b0w s) rfl ?_;refine J.cl (λmr:Nat=>[.pt q 352 [.map (some mr)],s7 mr a3v l]) mr [1,2] ?_;refine J.qr [1,3] λ_=>?_;have hlen:is.length=(S8 a0N (A9 (l.map (·.1)) is)).length:=by rw[(D1 _ _).length_eq];simp[A9]
  refine⟨a,cap,A9 (l.map (·.1)) is,S8 a0N (A9 (l.map (·.1)) is),a1D (by rw[List.length_map];exact hp),rfl,?_,?_⟩
  ·rw[<- hlen]
  ·rw[<- hlen];rfl
 ·have hjl:j<l.length:=(List.getElem?_eq_some_iff.1 hy).1;refine J.qT λ_=>?_;refine J.q λ_=>?_;have hlt:(is++[j]).length<=l.length:=R7 _ _ (by
   rw[List.nodup_append];exact⟨hk.1,by simp,λa ha b hb=>by simp at hb;subst hb;rintro rfl;exact hj ha⟩) (λi hi=>by
   rw[List.mem_append]at hi;rcases hi with hi | hi
   ·exact hk.2 i hi
   ·simp at hi;subst hi;exact hjl)
  rw[List.length_append,List.length_singleton]at hlt;refine J.rangeEntry hX 2 rfl rfl rfl rfl rfl rfl rfl hy rfl ⟨trivial,?_⟩;refine J.q λ_=>?_;refine J.append hX tk 3 5 0 rfl rfl rfl rfl rfl rfl rfl rfl rfl rfl rfl rfl rfl rfl rfl rfl ?_ ?_ (λ_=>rfl) λa' cap'=>⟨_,(congrArg (λz=>r8 _ 3 (c8 _ _ _ _ _ z)) (a6d hy)).trans rfl,trivial,?_⟩
  ·simp only[maxLen];omega
  ·omega
  refine J.q λ_=>?_;rw[show is.length+1=(is++[j]).length from by simp];refine J.q λ_=>?_;refine J.n ((is++[j],a',cap')) (trivial) (by dsimp only;rw[List.length_append,List.length_singleton];omega) [0,1,2,3]
theorem a9i (b4 b5:Nat) (die blk:Int) (x:A3):FP 308 (H3 x::[pp b4,pp b5]) [.pt b4 3 [iI die], .pt b5 3 [iI blk]]
  (Ps (.bool ((x.1 !=die)||(x.2.1 !=blk))) [.pt b4 3 [iI die], .pt b5 3 [iI blk]]):=by
 refine FE [0,2,3] Tryz.func308 λX F hX=>?_;exact J.qx [1,2]
theorem b1P (q:Nat) (l:List (A3×Value)) (hl:l.length<=12) (die blk:Int):FP 303 [pp q,iI die,iI blk] [SpS q l]
  (λv As=>∃a cap l',l'.Perm ((l.map (·.1)).filter λx=>!((x.1 !=die)||(x.2.1 !=blk)))/\v=slv a l'.length cap/\As=[SpS q l,c8 33 3 a l'.length cap (g6 l')]):=by
 refine FE [2,0,0] Tryz.func303 λX F hX=>?_;refine J.q λbb=>?_;refine J.cb (b3g q l hl) [1] ?_;rintro v As ⟨a,cap,l0,l',hp0,hl',rfl,rfl⟩;refine⟨_,rfl,trivial,?_⟩;have hp:l'.Perm (l.map (·.1)):=by rw[hl'];exact(D1 _ _).trans hp0
 refine J.q λ_=>?_;refine J.turn1 [2,3] rfl (As:=[.hp (HP.of [.pt (bb 0) 3 [iI die], .pt (bb 1) 3 [iI blk]])]) (λh s=>Sep.hpOf.2 s) rfl ?_;refine J.q λ_=>?_;refine J.ca hX (by kernel_rfl) (a4C 308 [pp (bb 0),pp (bb 1)] (λx=>(x.1 !=die)||(x.2.1 !=blk)) _ (by kernel_rfl) (λx=>Fn.pack (a9i (bb 0) (bb 1) die blk x)) a l'.length cap l' rfl (by rw[hp.length_eq,List.length_map];omega)) [4,2] 0 rfl rfl rfl rfl rfl rfl (λ_=>rfl) ?_;rintro v As ⟨l2,rfl,rfl,rfl⟩;refine⟨_,rfl,trivial,?_⟩;refine J.qr [1,4] λ_=>?_;exact⟨a,cap,_,hp.filter _,rfl,rfl⟩
end Go.Proofs.YtpohajhbfllbbaaGreat
