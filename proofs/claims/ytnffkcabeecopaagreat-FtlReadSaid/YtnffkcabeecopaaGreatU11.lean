/- Helpers. No condition. -/
import Derived.Test.YtnffkcabeecopaaGreatU03
import Derived.Test.YtnffkcabeecopaaGreatU04
import Derived.Test.YtnffkcabeecopaaGreatU06
import Derived.Test.YtnffkcabeecopaaGreatU07
import Derived.Test.YtnffkcabeecopaaGreatU08
import Derived.Test.YtnffkcabeecopaaGreatU09
import Derived.Test.YtnffkcabeecopaaGreatU10
import Derived.WideKeyEntry
set_option maxRecDepth 20000
set_option linter.all false
namespace Go.Proofs.YtnffkcabeecopaaGreat
open Go Go.RowKit
theorem b4x {T:Tb} (h:∀x∈T.at_,0<=x.2.slot/\x.2.slot<=1000) (i:Int):0<=((Tb.look T.at_ i).getD AtV.zero).slot/\((Tb.look T.at_ i).getD AtV.zero).slot<=1000:=by
 cases hl:Tb.look T.at_ i with
 | none=>show(0:Int)<=0/\(0:Int)<=1000;omega
 | some a=>exact h _ (Tb.look_mem hl)
theorem b4r (n l:Nat) (S:Dv) (k mm:Nat) (hO:S.Ok k mm) (i:Int):FP 173 [pp n,pp l,iI i] [f0 n S.N,TbA l S.T]
  (Ps (.tuple #[enV (S.rd i).1,iI (S.rd i).2]) [f0 n S.N,TbA l S.T]):=by
 have hsl:=b4x hO.sl i;refine FE [2,3,0] Tryz.func173 λX F hX=>?_;refine J.qp (a1j l S.T i) [2] λ_=>?_;have hrd:S.rd i=(let a:=(Tb.look S.T.at_ i).getD AtV.zero;let x:=R.read S.N a.block a.row a.slot a.mask;if x.2=9 then(En.zero,9)else if x.2≠0\/x.1.lpn≠i\/x.1.seq≠a.seq then(⟨i,0,4,zeros16⟩,0)else(x.1,0)):=rfl;generalize(Tb.look S.T.at_ i).getD AtV.zero=a at hsl hrd ⊢;generalize(Tb.look S.T.at_ i).isSome=is;refine J.qp (a5E n S.N hO.gd.ok hO.gd.room a.block a.row a.slot a.mask (by omega) (by omega)) [1] λ_=>?_;dsimp only at hrd;generalize R.read S.N a.block a.row a.slot a.mask=r at hrd ⊢;obtain⟨e,x⟩:=r;dsimp only at hrd ⊢;refine J.qd (λ_ h1=>?_) λ_ h1=>?_
 ·simp only[beq_iff_eq]at h1;rw[if_pos h1]at hrd;refine J.qr [1,2] λ_=>?_;rw[hrd,h1];exact⟨rfl,rfl⟩
 simp only[beq_eq_false_iff_ne,ne_eq]at h1;rw[if_neg h1]at hrd;refine J.qn 4 λ_=>?_;cases hx:(x !=0)with
 | true=>
  have hx':x≠0:=by simpa using hx
  rw[if_pos (.inl hx')]at hrd;refine J.qT λ_=>?_;refine J.qr [1,2] λ_=>?_;rw[hrd];exact⟨rfl,rfl⟩
 | false=>
  have hx':x=0:=by simpa using hx
  refine J.qn 5 λ_=>?_;cases hy:(e.lpn !=i)with
  | true=>
   have hy':e.lpn≠i:=by simpa using hy
   rw[if_pos (.inr (.inl hy'))]at hrd;refine J.qT λ_=>?_;refine J.qr [1,2] λ_=>?_;rw[hrd];exact⟨rfl,rfl⟩
  | false=>
   have hy':e.lpn=i:=by simpa using hy
   refine J.qd (λ_ h2=>?_) λ_ h2=>?_
   ·have hz:e.seq≠a.seq:=by simpa using h2
    rw[if_pos (.inr (.inr hz))]at hrd;refine J.qr [1,2] λ_=>?_;rw[hrd];exact⟨rfl,rfl⟩
   ·have hz:e.seq=a.seq:=by simpa using h2
    rw[if_neg (by rw[hx',hy',hz];simp)]at hrd;refine J.qr [1,2] λ_=>?_;rw[hrd];exact⟨rfl,rfl⟩
theorem a2m (a:Option Nat) (n c:Nat):slv a n c= .slice (oad a) n c:=by cases a<;>rfl
theorem b1Y (S:Dv) {C:List Int} {E:List En} {i:Nat} {x:Int} (h:S.rds C=(E++(S.rds (C.drop i)).1,(S.rds (C.drop i)).2)) (hx:C[i]? =some x):((S.rd x).2≠0->(S.rds C).2=(S.rd x).2)/\((S.rd x).2=0->S.rds C=((E++[(S.rd x).1])++(S.rds (C.drop (i+1))).1,(S.rds (C.drop (i+1))).2)):=by
 obtain⟨h1,h2⟩:=List.getElem?_eq_some_iff.1 hx;have hd:C.drop i=x::C.drop (i+1):=by rw[List.drop_eq_getElem_cons h1,h2]
 rw[hd]at h;rw[h];refine⟨λh0=>?_,λh0=>?_⟩
 ·rw[Dv.rds,if_pos h0]
 ·rw[Dv.rds,if_neg (by simp[h0])];simp
theorem a0A:∀(f:Nat) (S:Dv) (l:List En),0<=(Dv.write f S l).2.1/\(Dv.write f S l).2.1<=7
 | 0,S,l=>by show(0:Int)<=0/\(0:Int)<=7;omega
 | f+1,S,l=>by
  rw[Dv.write_succ];have hf:=Dv.fit_le S.at1 l;split
  ·show(0:Int)<=0/\(0:Int)<=7;omega
  split
  ·show(0:Int)<=0/\(0:Int)<=7;omega
  split
  ·show(0:Int)<=0/\(0:Int)<=7;omega
  split
  ·show(0:Int)<=0/\(0:Int)<=7;omega
  split
  ·show(0:Int)<=(S.at1.fit l:Int)/\(S.at1.fit l:Int)<=7;omega
  split
  ·show(0:Int)<=0/\(0:Int)<=7;omega
  ·exact a0A f _ l
set_option maxHeartbeats 1000000 in
theorem a2I (n t l p:Nat) (S:Dv) (k mm:Nat) (hO:S.Ok (Dv.costC+k) mm) (b most:Int):FP 117 [pp n,pp l,pp p,iI b,iI most] (DvP p n t l S)
  (Ps (.tuple #[iI (S.carry b most).2.1,iI (S.carry b most).2.2]) (DvP p n t l (S.carry b most).1)):=by
 have hlog:=hO.T.log;have hins:=Dv.ins_le hO b;obtain⟨L,hL⟩:∃L,L=S.T.ins b:=⟨_,rfl⟩;obtain⟨u,hu⟩:∃u:Nat,u=min (max most 0).toNat L.length:=⟨_,rfl⟩;refine FE [3,5,2,0,0] Tryz.func117 λX F hX=>?_;refine J.qF λ_=>?_;refine J.qc (b1I l S.T S.T.logical.toNat (by omega) (by omega) b) [4] λ_=>?_;rintro v As ⟨a,c,rfl,rfl⟩;refine⟨_,rfl,trivial,?_⟩;rw[<- hL];refine J.know (λh' s=>I2 (show I7 _ _ a L.length c _ _ from s.get (i:=5) rfl)) λhcap=>?_;rw[<- hL]at hins;have hmin:(if(L.length:Int)<(if(0:Int)>most then 0 else most)then(L.length:Int)else(if(0:Int)>most then 0 else most))=(u:Int):=by rw[b7O,min2,hu];omega
 have hul:u<=L.length:=by omega
 refine J.qn 10 λ_=>?_;rw[hmin,a2m];refine J.v (.slice (oad a) u c) rfl rfl (λhg aa w he hw=>Z5 tk rfl rfl rfl he rfl rfl rfl rfl (by omega)) ?_;refine J.q λ_=>?_;have hcar:S.carry b most=Dv.carryGo (L.take u).length S (L.take u) 0:=by
  unfold Dv.carry;rw[<- hL];have:L.take (max most 0).toNat=L.take u:=by
   rw[hu]
   by_cases hle:(max most 0).toNat<=L.length
   ·rw[Nat.min_eq_left hle]
   ·rw[Nat.min_eq_right (by omega),List.take_of_length_le (by omega),List.take_of_length_le (Nat.le_refl _)]
  rw[this]
 have htl:(L.take u).length=u:=by rw[List.length_take];omega
 rw[htl]at hcar;refine J.q λ_=>?_;refine J.l (α:=(Nat×Nat×Dv)) (λz=>z.1<=u/\u-z.1<=z.2.1/\z.2.2.Ok (Dv.cost*z.2.1+k) mm/\Dv.carryGo z.2.1 z.2.2 ((L.take u).drop z.1) z.1=S.carry b most) (λz=>[si 13 z.1,sv 12 (.slice (oad a) u c),⟨0,pp n,3, .tt⟩,⟨1,pp l,5, .tt⟩,⟨2,pp p,2, .tt⟩]) [1,2,3,4] (λz=>DvP p n t l z.2.2) (λz=>u-z.1) ((0,u,S)) (⟨Nat.zero_le _,by dsimp only;omega,hO.less (by have:Dv.cost*u<=Dv.costC:=Nat.mul_le_mul_left _ (by omega);dsimp only;omega),hcar.symm⟩) λz hI=>?_;obtain⟨d,j,Q⟩:=z;dsimp only at hI ⊢;obtain⟨hd,hj,hQ,hw⟩:=hI;refine J.qd (λ_ h1=>?_) λ_ h1=>?_
 ·simp only[decide_eq_true_eq,Int.ofNat_lt]at h1;obtain⟨j,rfl⟩:∃i,j=i+1:=⟨j-1,by omega⟩;have hQ1:Q.Ok (8*Dv.fuel+(Dv.cost*j+k)) mm:=hQ.less (by rw[Nat.mul_succ];unfold Dv.cost;omega);have hbd:=hQ.gd.ok.bd16;have hlb:=hQ.t.len;have hbb:Q.t.b<=1000:=by have:=hQ.t.b;omega
  rw[Dv.carryGo,if_neg (by rw[List.length_drop,htl];omega)]at hw;dsimp only at hw;obtain⟨s,hs⟩:∃s:Nat,s=(max Q.slots 1).toNat:=⟨_,rfl⟩;rw[<- hs]at hw;refine J.know (λh' s=>g7 (c:=(a,c)) (by omega) (s.get (i:=5) rfl)) λhg=>?_;obtain⟨ga,rfl⟩:=hg;refine J.qp (a6J p n t l Q hbb hlb) [1,2,3,4] λ_=>?_;have hsb:0<=Q.slots/\Q.slots<=7:=by
   unfold Dv.slots;split
   ·exact Dv.slots_le _
   ·exact Dv.slots_le _
  have hs1:1<=s/\s<=7:=by omega
  have h51:(if(1:Int)>Q.slots then 1 else Q.slots)=(s:Int):=by rw[hs];split<;>omega
  obtain⟨e,he⟩:∃e:Nat,e=min (d+s) u:=⟨_,rfl⟩;refine J.qn 4 λ_=>?_;rw[h51];have h54:(if(u:Int)<(d:Int)+(s:Int)then(u:Int)else(d:Int)+(s:Int))=(e:Int):=by rw[he];split<;>omega
  refine J.qn 4 λ_=>?_;rw[h54];refine J.q λ_=>?_;have h55:((e:Int).toNat-(d:Int).toNat)=e-d:=by omega
  obtain⟨w,hw0⟩:∃w,e=d+w:=⟨e-d,by omega⟩;have hw1:e-d=w:=by omega
  rw[h55,hw1,show 0+(d:Int).toNat*1=d from by omega,show c-(d:Int).toNat=c-d from by omega];obtain⟨C,hC⟩:∃C,C=((L.take u).drop d).take s:=⟨_,rfl⟩;have hCl:C.length=w:=by rw[hC,List.length_take,List.length_drop,htl];omega
  have hCg:∀i,i<w->∃x,C[i]? =some x/\(d6 L)[d+i]? =some (iI x):=λi hi=>by
   have hx:d+i<L.length:=by omega
   refine⟨L[d+i],?_,?_⟩
   ·rw[hC,List.getElem?_take,if_pos (by omega),List.getElem?_drop,List.getElem?_take,if_pos (by omega),List.getElem?_eq_getElem hx]
   ·rw[d6,List.getElem?_map,List.getElem?_eq_getElem hx];rfl
  rw[<- hC]at hw;refine J.turn1 [] rfl (As:=[c8 155 19 none 0 0 (c9 [])]) (λh s=>Sep.one ⟨rfl,rfl,rfl⟩) rfl ?_;refine J.q λ_=>?_;refine J.l (α:=(Nat×List En×Option Nat×Nat)) (λz=>z.1<=w/\z.2.1.length=z.1/\(∀x∈z.2.1,x.data.length=16)/\Q.rds C=(z.2.1++(Q.rds (C.drop z.1)).1,(Q.rds (C.drop z.1)).2)) (λz=>[si 57 z.1,si 56 w,sv 55 (.slice (some ⟨ga,d,none⟩) w (c-d)),sv 14 (slv z.2.2.1 z.2.1.length z.2.2.2),si 13 d,⟨12, .slice (oad (some ga)) u c,0, .tt⟩,⟨0,pp n,3, .tt⟩,⟨1,pp l,5, .tt⟩,⟨2,pp p,2, .tt⟩]) [6] (λz=>[c8 155 19 z.2.2.1 z.2.1.length z.2.2.2 (c9 z.2.1)]) (λz=>w-z.1) ((0,[],none,0)) (⟨Nat.zero_le _,rfl,by simp,by simp⟩) λz hI=>?_;obtain⟨i,E,ea,ec⟩:=z;dsimp only at hI ⊢;obtain⟨hi,hE,hEd,hrd⟩:=hI;refine J.qd (λ_ h2=>?_) λ_ h2=>?_
  ·simp only[decide_eq_true_eq,Int.ofNat_lt]at h2;obtain⟨x,hx,hx2⟩:=hCg i h2;obtain⟨st1,st2⟩:=b1Y Q hrd hx;refine J.q λ_=>?_;refine J.v (iI x) rfl rfl (λhg aa w he hw=>j5 tk rfl rfl he rfl rfl rfl (hw.get (i:=5) rfl) (by rw[show d+(i:Int).toNat*1=d+i from by omega];exact hx2)) ?_;refine J.qp (b4r n l Q _ mm hQ1 x) [2,4] λ_=>?_;have hrl:=Dv.rd_len hQ1 x;refine J.qd (λ_ h3=>?_) λ_ h3=>?_
   ·simp only[bne_iff_ne,ne_eq]at h3;have h4:=st1 h3;rw[if_pos (by rw[h4];exact h3)]at hw;refine J.qr [1,2,3,4] λ_=>?_;rw[<- hw,h4];exact⟨rfl,rfl⟩
   simp only[bne_eq_false_iff_eq]at h3;have h4:=st2 h3;refine J.q λ_=>?_;refine J.ap 6 8 0 (H8 E (Q.rd x).1) λa3 c3=>?_;rw[show E.length+1=(E++[(Q.rd x).1]).length from by simp];refine J.q λ_=>?_;refine J.n ((i+1,E++[(Q.rd x).1],a3,c3)) (⟨by dsimp only;omega,by simp[hE],λy hy=>(List.mem_append.1 hy).elim (hEd y) (λhy=>by rw[List.mem_singleton.1 hy];exact hrl),h4⟩) (by dsimp only;omega) [0,1,2,3,4,5,6]
  simp only[decide_eq_false_iff_not,Int.ofNat_lt]at h2;have hie:i=w:=by omega
  have hrd2:Q.rds C=(E,0):=by
   rw[hrd,List.drop_of_length_le (by omega),Dv.rds];simp
  rw[hrd2,if_neg (by simp)]at hw;dsimp only at hw;have htook:=λh0=>Dv.pen_took hQ1 hEd h0 (by omega);have hkeep:=Dv.pen_keep hQ1 hEd;refine J.q λ_=>?_;rw[a2m];refine J.q λ_=>?_;refine J.ca hX (by kernel_rfl) (X9 p n t l Q _ mm hQ1 (c8 155 19 ea E.length ec (c9 E)) (oad ea) E.length ec E (B6 155 19 ea E.length ec (c9 E)) rfl (by omega) hEd) [1,2,3,4,6] 0 rfl rfl rfl rfl rfl rfl (λ_=>rfl) ?_;refine cpq ⟨_,rfl,trivial,?_⟩;have hpb:0<=(Q.pen E).2.1/\(Q.pen E).2.1<=7:=a0A _ _ _;generalize Q.pen E=W at hw htook hkeep hpb ⊢;obtain⟨P,nn,er⟩:=W;dsimp only at hw htook hkeep hpb ⊢;refine J.qd (λ_ h5=>?_) λ_ h5=>?_
  ·simp only[bne_iff_ne,ne_eq]at h5;rw[if_pos h5]at hw;refine J.qr [1,2,3,4] λ_=>?_;rw[<- hw];exact⟨rfl,rfl⟩
  ·simp only[bne_eq_false_iff_eq]at h5;rw[if_neg (by rw[h5];decide)]at hw;have htk:=htook h5;obtain⟨v,rfl⟩:=Int.eq_ofNat_of_zero_le hpb.1;have hEl:E.length=w:=by omega
   have hvw:v<=w:=by have:=htk.2.1;omega
   rw[List.drop_drop]at hw;refine J.q λ_=>?_;refine J.n ((d+v,j,P)) (⟨by dsimp only;omega,by dsimp only;omega,hkeep.1,hw⟩) (by dsimp only;omega) [0,1,2,3,4,5]
 ·simp only[decide_eq_false_iff_not,Int.ofNat_lt]at h1;obtain rfl:d=u:=by omega
  have hz:(L.take d).drop d=[]:=List.drop_of_length_le (by omega);have hw2:S.carry b most=(Q,(d:Int),0):=by
   rw[<- hw,hz];cases j with
   | zero=>rfl
   | succ j=>rw[Dv.carryGo,if_pos List.length_nil]
  refine J.qr [1,2,3,4] λ_=>?_;rw[hw2];exact⟨rfl,rfl⟩
theorem a5b (b m:Int):∀(q:List Nat) (x:Nand×Tl×Int),x.2.2≠0->q.foldl (Dv.eraseD b m) x=x
 | [],x,_=>rfl
 | d::q,x,h=>by
  have:Dv.eraseD b m x d=x:=by unfold Dv.eraseD;rw[if_pos h]
  rw[List.foldl_cons,this];exact a5b b m q x h
theorem a6E (f:Nand×Tl×Int->Nat->Nand×Tl×Int) (x:Nand×Tl×Int) {j n:Nat} (h:j<=n):(List.range n).foldl f x=((List.range n).drop j).foldl f ((List.range j).foldl f x):=by
 conv=>lhs;rw[<- List.take_append_drop j (List.range n)]
 rw[List.foldl_append];congr 2;rw[List.take_range,Nat.min_eq_left h]
theorem b1M (n t:Nat) (N:Nand) (tl:Tl) (k mm:Nat) (hG:N.Gd (6+k) mm) (hmm:mm<=1000) (hF:tl.Fit N) (b:Int):FP 135 [pp n,pp t,iI b] [f0 n N,TlA t tl]
  (Ps (iI (Dv.erase N tl b).2.2) [f0 n (Dv.erase N tl b).1,TlA t (Dv.erase N tl b).2.1]):=by
 have hbd:=hG.ok.bd16;have hb0:=hF.b;refine FE [2,3,0] Tryz.func135 λX F hX=>?_;refine J.qp (P6 t tl (by omega) hF.len b) [2] λ_=>?_;refine J.qp (S8 n N) [1] λ_=>?_;obtain⟨m,hm⟩:∃m,m=tl.mask b:=⟨_,rfl⟩;rw[<- hm];refine J.q λ_=>?_;refine J.l (α:=(Nat×Nand×Tl)) (λz=>z.1<=N.dies/\(List.range z.1).foldl (Dv.eraseD b m) (N,tl,0)=(z.2.1,z.2.2,0)/\z.2.1.Gd (6-z.1+k) mm/\z.2.2.Fit z.2.1/\N.Like z.2.1) (λz=>[si 16 z.1,si 15 N.dies,si 7 m,⟨0,pp n,2, .tt⟩,⟨1,pp t,3, .tt⟩,si 2 b]) [1,2] (λz=>[f0 n z.2.1,TlA t z.2.2]) (λz=>N.dies-z.1) ((0,N,tl)) (⟨Nat.zero_le _,rfl,hG,hF,Nand.Like.refl _⟩) λz hI=>?_;obtain⟨d,P,T⟩:=z;dsimp only at hI ⊢;obtain⟨hd,hfo,hP,hT,hlk⟩:=hI;have hTb:T.b<=1000:=by have:=hT.b;have:=hlk.blocks;omega
 refine J.qd (λ_ h1=>?_) λ_ h1=>?_
 ·simp only[decide_eq_true_eq,Int.ofNat_lt]at h1;have hsucc:(List.range (d+1)).foldl (Dv.eraseD b m) (N,tl,0)=Dv.eraseD b m (P,T,0) d:=by rw[List.range_succ,List.foldl_append,hfo];rfl
  have hP1:P.Gd (1+(6-(d+1)+k)) mm:=hP.less (by omega) (Nat.le_refl _);have hk:=Dv.eraseD_keep (k:=6-(d+1)+k) (m:=mm) b m (P,T,0) d hP1 hT;refine J.qp (a4P m d) [] λ_=>?_;refine J.qd (λ_ h2=>?_) λ_ h2=>?_
  ·simp only[Bool.not_eq_true']at h2;have hz:Dv.eraseD b m (P,T,0) d=(P,T,0):=by unfold Dv.eraseD;rw[if_neg (by simp),if_pos h2]
   refine J.q λ_=>?_;refine J.n ((d+1,P,T)) (⟨by dsimp only;omega,hsucc.trans hz,hP.less (by dsimp only;omega) (Nat.le_refl _),hT,hlk⟩) (by dsimp only;omega) [0,1,2]
  simp only[Bool.not_eq_false']at h2;have hz:Dv.eraseD b m (P,T,0) d=(P.eraseN d b,if P.eraseE d b=0 then T else if P.eraseE d b=9 then T else if P.eraseE d b=8 then T.die d else T.bad d b,if P.eraseE d b=9 then 9 else 0):=by
   unfold Dv.eraseD;rw[if_neg (by simp),if_neg (by rw[h2];decide)]
  rw[hz]at hsucc hk;refine J.qp (a9f n P hP.ok hP1.room hP.nodup (by have:=hP.few;omega) d b) [1] λ_=>?_;generalize P.eraseE d b=e at hsucc hk;refine J.qd (λ_ h3=>?_) λ_ h3=>?_
  ·simp only[beq_iff_eq]at h3;rw[if_pos h3,if_neg (by omega)]at hsucc;rw[if_pos h3]at hk;refine J.q λ_=>?_;refine J.n ((d+1,P.eraseN d b,T)) (⟨by dsimp only;omega,hsucc,hk.1,hT.like hk.2.2,hlk.trans hk.2.2⟩) (by dsimp only;omega) [0,1,2]
  simp only[beq_eq_false_iff_ne,ne_eq]at h3;rw[if_neg h3]at hsucc hk;refine J.qd (λ_ h4=>?_) λ_ h4=>?_
  ·simp only[beq_iff_eq]at h4;rw[if_pos h4,if_pos h4]at hsucc;have hall:Dv.eraseB N tl b=(P.eraseN d b,T,9):=by
    unfold Dv.eraseB;rw[<- hm,a6E _ _ (show d+1<=N.dies by omega),hsucc];exact a5b b m _ _ (by simp)
   refine J.qr [1,2] λ_=>?_;unfold Dv.erase;rw[hall];exact⟨rfl,rfl⟩
  simp only[beq_eq_false_iff_ne,ne_eq]at h4;rw[if_neg h4,if_neg h4]at hsucc;rw[if_neg h4]at hk;refine J.qd (λ_ h5=>?_) λ_ h5=>?_
  ·simp only[beq_iff_eq]at h5;rw[if_pos h5]at hsucc hk;refine J.qp (a0F t T d) [2] λ_=>?_;refine J.q λ_=>?_;refine J.n ((d+1,P.eraseN d b,T.die d)) (⟨by dsimp only;omega,hsucc,hk.1,(hT.die d).like hk.2.2,hlk.trans hk.2.2⟩) (by dsimp only;omega) [0,1,2]
  simp only[beq_eq_false_iff_ne,ne_eq]at h5;rw[if_neg h5]at hsucc hk;refine J.qp (a7P t T hTb hT.len d b) [2] λ_=>?_;refine J.q λ_=>?_;refine J.n ((d+1,P.eraseN d b,T.bad d b)) (⟨by dsimp only;omega,hsucc,hk.1,(hT.bad d b).like hk.2.2,hlk.trans hk.2.2⟩) (by dsimp only;omega) [0,1,2]
 simp only[decide_eq_false_iff_not,Int.ofNat_lt]at h1;obtain rfl:d=N.dies:=by omega
 have hall:Dv.eraseB N tl b=(P,T,0):=by unfold Dv.eraseB;rw[<- hm];exact hfo
 have hres:Dv.erase N tl b=(P,Dv.eraseT P T b,0):=by unfold Dv.erase;rw[hall];rfl
 refine J.qp (S8 n P) [1] λ_=>?_;refine J.q λ_=>?_;refine J.l (α:=(Nat×Tl)) (λz=>z.1<=P.dies/\(List.range z.1).foldl (λt (d:Nat)=>t.wore b (P.wornAt d b)) T=z.2/\z.2.Fit P) (λz=>[si 44 z.1,si 43 P.dies,⟨0,pp n,2, .tt⟩,⟨1,pp t,3, .tt⟩,si 2 b]) [2] (λz=>[TlA t z.2]) (λz=>P.dies-z.1) ((0,T)) (⟨Nat.zero_le _,rfl,hT⟩) λz hI=>?_;clear hfo hT hTb hall;obtain⟨d,U⟩:=z;dsimp only at hI ⊢;obtain⟨hd2,hfo,hU⟩:=hI;have hUb:U.b<=1000:=by have:=hU.b;have:=hlk.blocks;omega
 have hPd:P.dies<=6:=by have:=hlk.dies;omega
 refine J.qd (λ_ h1=>?_) λ_ h1=>?_
 ·simp only[decide_eq_true_eq,Int.ofNat_lt]at h1;refine J.qp (a8j n P hP.ok d b) [1] λ_=>?_;refine J.qp (a5t t U hUb hU.len b (P.wornAt d b)) [2] λ_=>?_;refine J.q λ_=>?_;refine J.n ((d+1,U.wore b (P.wornAt d b))) (⟨by dsimp only;omega,by dsimp only;rw[List.range_succ,List.foldl_append,hfo];rfl,hU.wore _ _⟩) (by dsimp only;omega) [0,1,2]
 simp only[decide_eq_false_iff_not,Int.ofNat_lt]at h1;obtain rfl:d=P.dies:=by omega
 have hU2:U=Dv.wores P T b:=hfo.symm;refine J.qp (a0c t U hUb hU.len b) [2] λ_=>?_;refine J.qd (λ_ h2=>?_) λ_ h2=>?_
 ·refine J.qp (a2E t U hUb hU.len b true) [2] λ_=>?_;refine J.qr [1,2] λ_=>?_;rw[hres];unfold Dv.eraseT;rw[<- hU2,if_pos h2];exact⟨rfl,rfl⟩
 ·refine J.qr [1,2] λ_=>?_;rw[hres];unfold Dv.eraseT;rw[<- hU2,if_neg (by rw[h2];decide)];exact⟨rfl,rfl⟩
theorem a0I (n t l:Nat) (N:Nand) (tl:Tl) (T:Tb) (k mm:Nat) (hG:N.Gd (96+k) mm) (hmm:mm<=1000) (hF:tl.Fit N) (o:Int):FP 85 [pp n,pp t,pp l,iI o] [f0 n N,TlA t tl,TbA l T]
  (Ps (iI (Dv.clearX N tl T o).2.2) [f0 n (Dv.clearX N tl T o).1,TlA t (Dv.clearX N tl T o).2.1,TbA l T]):=by
 have hbd:=hG.ok.bd16;have hb0:=hF.b;have hlen:=G9 (u7 tl T) o tl.b;refine FE [2,3,4,0] Tryz.func85 λX F hX=>?_;refine J.qF λ_=>?_;refine J.qc (a9b t tl (by omega) hF.len l T o) [2,3] λ_=>?_;rintro v As ⟨a,c,rfl,rfl⟩;refine⟨_,rfl,trivial,?_⟩;obtain⟨L,hL⟩:∃L,L=i3 (u7 tl T) o tl.b:=⟨_,rfl⟩;have hX2:Dv.clearX N tl T o=Dv.clearGo L N tl:=by unfold Dv.clearX;rw[hL]
 rw[<- hL]at hlen ⊢;refine J.q λ_=>?_;refine J.l (α:=(Nat×Nand×Tl)) (λz=>z.1<=L.length/\Dv.clearGo (L.drop z.1) z.2.1 z.2.2=Dv.clearX N tl T o/\z.2.1.Gd (6*(L.length-z.1)+k) mm/\z.2.2.Fit z.2.1/\N.Like z.2.1) (λz=>[si 27 z.1,si 26 L.length,sv 25 (slv a L.length c),⟨0,pp n,2, .tt⟩,⟨1,pp t,3, .tt⟩]) [1,2] (λz=>[f0 n z.2.1,TlA t z.2.2]) (λz=>L.length-z.1) ((0,N,tl)) (⟨Nat.zero_le _,by rw[hX2];rfl,hG.less (by dsimp only;omega) (Nat.le_refl _),hF,Nand.Like.refl _⟩) λz hI=>?_;obtain⟨i,P,U⟩:=z;dsimp only at hI ⊢;obtain⟨hi,hgo,hP,hU,hlk⟩:=hI;refine J.qd (λ_ h1=>?_) λ_ h1=>?_
 ·simp only[decide_eq_true_eq,Int.ofNat_lt]at h1;obtain⟨x,hx⟩:∃x,L[i]? =some x:=⟨_,List.getElem?_eq_getElem h1⟩;have hdr:L.drop i=x::L.drop (i+1):=by
   obtain⟨h2,h3⟩:=List.getElem?_eq_some_iff.1 hx;rw[List.drop_eq_getElem_cons h2,h3]
  rw[hdr,Dv.clearGo]at hgo;have hP1:P.Gd (6+(6*(L.length-(i+1))+k)) mm:=hP.less (by omega) (Nat.le_refl _);have hk:=Dv.erase_keep hP1 hU x;refine J.know (λh' s=>g7 (c:=(a,c)) (by omega) (s.get (i:=4) rfl)) λhg=>?_;obtain⟨g,rfl⟩:=hg;refine J.q λ_=>?_;refine J.v (iI x) rfl rfl (λhg aa w he hw=>j5 tk rfl rfl he rfl rfl rfl (hw.get (i:=4) rfl) (by rw[show 0+(i:Int).toNat*1=i from by omega,d6,List.getElem?_map,hx];rfl)) ?_;refine J.qp (b1M n t P U _ mm hP1 hmm hU x) [1,2] λ_=>?_;generalize Dv.erase P U x=W at hgo hk ⊢;obtain⟨P',U',er⟩:=W;dsimp only at hgo hk ⊢;refine J.qd (λ_ h2=>?_) λ_ h2=>?_
  ·simp only[bne_iff_ne,ne_eq]at h2;rw[if_pos h2]at hgo;refine J.qr [1,2,3] λ_=>?_;rw[<- hgo];exact⟨rfl,rfl⟩
  ·simp only[bne_eq_false_iff_eq]at h2;rw[if_neg (by rw[h2];decide)]at hgo;refine J.q λ_=>?_;refine J.n ((i+1,P',U')) (⟨by dsimp only;omega,hgo,hk.1,hk.2.1.like hk.2.2,hlk.trans hk.2.2⟩) (by dsimp only;omega) [0,1,2,3,4]
 ·simp only[decide_eq_false_iff_not,Int.ofNat_lt]at h1;rw[List.drop_of_length_le (by omega),Dv.clearGo]at hgo;refine J.qr [1,2,3] λ_=>?_;rw[<- hgo];exact⟨rfl,rfl⟩
theorem a0H (n t l p:Nat) (S:Dv) (k mm:Nat) (hO:S.Ok (Dv.costM+k) mm) (hmm:mm<=1000):FP 87 [pp n,pp t,pp l,pp p] (DvP p n t l S)
  (Ps (iI S.room.2) (DvP p n t l S.room.1)):=by
 have hbd:=hO.gd.ok.bd16;have htb:=hO.t.b;have hC:=Dv.clear_keep (S:=S) (k:=Dv.costR*16+k) (m:=mm) (hO.less (by unfold Dv.costM;omega));refine FE [3,4,5,2] Tryz.func87 λX F hX=>?_;refine J.qF λ_=>?_;refine J.qp (U5 p n t l S) [1] λ_=>?_;refine J.q λ_=>?_;refine J.ca hX (by kernel_rfl) (a0I n t l S.N S.t S.T (Dv.costR*16+k) mm (hO.gd.less (by unfold Dv.costM;omega) (Nat.le_refl _)) hmm hO.t S.op) [2,3,4] 0 rfl rfl rfl rfl rfl rfl (λ_=>rfl) ?_;refine cpq ⟨_,rfl,trivial,?_⟩;have hroom:S.room=if S.clear.2≠0 then S.clear else Dv.roomGo S.t.b S.clear.1:=rfl
 refine J.qd (λ_ h1=>?_) λ_ h1=>?_
 ·simp only[bne_iff_ne,ne_eq]at h1;have h1:S.clear.2≠0:=h1;rw[if_pos h1]at hroom;refine J.qr [1,2,3,4] λ_=>?_;rw[hroom];exact⟨rfl,rfl⟩
 simp only[bne_eq_false_iff_eq]at h1;have h1:S.clear.2=0:=h1;rw[if_neg (by rw[h1];decide)]at hroom;have hB:S.clear.1.t.b=S.t.b:=by have:=hC.1.t.b;have:=hC.2.1.blocks;omega
 refine J.qp (a2D t S.clear.1.t) [3] λ_=>?_;rw[hB];refine J.q λ_=>?_;refine J.l (α:=(Nat×Dv)) (λz=>z.1<=S.t.b/\Dv.roomGo (S.t.b-z.1) z.2=S.room/\z.2.Ok (Dv.costR*(S.t.b-z.1)+k) mm) (λz=>[si 40 z.1,si 39 S.t.b,⟨0,pp n,3, .tt⟩,⟨1,pp t,4, .tt⟩,⟨2,pp l,5, .tt⟩,⟨3,pp p,2, .tt⟩]) [1,2,3,4] (λz=>DvP p n t l z.2) (λz=>S.t.b-z.1) ((0,S.clear.1)) (⟨Nat.zero_le _,hroom.symm,hC.1.less (by dsimp only;have:Dv.costR*(S.t.b-0)<=Dv.costR*16:=Nat.mul_le_mul_left _ (by omega);omega)⟩) λz hI=>?_;obtain⟨i,Q⟩:=z;dsimp only at hI ⊢;obtain⟨hi,hgo,hQ⟩:=hI;have hQb:=hQ.gd.ok.bd16;have hQt:=hQ.t.b;have hQp:=hQ.t.p;have hlb:=hQ.t.len;refine J.qd (λ_ h2=>?_) λ_ h2=>?_
 ·simp only[decide_eq_true_eq,Int.ofNat_lt]at h2;obtain⟨j,hj⟩:∃j,S.t.b-i=j+1:=⟨S.t.b-i-1,by omega⟩;have hj1:S.t.b-(i+1)=j:=by omega
  rw[hj,Dv.roomGo]at hgo;rw[hj]at hQ;refine J.qp (U5 p n t l Q) [1] λ_=>?_;refine J.qp (b2j t Q.t (by omega) hlb l Q.T Q.op) [3,4] λ_=>?_;refine J.qd (λ_ h3=>?_) λ_ h3=>?_
  ·simp only[decide_eq_true_eq]at h3;have h3:(Q.free:Int)>4:=h3;rw[if_pos h3]at hgo;refine J.qr [1,2,3,4] λ_=>?_;rw[<- hgo];exact⟨rfl,rfl⟩
  simp only[decide_eq_false_iff_not]at h3;have h3:¬(Q.free:Int)>4:=h3;rw[if_neg h3]at hgo;refine J.qp (U5 p n t l Q) [1] λ_=>?_;refine J.qp (a6O t Q.t (by omega) hlb l Q.T Q.op) [3,4] λ_=>?_;rw[show E9 (λx y=>orI [x7 (Q.T.count x) (Q.T.count y),x7 (Q.t.wear x) (Q.t.wear y)]) (i3 (R0 Q.t Q.T) Q.op Q.t.b)=Q.victim from rfl];obtain⟨vv,hvv⟩:∃v,v=Q.victim:=⟨_,rfl⟩;rw[<- hvv]at hgo ⊢;refine J.qn 7 λ_=>?_;cases h4:decide (vv<0)with
  | true=>
   have h4':vv<0:=by simpa using h4
   rw[if_pos (.inl h4')]at hgo;refine J.q λ_=>?_;refine J.v (iI 0) rfl rfl (λhg a w he hs=>absurd hg (by simp[G.on])) ?_;refine J.q λ_=>?_;refine J.v (.agg #[iI 0,iI 0,iI 0]) rfl rfl (λhg a w he hs=>absurd hg (by simp[G.on])) ?_;refine J.q λ_=>?_;refine J.v (iI 0) rfl rfl (λhg a w he hs=>absurd hg (by simp[G.on])) ?_;refine J.q λ_=>?_;refine J.v (iI 0) rfl rfl (λhg a w he hs=>absurd hg (by simp[G.on])) ?_;refine J.qT λ_=>?_;refine J.qr [1,2,3,4] λ_=>?_;rw[<- hgo];exact⟨rfl,rfl⟩
  | false=>
   have h4':¬vv<0:=by simpa using h4
   have hsb:=Dv.slots_le (Q.t.mask vv);have hmul:0<=(Q.t.p:Int)*G.slots (Q.t.mask vv)/\(Q.t.p:Int)*G.slots (Q.t.mask vv)<=8*7:=⟨Int.mul_nonneg (by omega) hsb.1,Int.mul_le_mul (by omega) hsb.2 hsb.1 (by omega)⟩;refine J.qp (E5 l Q.T vv) [4] λ_=>?_;refine J.qp (a2D t Q.t) [3] λ_=>?_;refine J.qp (P6 t Q.t (by omega) hlb vv) [3] λ_=>?_;refine J.qp (J6 (Q.t.mask vv)) [] λ_=>?_;refine J.qd (λ_ h5=>?_) λ_ h5=>?_
   ·have h5':Q.T.count vv>=Q.t.p*G.slots (Q.t.mask vv):=by simpa using h5
    rw[if_pos (.inr h5')]at hgo;refine J.qr [1,2,3,4] λ_=>?_;rw[<- hgo];exact⟨rfl,rfl⟩
   have h5':¬Q.T.count vv>=Q.t.p*G.slots (Q.t.mask vv):=by simpa using h5
   rw[if_neg (by rintro(e | e)<;>contradiction)]at hgo;dsimp only at hgo;have hQ1:Q.Ok (Dv.costC+(96+(Dv.costR*j+k))) mm:=hQ.less (by unfold Dv.costR;rw[Nat.mul_succ];omega);have hc:=Dv.carry_keep hQ1 vv (Q.T.count vv);refine J.qp (E5 l Q.T vv) [4] λ_=>?_;refine J.qp (a2I n t l p Q _ mm hQ1 vv (Q.T.count vv)) [1,2,3,4] λ_=>?_;generalize Q.carry vv (Q.T.count vv)=W at hgo hc ⊢;obtain⟨P,cn,er⟩:=W;dsimp only at hgo hc ⊢;refine J.qd (λ_ h6=>?_) λ_ h6=>?_
   ·simp only[bne_iff_ne,ne_eq]at h6;rw[if_pos h6]at hgo;refine J.qr [1,2,3,4] λ_=>?_;rw[<- hgo];exact⟨rfl,rfl⟩
   simp only[bne_eq_false_iff_eq]at h6;rw[if_neg (by rw[h6];decide)]at hgo;have hcl:=Dv.clear_keep hc.1;refine J.qp (U5 p n t l P) [1] λ_=>?_;refine J.qp (a0I n t l P.N P.t P.T (Dv.costR*j+k) mm hc.1.gd hmm hc.1.t P.op) [2,3,4] λ_=>?_;refine J.qd (λ_ h7=>?_) λ_ h7=>?_
   ·simp only[bne_iff_ne,ne_eq]at h7;have h7:P.clear.2≠0:=h7;rw[if_pos h7]at hgo;refine J.qr [1,2,3,4] λ_=>?_;rw[<- hgo];exact⟨rfl,rfl⟩
   ·simp only[bne_eq_false_iff_eq]at h7;have h7:P.clear.2=0:=h7;rw[if_neg (by rw[h7];decide)]at hgo;refine J.q λ_=>?_;refine J.n ((i+1,P.clear.1)) (⟨by dsimp only;omega,by dsimp only;rw[hj1];exact hgo,by dsimp only;rw[hj1];exact hcl.1⟩) (by dsimp only;omega) [0,1,2,3,4]
 ·simp only[decide_eq_false_iff_not,Int.ofNat_lt]at h2;have hz:S.t.b-i=0:=by omega
  rw[hz,Dv.roomGo]at hgo;refine J.qr [1,2,3,4] λ_=>?_;rw[<- hgo];exact⟨rfl,rfl⟩
theorem a4a (l:List Int) (f:Int->Int) (i:Nat) (x:Int) (h:l[i]? =some x):((l.take (i+1)).map f).sum=((l.take i).map f).sum+f x:=by
 rw[List.take_add_one,h,Option.toList_some,List.map_append,List.sum_append];simp
theorem b6f (l:List Int) (f:Int->Int) (c:Int) (hc:0<=c) (hf:∀x,0<=f x/\f x<=c):0<=(l.map f).sum/\(l.map f).sum<=c*l.length:=by
 induction l with
 | nil=>simp
 | cons x l ih=>
  have:=hf x;simp only[List.map_cons,List.sum_cons,List.length_cons,Int.natCast_add,Int.mul_add];omega
theorem a9h (t l:Nat) (S:Dv) (k mm:Nat) (hO:S.Ok k mm):FP 74 [pp t,pp l] [TlA t S.t,TbA l S.T]
  (Ps (iI S.leftN) [TlA t S.t,TbA l S.T]):=by
 have hbd:=hO.gd.ok.bd16;have htb:=hO.t.b;have hlog:=hO.T.log;obtain⟨L,hL⟩:∃L,L=S.hurts:=⟨_,rfl⟩;have hLl:L.length<=16:=by have:=G9 (M6 S.t S.T) (-1) S.t.b;rw[hL];unfold Dv.hurts;omega
 have hs:=λi=>b6f (L.take i) S.T.count 1000000 (by omega) (λx=>hO.T.bd x);refine FE [2,3] Tryz.func74 λX F hX=>?_;refine J.qc (a8d t S.t (by omega) hO.t.len l S.T S.T.logical.toNat (by omega) (by omega)) [1,2] λ_=>?_;rintro v As ⟨a,c,rfl,rfl⟩;refine⟨_,rfl,trivial,?_⟩;rw[show i3 (M6 S.t S.T) (-1) S.t.b=L from hL.symm];refine J.q λ_=>?_;refine J.l (α:=Nat) (λi=>i<=L.length) (λi=>[si 12 i,si 11 L.length,sv 10 (slv a L.length c),⟨5,iI ((L.take i).map S.T.count).sum,0, .tt⟩,⟨1,pp l,3, .tt⟩]) [] (λi=>[]) (λi=>L.length-i) (0) (Nat.zero_le _) λi hI=>?_;have hsi:=hs i;have htl:((L.take i).length:Int)<=16:=by rw[List.length_take];omega
 refine J.qd (λ_ h1=>?_) λ_ h1=>?_
 ·simp only[decide_eq_true_eq,Int.ofNat_lt]at h1;obtain⟨x,hx⟩:∃x,L[i]? =some x:=⟨_,List.getElem?_eq_getElem h1⟩;have hxb:=hO.T.bd x;have hsu:=a4a L S.T.count i x hx;refine J.know (λh' s=>g7 (c:=(a,c)) (by omega) (s.get (i:=3) rfl)) λhg=>?_;obtain⟨g,rfl⟩:=hg;refine J.q λ_=>?_;refine J.v (iI x) rfl rfl (λhg aa w he hw=>j5 tk rfl rfl he rfl rfl rfl (hw.get (i:=3) rfl) (by rw[show 0+(i:Int).toNat*1=i from by omega,d6,List.getElem?_map,hx];rfl)) ?_;refine J.qp (E5 l S.T x) [2] λ_=>?_;refine J.q λ_=>?_;rw[<- hsu];refine J.q λ_=>?_;refine J.n (i+1) (by omega) (by omega) [0,1,2,3]
 ·simp only[decide_eq_false_iff_not,Int.ofNat_lt]at h1;refine J.qr [1,2] λ_=>?_;rw[List.take_of_length_le (by omega),hL];exact⟨rfl,rfl⟩
theorem a9g (n t l p:Nat) (S:Dv) (k mm:Nat) (hO:S.Ok (Dv.costS+k) mm) (hmm:mm<=1000) (most:Int):FP 75 [pp n,pp t,pp l,pp p,iI most] (DvP p n t l S)
  (Ps (.tuple #[iI (S.step most).2.1,iI (S.step most).2.2]) (DvP p n t l (S.step most).1)):=by
 have hbd:=hO.gd.ok.bd16;have htd:=hO.t.d;have htb:=hO.t.b;refine FE [3,4,5,2,0] Tryz.func75 λX F hX=>?_;refine J.qp (a2D t S.t) [3] λ_=>?_;refine J.q λ_=>?_;refine J.l (α:=(Nat×Tl)) (λz=>z.1<=S.t.d/\(List.range z.1).foldl (λt (d:Nat)=>if S.N.deadAt d then t.die d else t) S.t=z.2/\z.2.Fit S.N) (λz=>[si 18 z.1,si 17 S.t.d,⟨0,pp n,3, .tt⟩,⟨1,pp t,4, .tt⟩,⟨2,pp l,5, .tt⟩,⟨3,pp p,2, .tt⟩,si 4 most]) [3] (λz=>[TlA t z.2]) (λz=>S.t.d-z.1) ((0,S.t)) (⟨Nat.zero_le _,rfl,hO.t⟩) λz hI=>?_;obtain⟨d,U⟩:=z;dsimp only at hI ⊢;obtain⟨hd,hfo,hU⟩:=hI;refine J.qd (λ_ h1=>?_) λ_ h1=>?_
 ·simp only[decide_eq_true_eq,Int.ofNat_lt]at h1;have hsu:(List.range (d+1)).foldl (λt (d:Nat)=>if S.N.deadAt d then t.die d else t) S.t=if S.N.deadAt d then U.die d else U:=by rw[List.range_succ,List.foldl_append,hfo];rfl
  refine J.qp (a3j n S.N hO.gd.ok d) [2] λ_=>?_;refine J.qd (λ_ h2=>?_) λ_ h2=>?_
  ·rw[if_pos h2]at hsu;refine J.qp (a0F t U d) [3] λ_=>?_;refine J.q λ_=>?_;refine J.n ((d+1,U.die d)) (⟨by dsimp only;omega,hsu,hU.die d⟩) (by dsimp only;omega) [0,1,2,3,4]
  ·rw[if_neg (by rw[h2];decide)]at hsu;refine J.q λ_=>?_;refine J.n ((d+1,U)) (⟨by dsimp only;omega,hsu,hU⟩) (by dsimp only;omega) [0,1,2,3,4]
 simp only[decide_eq_false_iff_not,Int.ofNat_lt]at h1;obtain rfl:d=S.t.d:=by omega
 have hseen:S.seen={S with t:=U}:=by unfold Dv.seen Dv.seeDead;rw[hfo]
 have hO1:S.seen.Ok (Dv.costM+(Dv.costC+k)) mm:=hO.seen.less (by unfold Dv.costS;omega);have hr:=Dv.room_keep hO1;obtain⟨Q,hQ⟩:∃Q,Q=S.seen:=⟨_,rfl⟩;have hQO:Q.Ok (Dv.costM+(Dv.costC+k)) mm:=by rw[hQ];exact hO1
 have hst:S.step most=(let r:=Q.room;if r.2≠0 then(r.1,0,r.2)else match r.1.hurts with | []=>(r.1,0,0) | b::_=>r.1.carry b most):=by rw[hQ];rfl
 rw[show f0 n S.N=f0 n Q.N from by rw[hQ];rfl,show TbA l S.T=TbA l Q.T from by rw[hQ];rfl,show TlA t U=TlA t Q.t from by rw[hQ,hseen],show P4 p n t l S=P4 p n t l Q from by rw[hQ];rfl];rw[<- hQ]at hr;refine J.qp (a0H n t l p Q _ mm hQO hmm) [1,2,3,4] λ_=>?_;dsimp only at hst;generalize Q.room=W at hst hr ⊢;obtain⟨P,er⟩:=W;dsimp only at hst hr ⊢;refine J.qd (λ_ h2=>?_) λ_ h2=>?_
 ·simp only[bne_iff_ne,ne_eq]at h2;rw[if_pos h2]at hst;refine J.qr [1,2,3,4] λ_=>?_;rw[hst];exact⟨rfl,rfl⟩
 simp only[bne_eq_false_iff_eq]at h2;rw[if_neg (by rw[h2];decide)]at hst;have hPb:=hr.1.gd.ok.bd16;have hPt:=hr.1.t.b;have hlog:=hr.1.T.log;have hLl:=G9 (M6 P.t P.T) (-1) P.t.b;refine J.qc (a8d t P.t (by omega) hr.1.t.len l P.T P.T.logical.toNat (by omega) (by omega)) [3,4] λ_=>?_;rintro v As ⟨a,c,rfl,rfl⟩;refine⟨_,rfl,trivial,?_⟩;have hh:i3 (M6 P.t P.T) (-1) P.t.b=P.hurts:=rfl;rw[hh]at hLl ⊢;generalize P.hurts=L at hst hLl ⊢;cases L with
 | nil=>
  refine J.qT λ_=>?_;refine J.qr [1,2,3,4] λ_=>?_;rw[hst];exact⟨rfl,rfl⟩
 | cons b L=>
  refine J.know (λh' s=>g7 (c:=(a,c)) (by simp) (s.get (i:=5) rfl)) λhg=>?_;obtain⟨g,rfl⟩:=hg;refine J.q λ_=>?_;refine J.cond rfl (λh=>absurd h (by rw[beq_iff_eq,List.length_cons];omega)) (λ_=>?_);refine J.q λ_=>?_;refine J.v (iI b) rfl rfl (λhg aa w he hw=>j5 tk rfl rfl he rfl rfl rfl (hw.get (i:=5) rfl) rfl) ?_;dsimp only at hst;refine J.qp (a2I n t l p P _ mm hr.1 b most) [1,2,3,4] λ_=>?_;refine J.qr [1,2,3,4] λ_=>?_;rw[hst];exact⟨rfl,rfl⟩
end Go.Proofs.YtnffkcabeecopaaGreat
namespace Go.Proofs.YtnffkcabeecopaaGreat
namespace Bt
theorem byte_bit:∀b0 b1 b2 b3 b4 b5 b6 b7:Bool,∀i:Fin 8,(b0.toNat*128+b1.toNat*64+b2.toNat*32+b3.toNat*16+b4.toNat*8+b5.toNat*4+b6.toNat*2+b7.toNat).testBit (7-i.1)=[b0,b1,b2,b3,b4,b5,b6,b7].getD i.1 false:=by decide+kernel
theorem byte_bit2 (b0 b1 b2 b3 b4 b5 b6 b7:Bool) (i:Nat) (hi:i<8):(b0.toNat*128+b1.toNat*64+b2.toNat*32+b3.toNat*16+b4.toNat*8+b5.toNat*4+b6.toNat*2+b7.toNat).testBit (7-i)=[b0,b1,b2,b3,b4,b5,b6,b7].getD i false:=byte_bit b0 b1 b2 b3 b4 b5 b6 b7 ⟨i,hi⟩
theorem byteAt_bit (l:List Bool) (q i:Nat) (hi:i<8):(byteAt l q).testBit (7-i)=l.getD (q+i) false:=by
 unfold byteAt;rw[byte_bit2 _ _ _ _ _ _ _ _ i hi]
 match i,hi with
 | 0,_=>rfl
 | 1,_=>rfl
 | 2,_=>rfl
 | 3,_=>rfl
 | 4,_=>rfl
 | 5,_=>rfl
 | 6,_=>rfl
 | 7,_=>rfl
theorem bitAt_pack (l:List Bool) (j:Nat) (h:j<l.length):bitAt (pack l) j=l.getD j false:=by
 have h1:(pack l).getD (j/8) 0=UInt8.ofNat (byteAt l (8*(j/8))):=by
  rw[List.getD_eq_getElem?_getD,pack_get l (j/8) (by omega)];rfl
 have h2:(UInt8.ofNat (byteAt l (8*(j/8)))).toNat=byteAt l (8*(j/8)):=by
  rw[UInt8.toNat_ofNat',Nat.mod_eq_of_lt (byteAt_lt l _)]
 unfold bitAt;rw[h1,h2,byteAt_bit l _ _ (Nat.mod_lt _ (by omega)),Nat.div_add_mod]
theorem numAt_eq (b:List UInt8) (k w u:Nat) (h:∀i<w,bitAt b (k+i)=u.testBit (w-1-i)):∀v,v<=w->numAt b k v=u/2^(w-v) % 2^v
 | 0,_=>by simp[numAt,Nat.mod_one]
 | v+1,hv=>by
  rw[numAt,numAt_eq b k w u h v (by omega),h v (by omega),Nat.testBit_eq_decide_div_mod_eq];have e1:w-v=(w-1-v)+1:=by omega
  have e2:w-(v+1)=w-1-v:=by omega
  rw[e1,e2,Nat.pow_succ,<- Nat.div_div_eq_div_mul,Nat.pow_succ 2 v,Nat.mul_comm (2^v) 2,Nat.mod_mul];generalize u/2^(w-1-v)=x;rcases Nat.mod_two_eq_zero_or_one x with hx | hx
  ·rw[hx];simp
  ·rw[hx];simp[Nat.add_comm]
theorem numAt_pack (A B:List Bool) (u w k:Nat) (hk:A.length=k):numAt (pack (A++(bits u w++B))) k w=u % 2^w:=by
 have:=numAt_eq (pack (A++(bits u w++B))) k w u (λi hi=>by
  have hb:(bits u w).length=w:=length_bits u w;rw[bitAt_pack _ _ (by simp[hb];omega),List.getD_eq_getElem?_getD,List.getElem?_append_right (by omega),hk,Nat.add_sub_cancel_left,List.getElem?_append_left (by omega)];simp[bits,hi]) w (Nat.le_refl _)
 rw[this,Nat.sub_self,Nat.pow_zero,Nat.div_one]
end Bt
namespace S
def hdL (M b r m k c:Nat):List Bool:=Bt.bits M 64++(Bt.bits b 8++(Bt.bits r 8++(Bt.bits m 8++(Bt.bits k 8++Bt.bits c 32))))
theorem hdL_eq (s:Sh) (c:Nat):head s++Bt.bits c 32=hdL (meta_ s.role s.lpn s.seq) s.block.toNat s.row.toNat s.mask.toNat s.kind.toNat c:=by
 unfold head hdL;generalize meta_ s.role s.lpn s.seq=M;simp only[List.append_assoc]
theorem hd1 (M b r m k c:Nat):Bt.numAt (Bt.pack (hdL M b r m k c)) 0 64=M % 2^64:=Bt.numAt_pack [] _ M 64 0 rfl
theorem hd2 (M b r m k c:Nat):Bt.numAt (Bt.pack (hdL M b r m k c)) 64 8=b % 2^8:=Bt.numAt_pack (Bt.bits M 64) _ b 8 64 (Bt.length_bits _ _)
theorem hd3 (M b r m k c:Nat):Bt.numAt (Bt.pack (hdL M b r m k c)) 72 8=r % 2^8:=by
 have:=Bt.numAt_pack (Bt.bits M 64++Bt.bits b 8) (Bt.bits m 8++(Bt.bits k 8++Bt.bits c 32)) r 8 72 (by rw[List.length_append,Bt.length_bits,Bt.length_bits]);rw[<- this,List.append_assoc];rfl
theorem hd4 (M b r m k c:Nat):Bt.numAt (Bt.pack (hdL M b r m k c)) 80 8=m % 2^8:=by
 have:=Bt.numAt_pack (Bt.bits M 64++(Bt.bits b 8++Bt.bits r 8)) (Bt.bits k 8++Bt.bits c 32) m 8 80 (by rw[List.length_append,List.length_append,Bt.length_bits,Bt.length_bits,Bt.length_bits]);rw[<- this,List.append_assoc,List.append_assoc];rfl
theorem hd5 (M b r m k c:Nat):Bt.numAt (Bt.pack (hdL M b r m k c)) 88 8=k % 2^8:=by
 have:=Bt.numAt_pack (Bt.bits M 64++(Bt.bits b 8++(Bt.bits r 8++Bt.bits m 8))) (Bt.bits c 32) k 8 88 (by rw[List.length_append,List.length_append,List.length_append,Bt.length_bits,Bt.length_bits,Bt.length_bits,Bt.length_bits]);rw[<- this,List.append_assoc,List.append_assoc,List.append_assoc];rfl
theorem meta_back (role lpn seq:Int) (h1:0<=role/\role<=255) (h2:0<=lpn/\lpn<=65535) (h3:0<=seq/\seq<=1099511627775):((meta_ role lpn seq/72057594037927936:Nat):Int)=role/\((meta_ role lpn seq/1099511627776 % 65536:Nat):Int)=lpn/\((meta_ role lpn seq % 1099511627776:Nat):Int)=seq:=by
 unfold meta_;refine⟨?_,?_,?_⟩<;>omega
theorem fields_put (s:Sh) (hd:s.data.length=16) (h:may s=true):fields (put s)=s:=by
 obtain⟨hb,hr,hm,hk⟩:=may_bounds s h;have hn:(0<=s.seq/\s.seq<=1099511627775)/\(0<=s.lpn/\s.lpn<=65535)/\(0<=s.role/\s.role<=255):=by
  simp only[may,numbers,inB,Bool.and_eq_true,decide_eq_true_eq]at h;omega
 obtain⟨k1,k2,k3⟩:=meta_back s.role s.lpn s.seq hn.2.2 hn.2.1 hn.1;have hM:=meta_lt s.role s.lpn s.seq;obtain⟨M,hMe⟩:∃M,meta_ s.role s.lpn s.seq=M:=⟨_,rfl⟩;obtain⟨c,hc⟩:∃c,K.sum (s.data++Bt.pack (head s))=c:=⟨_,rfl⟩;have hp:put s=s.data++Bt.pack (hdL M s.block.toNat s.row.toNat s.mask.toNat s.kind.toNat c):=by rw[put,hc,hdL_eq,hMe]
 rw[hMe]at k1 k2 k3 hM;have e1:(put s).take 16=s.data:=by rw[hp,<- hd,List.take_left]
 have e2:(put s).drop 16=Bt.pack (hdL M s.block.toNat s.row.toNat s.mask.toNat s.kind.toNat c):=by rw[hp,<- hd,List.drop_left]
 have m1:=hd1 M s.block.toNat s.row.toNat s.mask.toNat s.kind.toNat c;have m2:=hd2 M s.block.toNat s.row.toNat s.mask.toNat s.kind.toNat c;have m3:=hd3 M s.block.toNat s.row.toNat s.mask.toNat s.kind.toNat c;have m4:=hd4 M s.block.toNat s.row.toNat s.mask.toNat s.kind.toNat c;have m5:=hd5 M s.block.toNat s.row.toNat s.mask.toNat s.kind.toNat c;have f:∀x:Int,0<=x/\x<=255->((x.toNat % 2^8:Nat):Int)=x:=λx hx=>by
  rw[Nat.mod_eq_of_lt (by omega)];omega
 rw[Nat.mod_eq_of_lt (show M<2^64 from hM)]at m1;have f1:=f s.block ⟨hb.1,by omega⟩;have f2:=f s.row ⟨hr.1,by omega⟩;have f3:=f s.mask hm;have f4:=f s.kind ⟨by omega,by omega⟩;unfold fields;simp only[e1,e2,m1,m2,m3,m4,m5,k1,k2,k3,f1,f2,f3,f4]
theorem get_put (s:Sh) (hd:s.data.length=16) (h:may s=true):get (put s)=some s:=by
 unfold get;rw[fields_put s hd h,if_pos ⟨h,rfl⟩]
theorem getV_put (s:Sh) (hd:s.data.length=16) (h:may s=true):getV (put s)=s/\getE (put s)=0:=by
 unfold getV getE;rw[get_put s hd h];exact⟨rfl,rfl⟩
end S
end Go.Proofs.YtnffkcabeecopaaGreat
namespace Go.Proofs.YtnffkcabeecopaaGreat
open Go Go.RowKit
def b3B (M q:Nat):Bool:=
 let p:=L.at_ M q
 if q<L.count M then
  L.has M p&&decide (0<=p)&&decide (p<6)&&
  ((List.range (L.count M-1)).all λk=>let d:=L.at_ (L.without M p) (k:Nat);L.has M d&&d !=p&&decide (0<=d)&&decide (d<6)&&(List.range k).all λk'=>L.at_ (L.without M p) (k':Nat) !=d)&&
  ((List.range 6).all λd=>!L.has M (d:Nat)||((d:Nat):Int)==p||(List.range (L.count M-1)).any λk=>L.at_ (L.without M p) (k:Nat)==((d:Nat):Int))
 else true
theorem a8z:∀M,M<64->∀q,q<6->b3B M q=true:=by decide+kernel
theorem b0Y:∀M,M<64->L.count (M:Nat)<=6:=by decide+kernel
structure DieFacts (m b r:Int):Prop where
 par:L.has m (G.parity m b r)=true/\0<=G.parity m b r/\G.parity m b r<6
 die:∀k:Nat,(k:Int)<G.slots m->L.has m (G.die m b r k)=true/\G.die m b r k≠G.parity m b r/\0<=G.die m b r k/\G.die m b r k<6
 inj:∀k k':Nat,(k:Int)<G.slots m->k'<k->G.die m b r k'≠G.die m b r k
 all:∀d:Nat,d<6->L.has m (d:Nat)=true->(d:Int)=G.parity m b r\/∃k:Nat,(k:Int)<G.slots m/\G.die m b r k=d
theorem b3A (m b r:Int) (h0:0<=m) (h1:m<64) (hc:2<=L.count m) (hb:0<=b) (hr:0<=r):DieFacts m b r:=by
 obtain⟨M,rfl⟩:=Int.eq_ofNat_of_zero_le h0;have hM:M<64:=by omega
 have hp:G.parity M b r=L.at_ M ((b+r) % L.count (M:Int)):=by unfold G.parity;rw[if_neg (by omega)]
 have hs:G.slots M=(L.count (M:Int):Int)-1:=by unfold G.slots;rw[if_neg (by omega)]
 have hq:0<=(b+r) % (L.count (M:Int):Int)/\(b+r) % (L.count (M:Int):Int)<L.count (M:Int):=⟨Int.emod_nonneg _ (by omega),Int.emod_lt_of_pos _ (by omega)⟩;obtain⟨q,hq2⟩:=Int.eq_ofNat_of_zero_le hq.1;have h6:=b0Y M hM;have hchk:=a8z M hM q (by omega);rw[hq2]at hp hq;unfold b3B at hchk;rw[if_pos (by omega)]at hchk;simp only[<- hp]at hchk;simp only[Bool.and_eq_true,decide_eq_true_eq,List.all_eq_true,List.mem_range,bne_iff_ne,ne_eq,Bool.or_eq_true,List.any_eq_true,Bool.not_eq_true',beq_iff_eq]at hchk;obtain⟨⟨⟨⟨c1,c2⟩,c3⟩,c4⟩,c5⟩:=hchk;have hd:∀k:Nat,G.die M b r k=L.at_ (L.without M (G.parity M b r)) (k:Nat):=λk=>by unfold G.die;rw[if_neg (by omega)]
 refine⟨⟨c1,c2,c3⟩,λk hk=>?_,λk k' hk hkk=>?_,λd hd6 hh=>?_⟩
 ·obtain⟨⟨⟨⟨a1,a2⟩,a3⟩,a4⟩,_⟩:=c4 k (by omega);rw[hd];exact⟨a1,a2,a3,a4⟩
 ·obtain⟨_,a5⟩:=c4 k (by omega);rw[hd,hd];exact a5 k' hkk
 ·rcases c5 d hd6 with(h | h) | ⟨k,h,h'⟩
  ·rw[hh]at h;cases h
  ·exact .inl h
  ·exact .inr ⟨k,by omega,by rw[hd];exact h'⟩
theorem a0w {m:Int} {D d:Nat} (h:m<2^D) (hh:L.has m (d:Nat)=true):d<D:=by
 obtain⟨h1,h2,h3,h4⟩:=L.has_lt m d hh;obtain⟨M,rfl⟩:=Int.eq_ofNat_of_zero_le h3;simp only[L.has,Bool.and_eq_true,Int.toNat_natCast]at hh;rcases Nat.lt_or_ge d D with hlt | hge
 ·exact hlt
 ·have hM:M<2^D:=by
   have e:((2^D:Nat):Int)=2^D:=by simp
   omega
  have:M<2^d:=Nat.lt_of_lt_of_le hM (Nat.pow_le_pow_right (by omega) hge);rw[Nat.testBit_lt_two_pow this]at hh;simp at hh
namespace Nand
variable {N : Nand}
theorem geoIn_of {d b p x y z:Int} (h1:0<=x/\x<d) (h2:0<=y/\y<b) (h3:0<=z/\z<p):A4 d b p x y z=true:=by
 simp[A4,h1,h2,h3]
end Nand
theorem a2g {α:Type} (n:Nat) (f:Nat->α) (h:∀k k',k<n->k'<k->f k'≠f k):((List.range n).map f).Nodup:=by
 rw[List.nodup_iff_pairwise_ne,List.pairwise_map,List.pairwise_iff_getElem];intro i j hi hj hij;simp only[List.getElem_range];exact h j i (by simpa using hj) hij
theorem mem_job {b r m:Int} {l:List En} {x:Int×Sh}:x∈R.job b r m l↔(∃k,k<l.length/\x=(G.die m b r (k:Nat),W.sh b r m (l.getD k En.zero)))\/x=(G.parity m b r,W.parS b r m l):=by
 simp only[R.job,List.mem_append,List.mem_map,List.mem_range,List.mem_singleton];constructor
 ·rintro(⟨k,h,rfl⟩ | rfl)
  ·exact .inl ⟨k,h,rfl⟩
  ·exact .inr rfl
 ·rintro(⟨k,h,rfl⟩ | rfl)
  ·exact .inl ⟨k,h,rfl⟩
  ·exact .inr rfl
theorem b0A {b r m:Int} {l:List En} (F:DieFacts m b r) (hl:(l.length:Int)=G.slots m):((R.job b r m l).map (·.1)).Nodup:=by
 rw[R.job,List.map_append,List.map_map];rw[List.nodup_append];refine⟨a2g _ _ λk k' hk hkk=>F.inj k k' (by omega) hkk,by simp,λx hx y hy=>?_⟩;simp only[List.mem_map,List.mem_range]at hx;obtain⟨k,hk,rfl⟩:=hx;simp only[List.map_cons,List.map_nil,List.mem_singleton]at hy;subst hy;exact(F.die k (by omega)).2.1
theorem a6M {b r m:Int} {l:List En} (hB:W.parB b r m l=true):S.may (W.parS b r m l)=true:=by
 obtain⟨h1,h2,h3,h4⟩:=M7 hB;obtain⟨e,he⟩:∃e,e∈l:=by
  cases l with
  | nil=>simp at h2
  | cons x l=>exact⟨x,by simp⟩
 have hok:=h4 e he;simp only[W.ok,S.may,Bool.and_eq_true]at hok;have hpl:S.place (W.parS b r m l)=true:=hok.1.1;have hov:∃M:Nat,(W.over (l.map (W.sh b r m))).2=M/\M<18446744073709551616:=a0L (l.map (W.sh b r m)) (zeros16,0) ⟨by decide,by decide⟩;obtain⟨M,hM,hM2⟩:=hov;simp only[S.may,hpl,Bool.true_and,Bool.and_eq_true];refine⟨?_,by simp[W.parS]⟩;simp only[S.numbers,S.inB,W.parS,hM,Int.toNat_natCast,Bool.and_eq_true,decide_eq_true_eq];omega
theorem a6N {b r m:Int} {l:List En} (hd:∀s∈l,s.data.length=16):(W.parS b r m l).data.length=16:=
 T6 (λt ht=>by obtain⟨e,he,rfl⟩:=List.mem_map.1 ht;exact hd e he) _ rfl
theorem b4B (g c:Nat):FP 154 [slv (some g) 1 c] [c8 34 7 (some g) 1 c (ft 3 4 2 0 0)]
  (λv As=>∃a' c',v=slv a' 1 c'/\As=[c8 34 7 (some g) 1 c (ft 3 4 2 0 0),c8 34 7 a' 1 c' (ft 3 4 2 0 0)]):=by
 refine FE [0] Tryz.func154 λX F hX=>?_;refine J.qF λ_=>?_;refine J.qn 5 λbb=>?_;refine J.closeOwn (e:=34) (size:=7) (n:=0) (cap:=0) (xs:=[]) 2 rfl rfl rfl (Nat.le_refl _) (Nat.zero_le _) rfl rfl rfl ?_;refine J.q λ_=>?_;refine J.appendR hX tk (a:=some (bb 0)) (n:=0) (cap:=0) (xs:=[]) (oo:=0) (Ay:=c8 34 7 (some g) 1 c (ft 3 4 2 0 0)) 2 1 0 rfl rfl rfl rfl rfl rfl rfl rfl rfl rfl (B6 _ _ (some g) _ _ _) rfl rfl rfl rfl (by decide) (by decide) (by decide) (λ_=>rfl) λa' c'=>⟨_,rfl,trivial,?_⟩;refine J.qr [1,2] λ_=>?_;exact⟨a',c',rfl,rfl⟩
theorem b7s (p g c:Nat):FP 106 [pp p,iI 3] [.pt p 176 [slv (some g) 1 c],c8 34 7 (some g) 1 c (ft 3 4 2 0 0)]
  (λv As=>∃x a' c',v=slv a' 1 c'/\As=[.pt p 176 [x],c8 34 7 (some g) 1 c (ft 3 4 2 0 0),c8 34 7 a' 1 c' (ft 3 4 2 0 0)]):=by
 refine FE [2,0] Tryz.func106 λX F hX=>?_;refine J.know (p:=1<=c) (λh' s=>by obtain⟨_,cur,h1,h2,_⟩:=s.get (i:=2) rfl;exact h2) λhc=>?_;refine J.qF λ_=>?_;refine J.q λ_=>?_;refine J.l (α:=Nat) (λk=>k<=1) (λk=>[si 5 k,⟨0,pp p,2, .tt⟩,si 1 3]) [] (λk=>[]) (λk=>1-k) (0) (Nat.zero_le _) λk hI=>?_;rcases(by omega:k=0\/k=1)with rfl | rfl
 ·refine J.q λ_=>?_;refine J.v (iI 3) rfl rfl (λhg a w he hw=>j5 tk rfl rfl he hg rfl rfl (hw.get (i:=2) rfl) rfl) ?_;refine J.qT λ_=>?_;refine J.q λ_=>?_;refine J.n (1) (by omega) (by omega) [0,1,2]
 ·refine J.q λ_=>?_;refine J.v (iI 3) rfl rfl (λhg a w he hw=>absurd hg (by decide)) ?_;refine J.qF λ_=>?_;refine J.qc (b4B g c) [2] λ_=>?_;rintro v As ⟨a',c',rfl,rfl⟩;refine⟨_,rfl,trivial,?_⟩;refine J.qn 10 λ_=>?_;refine J.v (.slice (if c=1 then some ⟨g,0,none⟩else some ⟨g,7,none⟩) 0 (c-1)) rfl rfl (λhg a w he hw=>?_) ?_
  ·have e1:=f9 he (x:= .tmp 41) (s:=sv 41 (slv (some g) 1 c)) rfl;have e2:=f9 he (x:= .tmp 42) (s:=⟨42,iI ((1:Nat):Int),0, .tt⟩) rfl;simp only[Slot.val,G.on]at e1 e2;obtain⟨d,f,zv,ok⟩:=d8 (tk.get (t:=24) rfl);obtain⟨fe,rfl,g1,g2⟩:=ok.slice rfl;simp only[execOp,Option.map_some,Option.map_none,e1,e2,slv,Instr.sliceAt,Instr.slice,Instr.sliceBounds,Instr.sliceBound,asIntOf,Sem.run_bind,Sem.run_pure,Result.andThen_ok,d4 ok.hd,j4 g1,g2]
   by_cases h:c=1
   ·subst h;simp
   ·simp[h,Addr.add_none]
  refine J.qr [1,2,3] λ_=>?_;exact⟨_,a',c',rfl,rfl⟩
theorem b7q (p g c q:Nat) (N:Nand) (hN:N.Ok) (ho:N.ops=3):FP 63 [pp p,pp q] [.pt p 176 [slv (some g) 1 c],c8 34 7 (some g) 1 c (ft 3 4 2 0 0),f0 q N]
  (Ps (iI 1) [.emp, .emp,f0 q (N.fault 4 2 0 0 0 0).2]):=by
 refine FE [2,0] Tryz.func63 λX F hX=>?_;refine J.qp (a4G q N) [3] λ_=>?_;rw[ho];refine J.qc (b7s p g c) [1,2] λ_=>?_;rintro v As ⟨x,a',c',rfl,rfl⟩;refine⟨_,rfl,trivial,?_⟩;refine J.know (λh' s=>g7 (c:=(a',c')) (by decide) (s.get (i:=4) rfl)) λhg=>?_;obtain⟨g',rfl⟩:=hg;refine J.q λ_=>?_;refine J.l (α:=Nat) (λk=>k<=1) (λk=>[si 14 k,si 13 1,sv 12 (slv (some g') 1 c'),sv 5 (slv (some g') 1 c'),sp 1 q]) [3] (λk=>[f0 q (if k=0 then N else(N.fault 4 2 0 0 0 0).2)]) (λk=>1-k) (0) (Nat.zero_le _) λk hI=>?_;rcases(by omega:k=0\/k=1)with rfl | rfl
 ·refine J.qT λ_=>?_;refine J.q λ_=>?_;refine J.v (.agg (ft 3 4 2 0 0).toArray) rfl rfl (λhg a w he hw=>m7 tk rfl rfl he rfl rfl rfl (hw.get (i:=4) rfl) rfl rfl) ?_;refine J.qp (U7 q N hN 3 4 2 0 0 0 0) [3] λ_=>?_;refine J.q λ_=>?_;refine J.n (1) (by omega) (by omega) [0,1,2,3,4]
 ·refine J.qF λ_=>?_;refine J.turn1 [1,2] rfl (As:=[.emp, .emp]) (λh s=>⟨λ_=>0,λi A hA=>by
   match i,hA with
   | 0,hA=>simp at hA;subst hA;trivial
   | 1,hA=>simp at hA;subst hA;trivial
   | k+2,hA=>simp at hA⟩) rfl ?_
  exact J.qx [1,2,3]
def SpS (q:Nat) (l:List (A3×Value)):Atom:=exA λmr:Nat=>[.pt q 367 [.map (some mr)],y8 mr a3v l]
theorem a6t:Tryz.prog.underlying 365=some (.map 32 9):=by kernel_rfl
def sE:Value:= .string ⟨#[]⟩
theorem b7d (w:World):(zeroValue 9).run Tryz.prog w= .ok sE w:=by kernel_rfl
theorem b7m:FP 304 [] [] (λv As=>∃q,v=pp q/\As=[SpS q []]):=by
 refine FE [] Tryz.func304 λX F hX=>?_;refine J.q λbs=>?_;refine J.turn1 [1] rfl (As:=[y8 (bs 0) a3v ([]:List (A3×Value))]) (λh s=>?_) rfl ?_
 ·refine⟨λ_=>0,λi A hA=>?_⟩;cases i with
  | zero=>simp at hA;subst hA;exact⟨#[],0,res_some.2 ⟨rfl,s.get (i:=0) rfl⟩,rfl,by simp,by simp⟩
  | succ k=>simp at hA
 refine J.cl (λmr:Nat=>[.pt (bs 1) 367 [.map (some mr)],y8 mr a3v ([]:List (A3×Value))]) (bs 0) [2,1] ?_;refine J.qr [2] λ_=>?_;exact⟨bs 1,rfl,rfl⟩
theorem b7n (q:Nat) (l:List (A3×Value)):FP 309 [pp q] [SpS q l] (Ps (iI (l.length:Int)) [SpS q l]):=by
 refine FE [2] Tryz.func309 λX F hX=>?_;refine J.o (α:=Nat) 1 λmr=>?_;refine J.qF λ_=>?_;refine J.q λ_=>?_;refine J.v (iI (l.length:Int)) rfl rfl (λhg a w he hw=>a1N a6t rfl rfl he rfl (hw.get (i:=2) rfl)) ?_;refine J.cl (λmr:Nat=>[.pt q 367 [.map (some mr)],y8 mr a3v l]) mr [1,2] ?_;exact J.qx [1]
theorem b5F (q:Nat) (l:List (A3×Value)) (x y z:Int):FP 306 [pp q, .agg #[iI x,iI y,iI z]] [SpS q l]
  (Ps (.tuple #[(t7 l (x,y,z)).getD sE, .bool (t7 l (x,y,z)).isSome]) [SpS q l]):=by
 refine FE [2,0] Tryz.func306 λX F hX=>?_;refine J.o (α:=Nat) 1 λmr=>?_;refine J.qF λ_=>?_;refine J.pq (.of [0,4,8,13,17,21,24,28,32,36,40]) [10] [1,2,3] λ_ _=>?_;refine J.vT (.tuple #[(t7 l (x,y,z)).getD sE, .bool (t7 l (x,y,z)).isSome]) rfl rfl (λ_ a w he hC=>?_) ?_
 ·exact(j6 (key:=(x,y,z)) I6 a6t (z:=sE) b7d rfl rfl rfl rfl he rfl rfl (hC rfl _ (d7 (i:=2) rfl))).trans rfl
 refine J.cl (λmr:Nat=>[.pt q 367 [.map (some mr)],y8 mr a3v l]) mr [1,2] ?_;exact J.qx [1]
theorem b5E (q:Nat) (l:List (A3×Value)) (x y z:Int) (b:ByteArray):FP 305 [pp q, .agg #[iI x,iI y,iI z], .string b] [SpS q l]
  (Ps (.tuple #[]) [SpS q (K7 l (x,y,z) (.string b))]):=by
 refine FE [2,0,0] Tryz.func305 λX F hX=>?_;refine J.o (α:=Nat) 1 λmr=>?_;refine J.qT λ_=>?_;refine J.pq (.of [0,4,8,13,17,20,27]) [6] [1,2,3] λ_ _=>?_;refine J.mapUpdate hX I6 a6t (x,y,z) 2 rfl rfl rfl rfl rfl rfl rfl rfl rfl rfl rfl rfl (λ_=>rfl) rfl ⟨trivial,?_⟩;refine J.cl (λmr:Nat=>[.pt q 367 [.map (some mr)],y8 mr a3v (K7 l (x,y,z) (.string b))]) mr [1,2] ?_;refine J.q λ_=>?_;refine J.f [1] ?_;exact⟨rfl,rfl⟩
theorem b1d {l:List (A3×Value)} {k:A3} (h:(t7 l k).isSome=false):a0z l k=l:=by
 refine a1T l k 0 ?_;have:=a3Q l k 0;cases hf:fi l k 0 with
 | none=>rfl
 | some x=>rw[hf]at this;rw[<- this]at h;cases h
theorem b1J (q:Nat) (l:List (A3×Value)) (x y z:Int):FP 311 [pp q, .agg #[iI x,iI y,iI z]] [SpS q l]
  (Ps (.bool (t7 l (x,y,z)).isSome) [SpS q (a0z l (x,y,z))]):=by
 refine FE [2,0] Tryz.func311 λX F hX=>?_;refine J.qp (b5F q l x y z) [1] λ_=>?_;refine J.qd (λ_ h=>?_) λ_ h=>?_
 ·refine J.o (α:=Nat) 1 λmr=>?_;refine J.pq (.of [0,4,8,13,17,22]) [] [1,2] λ_ _=>?_;refine J.delete hX I6 a6t (x,y,z) 3 rfl rfl rfl rfl rfl rfl rfl rfl rfl rfl (λ_=>rfl) rfl ⟨⟨rfl,rfl,trivial⟩,?_⟩;refine J.cl (λmr:Nat=>[.pt q 367 [.map (some mr)],y8 mr a3v (a0z l (x,y,z))]) mr [1,3] ?_;exact J.qx [1]
 ·refine J.qr [1] λ_=>?_;exact⟨rfl,by rw[b1d h];rfl⟩
theorem a8a {l:List (A3×Value)} {is:List Nat} {j:Nat} {y:A3×Value} (hy:l[j]? =some y):i4 (H3 (l.map (·.1)) is)++[iI y.1.1,iI y.1.2.1,iI y.1.2.2]=i4 (H3 (l.map (·.1)) (is++[j])):=by
 simp[i4,H3,hy]
theorem b5G (q:Nat) (l:List (A3×Value)) (hl:l.length<=12):FP 307 [pp q] [SpS q l]
  (λv As=>∃a cap l0 l',l0.Perm (l.map (·.1))/\l'=Y6 a2f l0/\v=slv a l'.length cap/\As=[SpS q l,c8 32 3 a l'.length cap (i4 l')]):=by
 refine FE [2] Tryz.func307 λX F hX=>?_;refine J.o (α:=Nat) 1 λmr=>?_;refine J.qF λ_=>?_;refine J.q λ_=>?_;refine J.rangeMap hX 2 a6t rfl rfl rfl rfl rfl rfl rfl (λ_=>rfl) (λ_=>rfl) λr=>⟨trivial,?_⟩;refine J.turn1 [] rfl (As:=[c8 32 3 none 0 0 (i4 (H3 (l.map (·.1)) []))]) (λh s=>Sep.one ⟨rfl,rfl,rfl⟩) rfl ?_;refine J.q λ_=>?_;refine J.l (α:=(List Nat×Option Nat×Nat)) (λx=>True) (λx=>[sp 11 r,sv 3 (slv x.2.1 x.1.length x.2.2)]) [2,3] (λx=>[itA mr r a3v l x.1,c8 32 3 x.2.1 x.1.length x.2.2 (i4 (H3 (l.map (·.1)) x.1))]) (λx=>l.length-x.1.length) (([],none,0)) (trivial) λx hI=>?_;obtain⟨is,a,cap⟩:=x;dsimp only;refine J.q λ_=>?_;refine J.know (p:=is.Nodup/\∀i∈is,i<l.length) (λh s=>?_) λhk=>?_
 ·obtain⟨_,_,_,_,_,_,_,_,h1,h2,_⟩:=s.get (i:=2) rfl;exact⟨h1,h2⟩
 have hle:=Y0 _ _ hk.1 hk.2;refine J.rangeNext hX 2 rfl rfl rfl rfl rfl rfl rfl (λ_=>rfl) (λ_=>rfl) (λhp=>⟨trivial,?_⟩) (λj y hj hy=>⟨trivial,?_⟩)
 ·refine J.qF λ_=>?_;refine J.qp (a2O 276 a2f (by kernel_rfl) a8U a is.length cap (H3 (l.map (·.1)) is) (by simp[H3]) (by omega)) [3] λ_=>?_;refine J.turn1 [2] rfl (As:=[y8 mr a3v l]) (λh s=>b2T s) rfl ?_;refine J.cl (λmr:Nat=>[.pt q 367 [.map (some mr)],y8 mr a3v l]) mr [1,2] ?_;refine J.qr [1,3] λ_=>?_;have hlen:is.length=(Y6 a2f (H3 (l.map (·.1)) is)).length:=by rw[(I9 _ _).length_eq];simp[H3]
  refine⟨a,cap,H3 (l.map (·.1)) is,Y6 a2f (H3 (l.map (·.1)) is),a3a (by rw[List.length_map];exact hp),rfl,?_,?_⟩
  ·rw[<- hlen]
  ·rw[<- hlen];rfl
 ·have hjl:j<l.length:=(List.getElem?_eq_some_iff.1 hy).1;refine J.qT λ_=>?_;refine J.q λ_=>?_;have hlt:(is++[j]).length<=l.length:=Y0 _ _ (by
   rw[List.nodup_append];exact⟨hk.1,by simp,λa ha b hb=>by simp at hb;subst hb;rintro rfl;exact hj ha⟩) (λi hi=>by
   rw[List.mem_append]at hi;rcases hi with hi | hi
   ·exact hk.2 i hi
   ·simp at hi;subst hi;exact hjl)
  rw[List.length_append,List.length_singleton]at hlt;refine J.rangeEntry hX 2 rfl rfl rfl rfl rfl rfl rfl hy rfl ⟨trivial,?_⟩;refine J.q λ_=>?_;refine J.append hX tk 3 5 0 rfl rfl rfl rfl rfl rfl rfl rfl rfl rfl rfl rfl rfl rfl rfl rfl ?_ ?_ (λ_=>rfl) λa' cap'=>⟨_,(congrArg (λz=>x9 _ 3 (c8 _ _ _ _ _ z)) (a8a hy)).trans rfl,trivial,?_⟩
  ·simp only[maxLen];omega
  ·omega
  refine J.q λ_=>?_;rw[show is.length+1=(is++[j]).length from by simp];refine J.q λ_=>?_;refine J.n ((is++[j],a',cap')) (trivial) (by dsimp only;rw[List.length_append,List.length_singleton];omega) [0,1,2,3]
theorem b1K (b4 b5:Nat) (die blk:Int) (x:A3):FP 315 (K8 x::[pp b4,pp b5]) [.pt b4 3 [iI die], .pt b5 3 [iI blk]]
  (Ps (.bool ((x.1 !=die)||(x.2.1 !=blk))) [.pt b4 3 [iI die], .pt b5 3 [iI blk]]):=by
 refine FE [0,2,3] Tryz.func315 λX F hX=>?_;exact J.qx [1,2]
theorem b4q (q:Nat) (l:List (A3×Value)) (hl:l.length<=12) (die blk:Int):FP 310 [pp q,iI die,iI blk] [SpS q l]
  (λv As=>∃a cap l',l'.Perm ((l.map (·.1)).filter λx=>!((x.1 !=die)||(x.2.1 !=blk)))/\v=slv a l'.length cap/\As=[SpS q l,c8 32 3 a l'.length cap (i4 l')]):=by
 refine FE [2,0,0] Tryz.func310 λX F hX=>?_;refine J.q λbb=>?_;refine J.cb (b5G q l hl) [1] ?_;rintro v As ⟨a,cap,l0,l',hp0,hl',rfl,rfl⟩;refine⟨_,rfl,trivial,?_⟩;have hp:l'.Perm (l.map (·.1)):=by rw[hl'];exact(I9 _ _).trans hp0
 refine J.q λ_=>?_;refine J.turn1 [2,3] rfl (As:=[.hp (HP.of [.pt (bb 0) 3 [iI die], .pt (bb 1) 3 [iI blk]])]) (λh s=>Sep.hpOf.2 s) rfl ?_;refine J.q λ_=>?_;refine J.ca hX (by kernel_rfl) (a6l 315 [pp (bb 0),pp (bb 1)] (λx=>(x.1 !=die)||(x.2.1 !=blk)) _ (by kernel_rfl) (λx=>Fn.pack (b1K (bb 0) (bb 1) die blk x)) a l'.length cap l' rfl (by rw[hp.length_eq,List.length_map];omega)) [4,2] 0 rfl rfl rfl rfl rfl rfl (λ_=>rfl) ?_;rintro v As ⟨l2,rfl,rfl,rfl⟩;refine⟨_,rfl,trivial,?_⟩;refine J.qr [1,4] λ_=>?_;exact⟨a,cap,_,hp.filter _,rfl,rfl⟩
section
variable {KK : Type} [DecidableEq KK]
def a0y (l:List (KK×Value)) (k:KK) (z:Value):List (KK×Value):=match fi l k 0 with
 | none=>l++[(k,z)]
 | some _=>l
def b5o (r:Nat) (kv:KK->Value) (l:List (KK×Value)) (key:KK) (st:Int) (h:Hl):Prop:=
 ∃es clock,h r=some (.map es clock)/\es.toList.map (λe=>(e.key,e.val))=l.map (λx=>(kv x.1,x.2))/\(es.toList.map (·.born)).Nodup/\(∀e∈es.toList,e.born<clock)/\
  ∃(j:Nat) (e0:MapEntry) (u:Value),es.toList[j]? =some e0/\e0.key=kv key/\(e0.born:Int)=st/\fi l key 0=some (j,u)
def b6L (r:Nat) (kv:KK->Value) (l:List (KK×Value)) (key:KK) (st:Int):Atom:= .hp ⟨b5o r kv l key st,λ_ _ l ⟨es,c,h1,h2⟩=>⟨es,c,l _ _ h1,h2⟩⟩
theorem b3t (k:KK):∀(l:List (KK×Value)) i j u,fi l k i=some (j,u)->(l[j-i]?).map (·.1)=some k/\i<=j
 | [],i,j,u,h=>by cases h
 | x::l,i,j,u,h=>by
  unfold fi at h;split at h
  ·rename_i hh;injection h with h;injection h with e1 _;subst e1;simp[hh]
  ·have hl2:=a3C _ _ _ _ _ h;have:=b3t k l _ _ _ h;refine⟨?_,by omega⟩;rw[show j-i=(j-(i+1))+1 from by omega,List.getElem?_cons_succ];exact this.1
theorem b3u (k:KK) (z:Value):∀(l:List (KK×Value)) i,fi l k i=none->fi (l++[(k,z)]) k i=some (i+l.length,z)
 | [],i,_=>by simp[fi]
 | x::l,i,h=>by
  unfold fi at h;split at h
  ·cases h
  ·rename_i hh;rw[List.cons_append,fi,if_neg hh,b3u k z l _ h,List.length_cons];congr 2;omega
variable {P : Program} {kv : KK → Value}
theorem a2R {MT T E:TypeId} (hk:KeyOk P T kv) (hm:P.underlying MT=some (.map T E)) {z:Value} (hz:∀w,(zeroValue E).run P w= .ok z w) {w:World} {r:Nat} {l:List (KK×Value)} (h:a8l r kv l (hl w)) (k:KK):
  ∃w' st,(Instr.mapEntry MT (.map (some r)) (kv k)).run P w= .ok (.tuple #[(t7 l k).getD z,goInt st]) w'/\b5o r kv (a0y l k z) k st (hl w')/\w.grownBy w' (some r):=by
 obtain⟨es,clock,h1,h2,h3,h4⟩:=h;have hf:=L4 hk k w es.toList l h2;have hr:r<w.heap.size:=(Array.getElem?_eq_some_iff.1 h1).1;have hlen:es.toList.length=l.length:=by have:=congrArg List.length h2;simpa using this
 have ha:=a3Q l k 0;unfold Instr.mapEntry;simp only[Sem.run_bind,run_underlying hm,Result.andThen_ok,rgo h1,hk.check,hf];cases hfi:fi l k 0 with
 | none=>
  rw[hfi]at ha;have he:a0y l k z=l++[(k,z)]:=by rw[a0y,hfi]
  refine⟨World.putObj' w r (.map (es.push {key:=kv k,val:=z,born:=clock}) (clock+1)),clock,?_,⟨es.push {key:=kv k,val:=z,born:=clock},clock+1,?_,?_,?_,?_,es.size,{key:=kv k,val:=z,born:=clock},z,?_,rfl,rfl,?_⟩,A9 _ _ _⟩
  ·simp only[Sem.run_bind,hz,Result.andThen_ok,rso _ h1,Sem.run_pure,<- ha,Option.map_none,Option.getD_none];rfl
  ·simp[hl,World.putObj',hr]
  ·rw[he];simp[h2]
  ·simp only[Array.toList_push,List.map_append,List.map_cons,List.map_nil];rw[List.nodup_append];refine⟨h3,by simp,?_⟩;intro a ha b hb;simp at hb;obtain⟨e,he,rfl⟩:=List.mem_map.1 ha;have:=h4 e he;omega
  ·intro e he;simp at he;rcases he with he | rfl
   ·have:=h4 e (by simpa using he);omega
   ·simp
  ·simp
  ·rw[he,b3u k z l 0 hfi,<- hlen];simp
 | some x=>
  obtain⟨j,u⟩:=x;rw[hfi]at ha;have he:a0y l k z=l:=by rw[a0y,hfi]
  have hl2:=a3C _ _ _ _ _ hfi;obtain⟨e0,he0⟩:∃e0,es.toList[j]? =some e0:=⟨_,List.getElem?_eq_getElem (by omega)⟩;have he1:es[j]? =some e0:=by simpa using he0
  have hkey:e0.key=kv k:=by
   have h5:=(b3t k l 0 j u hfi).1;rw[Nat.sub_zero]at h5;have hx:(es.toList.map (λe=>(e.key,e.val)))[j]? =(l.map (λx=>(kv x.1,x.2)))[j]?:=by rw[h2]
   rw[List.getElem?_map,List.getElem?_map,he0]at hx;cases hlj:l[j]? with
   | none=>rw[hlj]at hx;simp at hx
   | some y=>
    rw[hlj]at hx h5;simp only[Option.map_some,Option.some.injEq,Prod.mk.injEq]at hx h5;rw[hx.1,h5]
  have hmod:es.modify j (λe=>{e with key:=kv k})=es:=by
   apply Array.toList_inj.1;rw[Array.toList_modify];apply List.ext_getElem?;intro i;rw[List.getElem?_modify]
   by_cases hij:j=i
   ·subst hij;rw[he0];simp only[Option.map_eq_map,Option.map_some,if_true,<- hkey]
   ·simp[hij]
  refine⟨World.putObj' w r (.map (es.modify j λe=>{e with key:=kv k}) clock),e0.born,?_,⟨es,clock,?_,?_,h3,h4,j,e0,u,he0,hkey,rfl,?_⟩,A9 _ _ _⟩
  ·simp only[he1,Option.map_some,Option.getD_some,hkey,Instr.keyThatStays,hk.bits,if_true,Sem.run_bind,Sem.run_pure,Result.andThen_ok,rso _ h1,<- ha];rfl
  ·rw[hmod];simp[hl,World.putObj',hr]
  ·rw[he];exact h2
  ·rw[he];exact hfi
theorem a1l {MT:TypeId} {w:World} {r:Nat} {l:List (KK×Value)} {key:KK} {st:Int} (h:b5o r kv l key st (hl w)) (v:Value):
  ∃w',(Instr.entryStore MT (.map (some r)) (goInt st) v).run P w= .ok () w'/\a8l r kv (K7 l key v) (hl w')/\w.grownBy w' (some r):=by
 obtain⟨es,clock,h1,h2,h3,h4,j,e0,u,he0,hkey,hst,hfi⟩:=h;have hr:r<w.heap.size:=(Array.getElem?_eq_some_iff.1 h1).1;have hmp:=a0s es.toList l key v 0 j u h2 hfi;rw[Nat.sub_zero]at hmp;have hmod:es.modify j (λe=>{e with val:=v})=es.modify j (λe=>{e with key:=kv key,val:=v}):=by
  apply Array.toList_inj.1;rw[Array.toList_modify,Array.toList_modify];apply List.ext_getElem?;intro i;rw[List.getElem?_modify,List.getElem?_modify]
  by_cases hij:j=i
  ·subst hij;rw[he0];simp only[Option.map_eq_map,Option.map_some,if_true,<- hkey]
  ·simp[hij]
 have hidx:es.findIdx? (λe=>((e.born:Nat):Int)==st)=some j:=by
  rw[Go.WideElems.findIdx_arr,<- hst];exact Go.WideElems.findIdx_born h3 he0
 refine⟨World.putObj' w r (.map (es.modify j λe=>{e with val:=v}) clock),?_,⟨es.modify j λe=>{e with val:=v},clock,?_,?_,?_,?_⟩,A9 _ _ _⟩
 ·simp only[Instr.entryStore,Sem.run_bind,rgo h1,Result.andThen_ok,goInt,asInt,asIntOf,Sem.run_pure,hidx,rso _ h1];rfl
 ·simp[hl,World.putObj',hr]
 ·rw[hmod,Array.toList_modify];exact hmp.1
 ·rw[hmod,Array.toList_modify,hmp.2];exact h3
 ·intro e he;have:e.born∈(es.modify j λe=>{e with val:=v}).toList.map (·.born):=List.mem_map_of_mem he;rw[hmod,Array.toList_modify,hmp.2]at this;obtain⟨e',he',hb⟩:=List.mem_map.1 this;have:=h4 e' he';omega
end
section
variable {X : Cx} {P : Program} {K : List KI} {E : Env} {L : List Atom} {N : Nat} {F : HP} {Post : Value → List Atom → Prop} {rs : List ResultVar} {KK : Type} [DecidableEq KK] {kv : KK → Value}
theorem J.mapEntry (hX:IsCx X P rs N F Post) {KT MT ET:TypeId} (hk:KeyOk P KT kv) (hm:P.underlying MT=some (.map KT ET)) {z:Value} (hz:∀w,(zeroValue ET).run P w= .ok z w) {ops:Array Oper} {C:Cl} {lt:Bool} {i:Nat} {t:PT} {o:Oper} {g:G} {x y:Operand} {r:Nat} {l:List (KK×Value)} (key:KK) {k1 k2 t1 t2:Nat} {g1 g2:G} {kvv:Value} {E':Value->Env} (im:Nat)
  (ho:l8 ops.toList i=some o) (hg:gd ops.toList E o=some g) (hgo:g.on=true) (hop:o.op= .mapEntry MT x y) (hx:ev E x=some ⟨k1, .map (some r),t1,g1⟩) (v1:g1.on=true) (hy:ev E y=some ⟨k2,kvv,t2,g2⟩) (v2:g2.on=true) (hkv:kvv=kv key)
  (hL:l8 L im=some (y8 r kv l)) (hd:∀v,A8 N o.dst v 0 .tt E=some (E' v)) {L2:Int->List Atom} (hL2:∀st,x9 L im (b6L r kv (a0y l key z) key st)=some (L2 st)) (hJ:∀st,Conj (n7 lt C (L2 st))/\J X (.reg ops C t::K) (E' (.tuple #[(t7 l key).getD z, .int .i64 st])) (L2 st)):J X (.reg ops C (.alt lt i t .non)::K) E L:=by
 refine J.op hX (S:=λv' L'=>∃st,v'= .tuple #[(t7 l key).getD z, .int .i64 st]/\L'=L.set im (b6L r kv (a0y l key z) key st)) 0 ho hg hgo (λa0 w hen hs=>?_) hd (λv L' ⟨st,e1,e2⟩=>by subst e1;subst e2;rw[<- x8 (hL2 st)];exact hJ st);rw[j9]at hL;have ex:=f9 hen hx;have ey:=f9 hen hy;simp only[Slot.val,v1,v2]at ex ey;rw[hkv]at ey;have hmap:a8l r kv l (hl w):=hs.get hL;obtain⟨w',st,r1,r2,r3⟩:=a2R (P:=P) hk hm hz hmap key;refine⟨_,_, .value _,w',⟨st,rfl,rfl⟩,by simp only[execOp,hop,ex,ey,Sem.run_bind,r1,Result.andThen_ok,Sem.run_pure];rfl, .inl rfl,?_,Ext.grown r3⟩;exact Sep.step hs hL (x:=some r) (x':=some r) (λh g ⟨es,c,h1,_⟩ e=>by injection e with e;subst e;exact⟨_,h1⟩) r3 (.inl rfl) (λh hh=>by
  obtain⟨es,c,h1,h2⟩:=r2;exact⟨es,c,(hh r rfl).trans h1,h2⟩)
theorem J.entryStore (hX:IsCx X P rs N F Post) {MT:TypeId} {ops:Array Oper} {C:Cl} {lt:Bool} {i:Nat} {t:PT} {o:Oper} {g:G} {x y u:Operand} {r:Nat} {l:List (KK×Value)} {key:KK} {st:Int} {k1 k2 k3 t1 t2 t3:Nat} {g1 g2 g3:G} {v:Value} {E':Value->Env} (im:Nat)
  (ho:l8 ops.toList i=some o) (hg:gd ops.toList E o=some g) (hgo:g.on=true) (hop:o.op= .entryStore MT x y u) (hx:ev E x=some ⟨k1, .map (some r),t1,g1⟩) (v1:g1.on=true) (hy:ev E y=some ⟨k2, .int .i64 st,t2,g2⟩) (v2:g2.on=true) (hu:ev E u=some ⟨k3,v,t3,g3⟩) (v3:g3.on=true)
  (hL:l8 L im=some (b6L r kv l key st)) (hd:∀v,A8 N o.dst v 0 .tt E=some (E' v)) {L2:List Atom} (hL2:x9 L im (y8 r kv (K7 l key v))=some L2) (hJ:Conj (n7 lt C L2)/\J X (.reg ops C t::K) (E' undef) L2):J X (.reg ops C (.alt lt i t .non)::K) E L:=by
 refine J.op hX (S:=λv' L'=>v'=undef/\L'=L.set im (y8 r kv (K7 l key v))) 0 ho hg hgo (λa0 w hen hs=>?_) hd (λv L' ⟨e1,e2⟩=>by subst e1;subst e2;rw[<- x8 hL2];exact hJ);rw[j9]at hL;have ex:=f9 hen hx;have ey:=f9 hen hy;have eu:=f9 hen hu;simp only[Slot.val,v1,v2,v3]at ex ey eu;have hent:b5o r kv l key st (hl w):=hs.get hL;obtain⟨w',r1,r2,r3⟩:=a1l (P:=P) (MT:=MT) hent v;refine⟨undef,_, .skip,w',⟨rfl,rfl⟩,by simp only[execOp,hop,ex,ey,eu,Sem.run_bind];rw[show(Value.int IntKind.i64 st)=goInt st from rfl,r1];rfl, .inr ⟨rfl,rfl⟩,?_,Ext.grown r3⟩;exact Sep.step hs hL (x:=some r) (x':=some r) (λh g ⟨es,c,h1,_⟩ e=>by injection e with e;subst e;exact⟨_,h1⟩) r3 (.inl rfl) (λh hh=>by
  obtain⟨es,c,h1,h2⟩:=r2;exact⟨es,c,(hh r rfl).trans h1,h2⟩)
end
abbrev Pg:={l:List UInt8//l.length=32}
def pgk (p:Pg):Value:=pgV p.1
theorem a4S:KeyOk Tryz.prog 106 pgk where
 now:=⟨_,Tryz.underlying106,λ_ _=> .inl rfl⟩
 eq:=λa b w=>by
  have:=C8 100 106 _ a3t 10000 (by omega) (u9 a.1) (u9 b.1) (a1y a.1) (a1y b.1) w;rw[b6K _ _ a.2 b.2,b4R,b4R]at this;have e:decide (a.1=b.1)=decide (a=b):=by
   by_cases h:a=b
   ·simp[h]
   ·have:¬a.1=b.1:=λe=>h (Subtype.ext e);simp[h,this]
  rw[<- e];exact this
 check:=λe a w=>by kernel_rfl
 bits:=λa=>by simp[pgk,u9,byC,bv,Instr.sameBits]
theorem a4p:Tryz.prog.underlying 368=some (.map 106 74):=by kernel_rfl
theorem a4k (w:World):(zeroValue 74).run Tryz.prog w= .ok (.slice none 0 0) w:=by kernel_rfl
def p1:Pg:=⟨[1,0,0,0,0,0,0,0,0,0,0,0,0,0,0,0,0,0,0,0,0,0,0,0,0,0,0,0,0,0,0,0],rfl⟩
def p2:Pg:=⟨[2,0,0,0,0,0,0,0,0,0,0,0,0,0,0,0,0,0,0,0,0,0,0,0,0,0,0,0,0,0,0,0],rfl⟩
def pg3:List Value:=u9 p1.1++(u9 p2.1++u9 p1.1)
def twL (k:Nat) (a b:Option Nat×Nat):List (Pg×Value):=match k with
 | 0=>[]
 | 1=>[(p1,slv a.1 1 a.2)]
 | 2=>[(p1,slv a.1 1 a.2),(p2,slv b.1 1 b.2)]
 | _=>[(p1,slv a.1 2 a.2),(p2,slv b.1 1 b.2)]
def twN (k:Nat):Nat:=match k with | 0=>0 | 1=>1 | 2=>1 | _=>2
def twM (k:Nat):Nat:=match k with | 0=>0 | 1=>0 | _=>1
def twA (k:Nat):List Value:=match k with | 0=>[] | 1=>[iI 0] | 2=>[iI 0] | _=>[iI 0,iI 2]
def twB (k:Nat):List Value:=match k with | 0=>[] | 1=>[] | _=>[iI 1]
def twO (k:Nat) (ga ca:Nat):List Value:=match k with | 0=>[] | _=>[slv (some ga) 2 ca]
theorem b3W (g:Nat):FP 308 [.slice (some ⟨g,0,none⟩) 3 3] [.pt g 106 pg3]
  (λv As=>∃o co a ca,v=slv o 1 co/\As=[c8 74 1 o 1 co [slv a 2 ca],c8 3 1 a 2 ca [iI 0,iI 2]]):=by
 refine FE [2] Tryz.func308 λX F hX=>?_;refine J.q λmm=>?_;refine J.turn1 [2] rfl (As:=[y8 (mm 0) pgk (twL 0 (none,0) (none,0)),c8 3 1 none 0 0 [],c8 3 1 none 0 0 []]) (λh s=>⟨λ_=>0,λi A hA=>by
  match i,hA with
  | 0,hA=>simp at hA;subst hA;exact⟨#[],0,res_some.2 ⟨rfl,s.get (i:=0) rfl⟩,rfl,by simp,by simp⟩
  | 1,hA=>simp at hA;subst hA;exact⟨rfl,rfl,rfl⟩
  | 2,hA=>simp at hA;subst hA;exact⟨rfl,rfl,rfl⟩
  | k+3,hA=>simp at hA⟩) rfl ?_
 refine J.q λ_=>?_;refine J.l (α:=(Nat×(Option Nat×Nat)×(Option Nat×Nat))) (λz=>z.1<=3/\(z.1=0->∀g,z.2.1.1≠some g)/\(z.1<=1->∀g,z.2.2.1≠some g)) (λz=>[si 13 z.1,si 12 3,⟨11, .slice (some ⟨g,0,none⟩) 3 3,2, .tt⟩,⟨0, .slice (some ⟨g,0,none⟩) 3 3,2, .tt⟩,⟨3, .map (some (mm 0)),3, .tt⟩]) [2,3,4] (λz=>[y8 (mm 0) pgk (twL z.1 z.2.1 z.2.2),c8 3 1 z.2.1.1 (twN z.1) z.2.1.2 (twA z.1),c8 3 1 z.2.2.1 (twM z.1) z.2.2.2 (twB z.1)]) (λz=>3-z.1) ((0,(none,0),(none,0))) (⟨by omega,by simp,by simp⟩) λz hI=>?_;obtain⟨k,⟨a,ca⟩,⟨b,cb⟩⟩:=z;dsimp only at hI ⊢;obtain⟨hI0,hI⟩:=hI;rcases(by omega:k=0\/k=1\/k=2\/k=3)with rfl | rfl | rfl | rfl
 ·
  refine J.qT λ_=>?_;obtain rfl:a=none:=by cases a with
   | none=>rfl
   | some g=>exact absurd rfl (hI.1 rfl g)
  refine J.know (p:=ca=0) (λh' s=>(s.get (i:=3) rfl).2.2) λhg=>?_;subst hg;refine J.q λ_=>?_;refine J.v (pgk p1) rfl rfl (λhg a w he hw=>j3 tk rfl rfl he rfl rfl rfl (hw.get (i:=1) rfl) rfl rfl) ?_;refine J.q λ_=>?_;refine J.mapEntry hX a4S a4p a4k p1 2 rfl rfl rfl rfl rfl rfl rfl rfl rfl rfl (λ_=>rfl) (λ_=>rfl) λst=>⟨trivial,?_⟩;refine J.q λ_=>?_;refine J.append hX tk (a:=none) (n:=0) (cap:=0) 3 6 0 rfl rfl rfl rfl rfl rfl rfl rfl rfl rfl rfl rfl rfl rfl rfl rfl (by decide) (by decide) (λ_=>rfl) λa2 c2=>⟨_,rfl,trivial,?_⟩;refine J.q λ_=>?_;refine J.entryStore hX 2 rfl rfl rfl rfl rfl rfl rfl rfl rfl rfl rfl (λ_=>rfl) rfl ⟨trivial,?_⟩;refine J.q λ_=>?_;refine J.n ((1,(a2,c2),(b,cb))) (⟨by dsimp only;omega,by simp,λ_=>hI.2 (by omega)⟩) (by dsimp only;omega) [0,1,2,3,4]
 ·
  refine J.qT λ_=>?_;obtain rfl:b=none:=by cases b with
   | none=>rfl
   | some g=>exact absurd rfl (hI.2 (by omega) g)
  refine J.know (p:=cb=0) (λh' s=>(s.get (i:=4) rfl).2.2) λhg=>?_;subst hg;refine J.q λ_=>?_;refine J.v (pgk p2) rfl rfl (λhg a w he hw=>j3 tk rfl rfl he rfl rfl rfl (hw.get (i:=1) rfl) rfl rfl) ?_;refine J.q λ_=>?_;refine J.mapEntry hX a4S a4p a4k p2 2 rfl rfl rfl rfl rfl rfl rfl rfl rfl rfl (λ_=>rfl) (λ_=>rfl) λst=>⟨trivial,?_⟩;refine J.q λ_=>?_;refine J.append hX tk (a:=none) (n:=0) (cap:=0) 4 6 0 rfl rfl rfl rfl rfl rfl rfl rfl rfl rfl rfl rfl rfl rfl rfl rfl (by decide) (by decide) (λ_=>rfl) λa2 c2=>⟨_,rfl,trivial,?_⟩;refine J.q λ_=>?_;refine J.entryStore hX 2 rfl rfl rfl rfl rfl rfl rfl rfl rfl rfl rfl (λ_=>rfl) rfl ⟨trivial,?_⟩;refine J.q λ_=>?_;refine J.n ((2,(a,ca),(a2,c2))) (⟨by dsimp only;omega,by simp,by simp⟩) (by dsimp only;omega) [0,1,2,3,4]
 ·
  refine J.qT λ_=>?_;refine J.know (λh' s=>g7 (c:=(a,ca)) (by decide) (s.get (i:=3) rfl)) λhg=>?_;obtain⟨ga,rfl⟩:=hg;refine J.q λ_=>?_;refine J.v (pgk p1) rfl rfl (λhg a w he hw=>j3 tk rfl rfl he rfl rfl rfl (hw.get (i:=1) rfl) rfl rfl) ?_;refine J.q λ_=>?_;refine J.mapEntry hX a4S a4p a4k p1 2 rfl rfl rfl rfl rfl rfl rfl rfl rfl rfl (λ_=>rfl) (λ_=>rfl) λst=>⟨trivial,?_⟩;refine J.q λ_=>?_;refine J.append hX tk (a:=(some ga)) (n:=1) (cap:=ca) 3 6 0 rfl rfl rfl rfl rfl rfl rfl rfl rfl rfl rfl rfl rfl rfl rfl rfl (by decide) (by decide) (λ_=>rfl) λa2 c2=>⟨_,rfl,trivial,?_⟩;refine J.q λ_=>?_;refine J.entryStore hX 2 rfl rfl rfl rfl rfl rfl rfl rfl rfl rfl rfl (λ_=>rfl) rfl ⟨trivial,?_⟩;refine J.q λ_=>?_;refine J.n ((3,(a2,c2),(b,cb))) (⟨by dsimp only;omega,by simp,by simp⟩) (by dsimp only;omega) [0,1,2,3,4]
 ·refine J.qF λ_=>?_;refine J.know (λh' s=>g7 (c:=(a,ca)) (by decide) (s.get (i:=3) rfl)) λhg=>?_;obtain⟨ga,rfl⟩:=hg;refine J.know (λh' s=>g7 (c:=(b,cb)) (by decide) (s.get (i:=4) rfl)) λhg=>?_;obtain⟨gb,rfl⟩:=hg;refine J.turn1 [] rfl (As:=[c8 74 1 none 0 0 []]) (λh s=>Sep.one ⟨rfl,rfl,rfl⟩) rfl ?_;refine J.q λ_=>?_;refine J.l (α:=(Nat×Option Nat×Nat)) (λz=>z.1<=3/\(z.1=0->∀g,z.2.1≠some g)) (λz=>[si 29 z.1,si 28 3,⟨27, .slice (some ⟨g,0,none⟩) 3 3,2, .tt⟩,⟨3, .map (some (mm 0)),3, .tt⟩,⟨6,slv z.2.1 (twM (z.1+1)) z.2.2,0, .tt⟩]) [5] (λz=>[c8 74 1 z.2.1 (twM (z.1+1)) z.2.2 (twO z.1 ga ca)]) (λz=>3-z.1) ((0,none,0)) (⟨by omega,by simp⟩) λz hI=>?_;obtain⟨k,o,co⟩:=z;dsimp only at hI ⊢;obtain⟨hI0,hJ⟩:=hI;rcases(by omega:k=0\/k=1\/k=2\/k=3)with rfl | rfl | rfl | rfl
  ·refine J.qT λ_=>?_;refine J.q λ_=>?_;refine J.v (pgk p1) rfl rfl (λhg a w he hw=>j3 tk rfl rfl he rfl rfl rfl (hw.get (i:=1) rfl) rfl rfl) ?_;refine J.q λ_=>?_;refine J.v (slv (some ga) 2 ca) rfl rfl (λhg a w he hw=>?_) ?_
   ·exact(j6 (key:=p1) a4S a4p (z:= .slice none 0 0) a4k rfl rfl rfl rfl he rfl rfl (hw.get (i:=2) rfl)).trans rfl
   refine J.q λ_=>?_;refine J.v (iI 0) rfl rfl (λhg a w he hw=>j5 tk rfl rfl he rfl rfl rfl (hw.get (i:=3) rfl) rfl) ?_;refine J.qT λ_=>?_;obtain rfl:o=none:=by cases o with
    | none=>rfl
    | some g=>exact absurd rfl (hJ rfl g)
   refine J.know (p:=co=0) (λh' s=>(s.get (i:=5) rfl).2.2) λhg=>?_;subst hg;refine J.q λ_=>?_;refine J.append hX tk (a:=none) (n:=0) (cap:=0) 5 7 0 rfl rfl rfl rfl rfl rfl rfl rfl rfl rfl rfl rfl rfl rfl rfl rfl (by decide) (by decide) (λ_=>rfl) λo2 c2=>⟨_,rfl,trivial,?_⟩;refine J.q λ_=>?_;refine J.n ((1,o2,c2)) (⟨by dsimp only;omega,by simp⟩) (by dsimp only;omega) [0,1,2,3,4,5]
  ·refine J.qT λ_=>?_;refine J.q λ_=>?_;refine J.v (pgk p2) rfl rfl (λhg a w he hw=>j3 tk rfl rfl he rfl rfl rfl (hw.get (i:=1) rfl) rfl rfl) ?_;refine J.q λ_=>?_;refine J.v (slv (some gb) 1 cb) rfl rfl (λhg a w he hw=>?_) ?_
   ·exact(j6 (key:=p2) a4S a4p (z:= .slice none 0 0) a4k rfl rfl rfl rfl he rfl rfl (hw.get (i:=2) rfl)).trans rfl
   refine J.q λ_=>?_;refine J.v (iI 1) rfl rfl (λhg a w he hw=>j5 tk rfl rfl he rfl rfl rfl (hw.get (i:=4) rfl) rfl) ?_;refine J.qF λ_=>?_;refine J.q λ_=>?_;refine J.n ((2,o,co)) (⟨by dsimp only;omega,by simp⟩) (by dsimp only;omega) [0,1,2,3,4,5]
  ·refine J.qT λ_=>?_;refine J.q λ_=>?_;refine J.v (pgk p1) rfl rfl (λhg a w he hw=>j3 tk rfl rfl he rfl rfl rfl (hw.get (i:=1) rfl) rfl rfl) ?_;refine J.q λ_=>?_;refine J.v (slv (some ga) 2 ca) rfl rfl (λhg a w he hw=>?_) ?_
   ·exact(j6 (key:=p1) a4S a4p (z:= .slice none 0 0) a4k rfl rfl rfl rfl he rfl rfl (hw.get (i:=2) rfl)).trans rfl
   refine J.q λ_=>?_;refine J.v (iI 0) rfl rfl (λhg a w he hw=>j5 tk rfl rfl he rfl rfl rfl (hw.get (i:=3) rfl) rfl) ?_;refine J.qF λ_=>?_;refine J.q λ_=>?_;refine J.n ((3,o,co)) (⟨by dsimp only;omega,by simp⟩) (by dsimp only;omega) [0,1,2,3,4,5]
  ·refine J.qF λ_=>?_;refine J.qr [5,3] λ_=>?_;exact⟨o,co,some ga,ca,rfl,rfl⟩
theorem b7t {α:Type} {l:List α} {a b:α} (h:l.Perm [a,b]):l=[a,b]\/l=[b,a]:=by
 match l,h.length_eq,h with
 | [x,y],_,h=>
  have hx:=(h.mem_iff (a:=x)).1 (by simp);simp only[List.mem_cons,List.not_mem_nil,or_false]at hx;rcases hx with rfl | rfl
  ·left;have:=(List.perm_cons x).1 h;rw[List.perm_singleton.1 this]
  ·right;have:=(List.perm_cons x).1 (h.trans (List.Perm.swap x a []));rw[List.perm_singleton.1 this]
theorem b4s (a:ByteArray) (w:World) (o1 o2:Operand):(do eqGuard .eql 9 o1 o2 (.string a) (.string a);binOp .eql 9 (.string a) (.string a):Sem Value).run Tryz.prog w= .ok (.bool true) w:=by
 have hu:Tryz.prog.underlying 9=some .string:=by kernel_rfl
 simp[eqGuard,binOp,Op.stringOp,a3F,Op.equalIn,d4 hu]
theorem a9W {E:Env} {n:Nat} {a:Act} {w:World} {o:Oper} {x y:Operand} {k1 k2 u1 u2 t2:Nat} {g1 g2:G} {s1:ByteArray} (hop:o.op= .binOp .eql 9 x y t2) (hx:ev E x=some ⟨k1, .string s1,u1,g1⟩) (hy:ev E y=some ⟨k2, .string s1,u2,g2⟩) (he:EnvOK n E a) (v1:g1.on=true) (v2:g2.on=true):
  (execOp a.eval o).run Tryz.prog w= .ok (.value (.bool true)) w:=by
 have ex:=f9 he hx;have ey:=f9 he hy;simp only[Slot.val,v1,v2]at ex ey;have h:=b4s s1 w x y;simp only[execOp,hop,ex,ey];simp only[Sem.run_bind]at h ⊢;rw[h];rfl
def sX:Value:= .string ⟨#[120]⟩
def sY:Value:= .string ⟨#[121]⟩
def sL:List (A3×Value):=[((1,2,3),sX),((0,9,9),sY)]
theorem b4t {l:List A3} (h:l.Perm [((1:Int),(2:Int),(3:Int)),(0,9,9)]):Y6 a2f l=[(0,9,9),(1,2,3)]:=by
 rcases b7t h with rfl | rfl<;>decide
theorem b2N:FP 299 [] [] (Ps (.bool true) []):=by
 refine FE [] Tryz.func299 λX F hX=>?_;refine J.qc (b7m) [] λ_=>?_;rintro v As ⟨q,rfl,rfl⟩;refine⟨_,rfl,trivial,?_⟩;refine J.qF λ_=>?_;refine J.qp (b5E q [] 1 2 3 ⟨#[120]⟩) [1] λ_=>?_;refine J.qp (b5E q [((1,2,3),sX)] 0 9 9 ⟨#[121]⟩) [1] λ_=>?_;refine J.qp (b5F q sL 1 2 3) [1] λ_=>?_;rw[show(t7 sL (1,2,3)).getD sE=sX from rfl,show(t7 sL (1,2,3)).isSome=true from rfl];refine J.qc (b5G q sL (by decide)) [1] λ_=>?_;rintro v As ⟨a,cap,l0,l',hp,hl',rfl,rfl⟩;refine⟨_,rfl,trivial,?_⟩;obtain rfl:l'=[(0,9,9),(1,2,3)]:=hl'.trans (b4t hp);refine J.know (λh' s=>g7 (c:=(a,cap)) (by decide) (s.get (i:=2) rfl)) λhg=>?_;obtain⟨ga,rfl⟩:=hg;refine J.q λbp=>?_;refine J.cb (b3W (bp 0)) [3] ?_;rintro v As ⟨o,co,a2,c2,rfl,rfl⟩;refine⟨_,rfl,trivial,?_⟩;refine J.know (λh' s=>g7 (c:=(o,co)) (by decide) (s.get (i:=3) rfl)) λhg=>?_;obtain⟨go,rfl⟩:=hg;refine J.know (λh' s=>g7 (c:=(a2,c2)) (by decide) (s.get (i:=4) rfl)) λhg=>?_;obtain⟨g2,rfl⟩:=hg;refine J.q λ_=>?_;refine J.v (.bool true) rfl rfl (λhg a w he hw=>(a9W rfl rfl rfl he rfl rfl).trans rfl) ?_;refine J.qp (b7n q sL) [1] λ_=>?_;refine J.q λ_=>?_;refine J.v (iI 0) rfl rfl (λhg a w he hw=>j5 tk rfl rfl he hg rfl rfl (hw.get (i:=2) rfl) rfl) ?_;refine J.qc (b4q q sL (by decide) 1 2) [1] λ_=>?_;rintro v As ⟨a3,c3,l3,hp3,rfl,rfl⟩;refine⟨_,rfl,trivial,?_⟩;have h3:l3.length=1:=hp3.length_eq.trans rfl;rw[h3];refine J.q λ_=>?_;refine J.v (K8 (0,9,9)) rfl rfl (λhg a w he hw=>m7 tk rfl rfl he hg rfl rfl (hw.get (i:=2) rfl) rfl rfl) ?_;refine J.qp (b1J q sL 0 9 9) [1] λ_=>?_;rw[show(t7 sL (0,9,9)).isSome=true from rfl,show a0z sL (0,9,9)=[((1,2,3),sX)]from rfl];refine J.q λ_=>?_;refine J.v (K8 (0,9,9)) rfl rfl (λhg a w he hw=>m7 tk rfl rfl he hg rfl rfl (hw.get (i:=2) rfl) rfl rfl) ?_;refine J.qp (b1J q [((1,2,3),sX)] 0 9 9) [1] λ_=>?_;rw[show(t7 [(((1:Int),(2:Int),(3:Int)),sX)] (0,9,9)).isSome=false from rfl];refine J.q λ_=>?_;refine J.v (slv (some g2) 2 c2) rfl rfl (λhg a w he hw=>j5 tk rfl rfl he hg rfl rfl (hw.get (i:=3) rfl) rfl) ?_;refine J.q λ_=>?_;refine J.v (slv (some g2) 2 c2) rfl rfl (λhg a w he hw=>j5 tk rfl rfl he hg rfl rfl (hw.get (i:=3) rfl) rfl) ?_;refine J.q λ_=>?_;refine J.v (iI 2) rfl rfl (λhg a w he hw=>j5 tk rfl rfl he hg rfl rfl (hw.get (i:=4) rfl) rfl) ?_;exact J.qx []
theorem b2O:FP 291 [] [] (Ps (.bool true) []):=by
 refine FE [] Tryz.func291 λX F hX=>?_;refine J.qp (b2N) [] λ_=>?_;exact J.qx []
def b7y:List Lk:=lvD++[.int .i64, .int .i64, .int .i64, .int .i64, .int .i64, .int .i64, .int .i64]
theorem b2E:y9 Tryz.prog 100 234=some b7y:=by kernel_rfl
theorem b3r (s:Sh):Fits b7y (shL s):=Fits.append (I4 s.data) (show Fits [.int .i64, .int .i64, .int .i64, .int .i64, .int .i64, .int .i64, .int .i64] [.int .i64 s.role, .int .i64 s.lpn, .int .i64 s.seq, .int .i64 s.kind, .int .i64 s.block, .int .i64 s.row, .int .i64 s.mask]from⟨rfl,rfl,rfl,rfl,rfl,rfl,rfl,trivial⟩)
theorem b7N (zs:List Value):mkV Tryz.prog 234 zs= .agg zs.toArray:=by simp[mkV,Tryz.underlying234]
theorem b7R:Tryz.prog.eqGuardType Tryz.prog.depth 234=false:=by kernel_rfl
theorem b7S (x y:Sh) (hx:x.data.length=16) (hy:y.data.length=16):i5 (shL x) (shL y)=decide (x=y):=by
 have h1:shL x=i9 x.data++[.int .i64 x.role, .int .i64 x.lpn, .int .i64 x.seq, .int .i64 x.kind, .int .i64 x.block, .int .i64 x.row, .int .i64 x.mask]:=rfl;have h2:shL y=i9 y.data++[.int .i64 y.role, .int .i64 y.lpn, .int .i64 y.seq, .int .i64 y.kind, .int .i64 y.block, .int .i64 y.row, .int .i64 y.mask]:=rfl;rw[h1,h2,C9 (a:=i9 x.data) (c:=i9 y.data) rfl,eqD _ _ hx hy];obtain⟨d,r,l,s,k,b,ro,m⟩:=x;obtain⟨d',r',l',s',k',b',ro',m'⟩:=y;rw[Bool.eq_iff_iff];simp[i5,Z7,Sh.mk.injEq]
def b7A:List Lk:=[.int .i64, .int .i64, .int .i64]++lvD
theorem a7d:y9 Tryz.prog 100 155=some b7A:=by kernel_rfl
theorem a5V (e:En):Fits b7A (enL e):=Fits.append (show Fits [.int .i64, .int .i64, .int .i64] [.int .i64 e.lpn, .int .i64 e.seq, .int .i64 e.role]from⟨rfl,rfl,rfl,trivial⟩) (I4 e.data)
theorem b7x (zs:List Value):mkV Tryz.prog 155 zs= .agg zs.toArray:=by simp[mkV,Tryz.underlying155]
theorem b7E:Tryz.prog.eqGuardType Tryz.prog.depth 155=false:=by kernel_rfl
theorem b7H (x y:En) (hx:x.data.length=16) (hy:y.data.length=16):i5 (enL x) (enL y)=true↔x=y:=by
 have h1:enL x=[.int .i64 x.lpn, .int .i64 x.seq, .int .i64 x.role]++i9 x.data:=rfl;have h2:enL y=[.int .i64 y.lpn, .int .i64 y.seq, .int .i64 y.role]++i9 y.data:=rfl;rw[h1,h2,C9 (a:=[.int .i64 x.lpn, .int .i64 x.seq, .int .i64 x.role]) (c:=[.int .i64 y.lpn, .int .i64 y.seq, .int .i64 y.role]) rfl,eqD _ _ hx hy];obtain⟨l,s,r,d⟩:=x;obtain⟨l',s',r',d'⟩:=y;simp[i5,Z7,En.mk.injEq,and_assoc]
section
variable {X : Cx} {P : Program} {T : Tab} {K : List KI} {E : Env} {L : List Atom} {N : Nat} {F : HP} {Post : Value → List Atom → Prop} {rs : List ResultVar}
theorem J.effG (hX:IsCx X P rs N F Post) (hT:TabOK P T) {ops:Array Oper} {C:Cl} {lt:Bool} {i:Nat} {t:PT} {o:Oper} {g:G} {v:Nat->Value} {tag:Nat} {L':Nat->List Atom} {ob:List Prop} {E':Value->Env}
  (ho:l8 ops.toList i=some o) (hg:gd ops.toList E o=some g) (hgo:g.on=true) (hef:∀x:Nat,eff T (λ_=>x) E L 0 o.op=some ⟨v x,tag,L' x,ob,1⟩) (hob:Conj ob)
  (hd:∀v,A8 N o.dst v tag .tt E=some (E' v)) (hJ:∀x,Conj (n7 lt C (L' x))/\J X (.reg ops C t::K) (E' (v x)) (L' x)):J X (.reg ops C (.alt lt i t .non)::K) E L:=by
 refine J.op hX (S:=λv' L2=>∃x,v'=v x/\L2=L' x) tag ho hg hgo (λa0 w hen hs=>?_) hd (λv' L2 ⟨x,e1,e2⟩=>by subst e1;subst e2;exact hJ x);obtain⟨nv,w',r1,r2,r3,r4⟩:=a9z (P:=P) hT hen (hef w.heap.size) hob hs (.inr rfl);exact⟨v w.heap.size,L' w.heap.size,nv,w',⟨w.heap.size,rfl,rfl⟩,r1,r2,r3,r4⟩
end
end Go.Proofs.YtnffkcabeecopaaGreat
namespace Go.Proofs.YtnffkcabeecopaaGreat
open Go Go.RowKit
def pgB (a b:UInt8):List UInt8:=[a,b,0,0,0,0,0,0,0,0,0,0,0,0,0,0,0,0,0,0,0,0,0,0,0,0,0,0,0,0,0,0]
namespace B7
def N0:Nand:=Nand.new 3 8 2
def N1:Nand:=N0.progN 1 0 0 (pgB 7 0)
def N2:Nand:=N1.progN 1 0 0 (pgB 8 0)
def N3:Nand:=(N2.fault 3 1 0 0 0 0).2
def N4:Nand:=N3.eraseN 1 0
def N5:Nand:=N4.setCut 0 1
def N6:Nand:=N5.progN 1 0 0 (pgB 5 6)
def N7:Nand:=N6.onN
def N8:Nand:=(N7.fault 4 2 0 0 0 0).2
theorem G0:N0.Gd 100 0:=Nand.Gd.new 3 8 2 rfl 100 (by decide)
theorem G1:N1.Gd 99 0:=G0.prog 1 0 0 _ rfl
theorem G2:N2.Gd 98 0:=G1.prog 1 0 0 _ rfl
theorem G3:N3.Gd 98 0:=G2.fault0 3 1 0 0 0 0 (by decide)
theorem G4:N4.Gd 97 0:=G3.erase 1 0
theorem G5:N5.Gd 97 0:=G4.cut 0 1 (by decide) (by decide)
theorem G6:N6.Gd 96 0:=G5.prog 1 0 0 _ rfl
theorem G7:N7.Gd 96 0:=G6.on
theorem G8:N8.Gd 96 0:=G7.fault0 4 2 0 0 0 0 (by decide)
end B7
open B7
theorem b4Q:FP 43 [.agg #[iI 0,iI 0,iI 0]] [] (Ps (.pointer none) []):=by
 refine FE [0] Tryz.func43 λX F hX=>?_;refine J.q λg1=>?_;refine J.cb (a1V 0 0 0) [] ?_;refine cpq ⟨_,rfl,trivial,?_⟩;rw[show l9 0 0 0=false from rfl];refine J.qT λ_=>?_;exact J.qx []
theorem b2K:FP 281 [] [] (Ps (.bool true) []):=by
 refine FE [] Tryz.func281 λX F hX=>?_;refine J.qc (a4H 3 8 2 rfl) [] λ_=>?_;rintro v As ⟨q,rfl,rfl⟩;refine⟨_,rfl,trivial,?_⟩;refine J.qp (b4Q) [] λ_=>?_;refine J.qF λ_=>?_;refine J.p (.of [0,5,8,16,21,24,14,31,32,36]) [7,8,9] [3] λ_=>?_;refine J.qp (a0f q N0 G0.ok G0.room 1 0 0 (pgB 7 0) rfl) [2] λ_=>?_;rw[show N0.progE 1 0 0=0 from by kernel_rfl];refine J.qp (a0f q N1 G1.ok G1.room 1 0 0 (pgB 8 0) rfl) [2] λ_=>?_;rw[show N1.progE 1 0 0=4 from by kernel_rfl];refine J.qp (a3i q N2 G2.ok 1 0 0) [2] λ_=>?_;rw[show N2.readE 1 0 0=0 from by kernel_rfl,show N2.readV 1 0 0=pgB 7 0 from by kernel_rfl];refine J.qp (a3i q N2 G2.ok 2 0 0) [2] λ_=>?_;rw[show N2.readE 2 0 0=5 from by kernel_rfl];refine J.qp (U7 q N2 G2.ok 0 3 1 0 0 0 0) [2] λ_=>?_;rw[show(N2.fault 3 1 0 0 0 0).1=true from by kernel_rfl];refine J.qp (a3i q N3 G3.ok 1 0 0) [2] λ_=>?_;rw[show N3.readE 1 0 0=6 from by kernel_rfl];refine J.qp (a9f q N3 G3.ok G3.room G3.nodup (Nat.le_trans G3.few (by decide)) 1 0) [2] λ_=>?_;rw[show N3.eraseE 1 0=0 from by kernel_rfl];refine J.qp (a4I q N4 0 1) [2] λ_=>?_;refine J.qp (a0f q N5 G5.ok G5.room 1 0 0 (pgB 5 6) rfl) [2] λ_=>?_;rw[show N5.progE 1 0 0=9 from by kernel_rfl];refine J.qp (b0p q N6) [2] λ_=>?_;refine J.qp (a3i q N7 G7.ok 1 0 0) [2] λ_=>?_;rw[show N7.readE 1 0 0=0 from by kernel_rfl,show N7.readV 1 0 0=Nand.fillP 1 (pgB 5 6)from by kernel_rfl];refine J.q λbf=>?_;refine J.cb (b7r (bf (0+1))) [8] ?_;rintro v As ⟨p,a,c,rfl,rfl⟩;refine⟨_,rfl,trivial,?_⟩;refine J.know (λh' s=>g7 (c:=(a,c)) (by decide) (s.get (i:=9) rfl)) λhg=>?_;obtain⟨g,rfl⟩:=hg;refine J.qp (b2O) [] λ_=>?_;refine J.qp (a7h) [] λ_=>?_;refine J.qp (a3k q N7) [2] λ_=>?_;rw[show N7.broken=1 from by kernel_rfl];refine J.q λ_=>?_;refine J.v (.bool true) rfl rfl (λhg a w he hw=>(y7 (xs:=u9 (pgB 7 0)) (ys:=u9 (pgB 7 0)) rfl rfl rfl he hg rfl a3t (a1y _) (a1y _) b4R b7D).trans (by rw[b6K _ _ rfl rfl];simp)) ?_;refine J.qp (a4G q N7) [2] λ_=>?_;rw[show N7.ops=3 from by kernel_rfl];refine J.qp (a8j q N7 G7.ok 1 0) [2] λ_=>?_;rw[show N7.wornAt 1 0=1 from by kernel_rfl];refine J.qp (b2v q N7 G7.ok 1 0) [2] λ_=>?_;rw[show N7.next 1 0=1 from by kernel_rfl];refine J.qp (b6j p (some ⟨g,0,none⟩) 1 c) [8] λ_=>?_;refine J.qp (b7q p g c q N7 G7.ok (by kernel_rfl)) [8,9,2] λ_=>?_;refine J.qp (a3j q N8 G8.ok 2) [2] λ_=>?_;rw[show N8.deadAt 2=true from by kernel_rfl];refine J.q λ_=>?_;refine J.effG hX tk rfl rfl rfl (λ_=>rfl) (by(repeat' (first | exact Conj.nil | refine Conj.cons ?_ ?_ | omega | exact hq0 | (simpa using hq0) | (exactλh=>h) | exact rfl | (intro hq;have hq0:=hq;try simp only[Bool.and_eq_true,Bool.or_eq_true,decide_eq_true_eq,Bool.not_eq_true',decide_eq_false_iff_not]at hq) | (simp;done) | (simp;omega) | decide))) (λ_=>rfl) λbg=>⟨trivial,?_⟩;refine J.qp (b6k bg) [10] λ_=>?_;exact J.qx []
theorem a7g:FP 277 [] [] (Ps (.bool true) []):=by
 refine FE [] Tryz.func277 λX F hX=>?_;refine J.qp (b2K) [] λ_=>?_;exact J.qx []
end Go.Proofs.YtnffkcabeecopaaGreat
