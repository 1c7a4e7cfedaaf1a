/- Helpers, proved here. No condition. -/
import Derived.Test.YtkdlnfdjjifedaaGreatD06
import Derived.Test.YtkdlnfdjjifedaaGreatD10
import Derived.Test.YtkdlnfdjjifedaaGreatD16
import Derived.Test.YtkdlnfdjjifedaaGreatD17
import Derived.Test.YtkdlnfdjjifedaaGreatD18
import Derived.Test.YtkdlnfdjjifedaaGreatD20
set_option maxRecDepth 20000
set_option linter.all false
namespace Go.Proofs.YtkdlnfdjjifedaaGreat
open Go Go.RowKit
theorem rd_slot {T:Tb} (h:∀x∈T.at_,0<=x.2.slot/\x.2.slot<=1000) (i:Int):0<=((Tb.look T.at_ i).getD AtV.zero).slot/\((Tb.look T.at_ i).getD AtV.zero).slot<=1000:=by
 cases hl:Tb.look T.at_ i with
 | none=>show(0:Int)<=0/\(0:Int)<=1000;omega
 | some a=>exact h _ (Tb.look_mem hl)
theorem sw_read (n l:Nat) (S:Dv) (k mm:Nat) (hO:S.Ok k mm) (i:Int):Fn Tryz.prog 192 [.pointer (some ⟨n,0,none⟩), .pointer (some ⟨l,0,none⟩), .int .i64 i] [NandA n S.N,TbA l S.T]
  (λv As=>v= .tuple #[enV (S.rd i).1, .int .i64 (S.rd i).2]/\As=[NandA n S.N,TbA l S.T]):=by
 have hsl:=rd_slot hO.sl i;refine Fn.enter [2,3,0] Tryz.func192 rfl rfl rfl λX F hX=>?_;refine J.q hX λ_=>?_;refine J.cb hX (tb_Get l S.T i) [2] ?_;refine cpq ⟨_,rfl,trivial,?_⟩;have hrd:S.rd i=(let a:=(Tb.look S.T.at_ i).getD AtV.zero;let x:=R.read S.N a.block a.row a.slot a.mask;if x.2=9 then(En.zero,9)else if x.2≠0\/x.1.lpn≠i\/x.1.seq≠a.seq then(⟨i,0,4,zeros16⟩,0)else(x.1,0)):=rfl;generalize(Tb.look S.T.at_ i).getD AtV.zero=a at hsl hrd ⊢;generalize(Tb.look S.T.at_ i).isSome=is;refine J.q hX λ_=>?_;refine J.cb hX (r_Read n S.N hO.gd.ok hO.gd.room a.block a.row a.slot a.mask (by omega) (by omega)) [1] ?_;refine cpq ⟨_,rfl,trivial,?_⟩;dsimp only at hrd;generalize R.read S.N a.block a.row a.slot a.mask=r at hrd ⊢;obtain⟨e,x⟩:=r;dsimp only at hrd ⊢;refine J.q hX λ_=>?_;refine J.cond rfl (λh1=>?_) (λh1=>?_)
 ·simp only[beq_iff_eq]at h1;rw[if_pos h1]at hrd;refine J.q hX λ_=>?_;refine J.ru hX [1,2] ?_;rw[hrd,h1];exact⟨rfl,rfl⟩
 simp only[beq_eq_false_iff_ne,ne_eq]at h1;rw[if_neg h1]at hrd;refine J.qn hX 4 λ_=>?_;cases hx:(x !=0)with
 | true=>
  have hx':x≠0:=by simpa using hx
  rw[if_pos (.inl hx')]at hrd;refine J.q hX λ_=>?_;refine J.cT ?_;refine J.q hX λ_=>?_;refine J.ru hX [1,2] ?_;rw[hrd];exact⟨rfl,rfl⟩
 | false=>
  have hx':x=0:=by simpa using hx
  refine J.qn hX 5 λ_=>?_;cases hy:(e.lpn !=i)with
  | true=>
   have hy':e.lpn≠i:=by simpa using hy
   rw[if_pos (.inr (.inl hy'))]at hrd;refine J.q hX λ_=>?_;refine J.cT ?_;refine J.q hX λ_=>?_;refine J.ru hX [1,2] ?_;rw[hrd];exact⟨rfl,rfl⟩
  | false=>
   have hy':e.lpn=i:=by simpa using hy
   refine J.q hX λ_=>?_;refine J.cond rfl (λh2=>?_) (λh2=>?_)
   ·have hz:e.seq≠a.seq:=by simpa using h2
    rw[if_pos (.inr (.inr hz))]at hrd;refine J.q hX λ_=>?_;refine J.ru hX [1,2] ?_;rw[hrd];exact⟨rfl,rfl⟩
   ·have hz:e.seq=a.seq:=by simpa using h2
    rw[if_neg (by rw[hx',hy',hz];simp)]at hrd;refine J.q hX λ_=>?_;refine J.ru hX [1,2] ?_;rw[hrd];exact⟨rfl,rfl⟩
theorem slv_oad (a:Option Nat) (n c:Nat):slv a n c= .slice (oad a) n c:=by cases a<;>rfl
theorem rds_step (S:Dv) {C:List Int} {E:List En} {i:Nat} {x:Int} (h:S.rds C=(E++(S.rds (C.drop i)).1,(S.rds (C.drop i)).2)) (hx:C[i]? =some x):((S.rd x).2≠0->(S.rds C).2=(S.rd x).2)/\((S.rd x).2=0->S.rds C=((E++[(S.rd x).1])++(S.rds (C.drop (i+1))).1,(S.rds (C.drop (i+1))).2)):=by
 obtain⟨h1,h2⟩:=List.getElem?_eq_some_iff.1 hx;have hd:C.drop i=x::C.drop (i+1):=by rw[List.drop_eq_getElem_cons h1,h2]
 rw[hd]at h;rw[h];refine⟨λh0=>?_,λh0=>?_⟩
 ·rw[Dv.rds,if_pos h0]
 ·rw[Dv.rds,if_neg (by simp[h0])];simp
theorem write_bd:∀(f:Nat) (S:Dv) (l:List En),0<=(Dv.write f S l).2.1/\(Dv.write f S l).2.1<=7
 | 0,S,l=>by show(0:Int)<=0/\(0:Int)<=7;omega
 | f+1,S,l=>by
  rw[Dv.write_succ];have hf:=Dv.fit_le S.at1 l;split
  ·show(0:Int)<=0/\(0:Int)<=7;omega
  split
  ·show(0:Int)<=0/\(0:Int)<=7;omega
  split
  ·show(0:Int)<=0/\(0:Int)<=7;omega
  split
  ·show(0:Int)<=0/\(0:Int)<=7;omega
  split
  ·show(0:Int)<=(S.at1.fit l:Int)/\(S.at1.fit l:Int)<=7;omega
  split
  ·show(0:Int)<=0/\(0:Int)<=7;omega
  ·exact write_bd f _ l
set_option maxHeartbeats 1000000 in
theorem sw_Carry (n t l p:Nat) (S:Dv) (k mm:Nat) (hO:S.Ok (Dv.costC+k) mm) (b most:Int):Fn Tryz.prog 132 [.pointer (some ⟨n,0,none⟩), .pointer (some ⟨l,0,none⟩), .pointer (some ⟨p,0,none⟩), .int .i64 b, .int .i64 most] (DvP p n t l S)
  (λv As=>v= .tuple #[.int .i64 (S.carry b most).2.1, .int .i64 (S.carry b most).2.2]/\As=DvP p n t l (S.carry b most).1):=by
 have hlog:=hO.T.log;have hins:=Dv.ins_le hO b;obtain⟨L,hL⟩:∃L,L=S.T.ins b:=⟨_,rfl⟩;obtain⟨u,hu⟩:∃u:Nat,u=min (max most 0).toNat L.length:=⟨_,rfl⟩;refine Fn.enter [3,5,2,0,0] Tryz.func132 rfl rfl rfl λX F hX=>?_;refine J.q hX λ_=>?_;refine J.cF ?_;refine J.q hX λ_=>?_;refine J.cb hX (tb_In l S.T S.T.logical.toNat (by omega) (by omega) b) [4] ?_;rintro v As ⟨a,c,rfl,rfl⟩;refine⟨_,rfl,trivial,?_⟩;rw[<- hL];refine J.know (λh' s=>ownP_cap (show ownP _ _ a L.length c _ _ from s.get (i:=5) rfl)) λhcap=>?_;rw[<- hL]at hins;have hmin:(if(L.length:Int)<(if(0:Int)>most then 0 else most)then(L.length:Int)else(if(0:Int)>most then 0 else most))=(u:Int):=by rw[max0,min2,hu];omega
 have hul:u<=L.length:=by omega
 refine J.qn hX 10 λ_=>?_;rw[hmin,slv_oad];refine J.val hX (.slice (oad a) u c) 0 rfl rfl (λhg aa w he hw=>cutH_run tk rfl rfl rfl he rfl rfl rfl rfl (by omega)) rfl trivial ?_;refine J.q hX λ_=>?_;have hcar:S.carry b most=Dv.carryGo (L.take u).length S (L.take u) 0:=by
  unfold Dv.carry;rw[<- hL];have:L.take (max most 0).toNat=L.take u:=by
   rw[hu]
   by_cases hle:(max most 0).toNat<=L.length
   ·rw[Nat.min_eq_left hle]
   ·rw[Nat.min_eq_right (by omega),List.take_of_length_le (by omega),List.take_of_length_le (Nat.le_refl _)]
  rw[this]
 have htl:(L.take u).length=u:=by rw[List.length_take];omega
 rw[htl]at hcar;refine J.q hX λ_=>?_;refine J.lo (α:=(Nat×Nat×Dv)) (λz=>z.1<=u/\u-z.1<=z.2.1/\z.2.2.Ok (Dv.cost*z.2.1+k) mm/\Dv.carryGo z.2.1 z.2.2 ((L.take u).drop z.1) z.1=S.carry b most) (λz=>[⟨13, .int .i64 z.1,0, .tt⟩,⟨12, .slice (oad a) u c,0, .tt⟩,⟨0, .pointer (some ⟨n,0,none⟩),3, .tt⟩,⟨1, .pointer (some ⟨l,0,none⟩),5, .tt⟩,⟨2, .pointer (some ⟨p,0,none⟩),2, .tt⟩]) [1,2,3,4] (λz=>DvP p n t l z.2.2) (λz=>u-z.1) ((0,u,S)) (⟨Nat.zero_le _,by dsimp only;omega,hO.less (by have:Dv.cost*u<=Dv.costC:=Nat.mul_le_mul_left _ (by omega);dsimp only;omega),hcar.symm⟩) rfl ?_ (λ_=>rfl) λz hI=>?_
 ·rfl
 obtain⟨d,j,Q⟩:=z;dsimp only at hI ⊢;obtain⟨hd,hj,hQ,hw⟩:=hI;refine J.q hX λ_=>?_;refine J.cond rfl (λh1=>?_) (λh1=>?_)
 ·simp only[decide_eq_true_eq,Int.ofNat_lt]at h1;obtain⟨j,rfl⟩:∃i,j=i+1:=⟨j-1,by omega⟩;have hQ1:Q.Ok (8*Dv.fuel+(Dv.cost*j+k)) mm:=hQ.less (by rw[Nat.mul_succ];unfold Dv.cost;omega);have hbd:=hQ.gd.ok.bd16;have hlb:=hQ.t.len;have hbb:Q.t.b<=1000:=by have:=hQ.t.b;omega
  rw[Dv.carryGo,if_neg (by rw[List.length_drop,htl];omega)]at hw;dsimp only at hw;obtain⟨s,hs⟩:∃s:Nat,s=(max Q.slots 1).toNat:=⟨_,rfl⟩;rw[<- hs]at hw;refine J.know (λh' s=>own_some (c:=(a,c)) (by omega) (s.get (i:=5) rfl)) λhg=>?_;obtain⟨ga,rfl⟩:=hg;refine J.q hX λ_=>?_;refine J.cb hX (pn_Slots p n t l Q hbb hlb) [1,2,3,4] ?_;refine cpq ⟨_,rfl,trivial,?_⟩;have hsb:0<=Q.slots/\Q.slots<=7:=by
   unfold Dv.slots;split
   ·exact Dv.slots_le _
   ·exact Dv.slots_le _
  have hs1:1<=s/\s<=7:=by omega
  have h51:(if(1:Int)>Q.slots then 1 else Q.slots)=(s:Int):=by rw[hs];split<;>omega
  obtain⟨e,he⟩:∃e:Nat,e=min (d+s) u:=⟨_,rfl⟩;refine J.qn hX 4 λ_=>?_;rw[h51];have h54:(if(u:Int)<(d:Int)+(s:Int)then(u:Int)else(d:Int)+(s:Int))=(e:Int):=by rw[he];split<;>omega
  refine J.qn hX 4 λ_=>?_;rw[h54];refine J.q hX λ_=>?_;have h55:((e:Int).toNat-(d:Int).toNat)=e-d:=by omega
  obtain⟨w,hw0⟩:∃w,e=d+w:=⟨e-d,by omega⟩;have hw1:e-d=w:=by omega
  rw[h55,hw1,show 0+(d:Int).toNat*1=d from by omega,show c-(d:Int).toNat=c-d from by omega];obtain⟨C,hC⟩:∃C,C=((L.take u).drop d).take s:=⟨_,rfl⟩;have hCl:C.length=w:=by rw[hC,List.length_take,List.length_drop,htl];omega
  have hCg:∀i,i<w->∃x,C[i]? =some x/\(cellsI L)[d+i]? =some (.int .i64 x):=λi hi=>by
   have hx:d+i<L.length:=by omega
   refine⟨L[d+i],?_,?_⟩
   ·rw[hC,List.getElem?_take,if_pos (by omega),List.getElem?_drop,List.getElem?_take,if_pos (by omega),List.getElem?_eq_getElem hx]
   ·rw[cellsI,List.getElem?_map,List.getElem?_eq_getElem hx];rfl
  rw[<- hC]at hw;refine J.turn1 [] rfl (As:=[ownA 133 19 none 0 0 (cellsE [])]) (λh s=>Sep.one ⟨rfl,rfl,rfl⟩) rfl ?_;refine J.q hX λ_=>?_;refine J.lo (α:=(Nat×List En×Option Nat×Nat)) (λz=>z.1<=w/\z.2.1.length=z.1/\(∀x∈z.2.1,x.data.length=16)/\Q.rds C=(z.2.1++(Q.rds (C.drop z.1)).1,(Q.rds (C.drop z.1)).2)) (λz=>[⟨57, .int .i64 z.1,0, .tt⟩,⟨56, .int .i64 w,0, .tt⟩,⟨55, .slice (some ⟨ga,d,none⟩) w (c-d),0, .tt⟩,⟨14,slv z.2.2.1 z.2.1.length z.2.2.2,0, .tt⟩,⟨13, .int .i64 d,0, .tt⟩,⟨12, .slice (oad (some ga)) u c,0, .tt⟩,⟨0, .pointer (some ⟨n,0,none⟩),3, .tt⟩,⟨1, .pointer (some ⟨l,0,none⟩),5, .tt⟩,⟨2, .pointer (some ⟨p,0,none⟩),2, .tt⟩]) [6] (λz=>[ownA 133 19 z.2.2.1 z.2.1.length z.2.2.2 (cellsE z.2.1)]) (λz=>w-z.1) ((0,[],none,0)) (⟨Nat.zero_le _,rfl,by simp,by simp⟩) rfl ?_ (λ_=>rfl) λz hI=>?_
  ·rfl
  obtain⟨i,E,ea,ec⟩:=z;dsimp only at hI ⊢;obtain⟨hi,hE,hEd,hrd⟩:=hI;refine J.q hX λ_=>?_;refine J.cond rfl (λh2=>?_) (λh2=>?_)
  ·simp only[decide_eq_true_eq,Int.ofNat_lt]at h2;obtain⟨x,hx,hx2⟩:=hCg i h2;obtain⟨st1,st2⟩:=rds_step Q hrd hx;refine J.q hX λ_=>?_;refine J.val hX (.int .i64 x) 0 rfl rfl (λhg aa w he hw=>own1_run tk rfl rfl he rfl rfl rfl (hw.get (i:=5) rfl) (by rw[show d+(i:Int).toNat*1=d+i from by omega];exact hx2)) rfl trivial ?_;refine J.q hX λ_=>?_;refine J.cb hX (sw_read n l Q _ mm hQ1 x) [2,4] ?_;refine cpq ⟨_,rfl,trivial,?_⟩;have hrl:=Dv.rd_len hQ1 x;refine J.q hX λ_=>?_;refine J.cond rfl (λh3=>?_) (λh3=>?_)
   ·simp only[bne_iff_ne,ne_eq]at h3;have h4:=st1 h3;rw[if_pos (by rw[h4];exact h3)]at hw;refine J.q hX λ_=>?_;refine J.ru hX [1,2,3,4] ?_;rw[<- hw,h4];exact⟨rfl,rfl⟩
   simp only[bne_eq_false_iff_eq]at h3;have h4:=st2 h3;refine J.q hX λ_=>?_;refine J.append hX tk 6 8 0 rfl rfl rfl rfl rfl rfl rfl rfl rfl rfl rfl rfl rfl rfl rfl rfl ?_ ?_ (λ_=>rfl) λa3 c3=>⟨_,(congrArg (λz=>lset _ 6 (ownA _ _ _ _ _ z)) (cellsE_snoc E (Q.rd x).1)).trans rfl,trivial,?_⟩
   ·simp only[maxLen];omega
   ·omega
   rw[show E.length+1=(E++[(Q.rd x).1]).length from by simp];refine J.q hX λ_=>?_;refine J.nS ((i+1,E++[(Q.rd x).1],a3,c3)) (⟨by dsimp only;omega,by simp[hE],λy hy=>(List.mem_append.1 hy).elim (hEd y) (λhy=>by rw[List.mem_singleton.1 hy];exact hrl),h4⟩) (by dsimp only;omega) [0,1,2,3,4,5,6] rfl rfl
  simp only[decide_eq_false_iff_not,Int.ofNat_lt]at h2;have hie:i=w:=by omega
  have hrd2:Q.rds C=(E,0):=by
   rw[hrd,List.drop_of_length_le (by omega),Dv.rds];simp
  rw[hrd2,if_neg (by simp)]at hw;dsimp only at hw;have htook:=λh0=>Dv.pen_took hQ1 hEd h0 (by omega);have hkeep:=Dv.pen_keep hQ1 hEd;refine J.q hX λ_=>?_;rw[slv_oad];refine J.q hX λ_=>?_;refine J.ca hX (by kernel_rfl) (pn_Write p n t l Q _ mm hQ1 (ownA 133 19 ea E.length ec (cellsE E)) (oad ea) E.length ec E (own_rd 133 19 ea E.length ec (cellsE E)) rfl (by omega) hEd) [1,2,3,4,6] 0 rfl rfl rfl rfl rfl rfl (λ_=>rfl) ?_;refine cpq ⟨_,rfl,trivial,?_⟩;have hpb:0<=(Q.pen E).2.1/\(Q.pen E).2.1<=7:=write_bd _ _ _;generalize Q.pen E=W at hw htook hkeep hpb ⊢;obtain⟨P,nn,er⟩:=W;dsimp only at hw htook hkeep hpb ⊢;refine J.q hX λ_=>?_;refine J.cond rfl (λh5=>?_) (λh5=>?_)
  ·simp only[bne_iff_ne,ne_eq]at h5;rw[if_pos h5]at hw;refine J.q hX λ_=>?_;refine J.ru hX [1,2,3,4] ?_;rw[<- hw];exact⟨rfl,rfl⟩
  ·simp only[bne_eq_false_iff_eq]at h5;rw[if_neg (by rw[h5];decide)]at hw;have htk:=htook h5;obtain⟨v,rfl⟩:=Int.eq_ofNat_of_zero_le hpb.1;have hEl:E.length=w:=by omega
   have hvw:v<=w:=by have:=htk.2.1;omega
   rw[List.drop_drop]at hw;refine J.q hX λ_=>?_;refine J.nS ((d+v,j,P)) (⟨by dsimp only;omega,by dsimp only;omega,hkeep.1,hw⟩) (by dsimp only;omega) [0,1,2,3,4,5] rfl rfl
 ·simp only[decide_eq_false_iff_not,Int.ofNat_lt]at h1;obtain rfl:d=u:=by omega
  have hz:(L.take d).drop d=[]:=List.drop_of_length_le (by omega);have hw2:S.carry b most=(Q,(d:Int),0):=by
   rw[<- hw,hz];cases j with
   | zero=>rfl
   | succ j=>rw[Dv.carryGo,if_pos List.length_nil]
  refine J.q hX λ_=>?_;refine J.ru hX [1,2,3,4] ?_;rw[hw2];exact⟨rfl,rfl⟩
theorem foldl_err (b m:Int):∀(q:List Nat) (x:Nand×Tl×Int),x.2.2≠0->q.foldl (Dv.eraseD b m) x=x
 | [],x,_=>rfl
 | d::q,x,h=>by
  have:Dv.eraseD b m x d=x:=by unfold Dv.eraseD;rw[if_pos h]
  rw[List.foldl_cons,this];exact foldl_err b m q x h
theorem range_split (f:Nand×Tl×Int->Nat->Nand×Tl×Int) (x:Nand×Tl×Int) {j n:Nat} (h:j<=n):(List.range n).foldl f x=((List.range n).drop j).foldl f ((List.range j).foldl f x):=by
 conv=>lhs;rw[<- List.take_append_drop j (List.range n)]
 rw[List.foldl_append];congr 2;rw[List.take_range,Nat.min_eq_left h]
theorem sw_erase (n t:Nat) (N:Nand) (tl:Tl) (k mm:Nat) (hG:N.Gd (6+k) mm) (hmm:mm<=12) (hF:tl.Fit N) (b:Int):Fn Tryz.prog 126 [.pointer (some ⟨n,0,none⟩), .pointer (some ⟨t,0,none⟩), .int .i64 b] [NandA n N,TlA t tl]
  (λv As=>v= .int .i64 (Dv.erase N tl b).2.2/\As=[NandA n (Dv.erase N tl b).1,TlA t (Dv.erase N tl b).2.1]):=by
 have hbd:=hG.ok.bd16;have hb0:=hF.b;refine Fn.enter [2,3,0] Tryz.func126 rfl rfl rfl λX F hX=>?_;refine J.q hX λ_=>?_;refine J.cb hX (tl_Mask t tl (by omega) hF.len b) [2] ?_;refine cpq ⟨_,rfl,trivial,?_⟩;refine J.q hX λ_=>?_;refine J.cb hX (n_Geo n N) [1] ?_;refine cpq ⟨_,rfl,trivial,?_⟩;obtain⟨m,hm⟩:∃m,m=tl.mask b:=⟨_,rfl⟩;rw[<- hm];refine J.q hX λ_=>?_;refine J.lo (α:=(Nat×Nand×Tl)) (λz=>z.1<=N.dies/\(List.range z.1).foldl (Dv.eraseD b m) (N,tl,0)=(z.2.1,z.2.2,0)/\z.2.1.Gd (6-z.1+k) mm/\z.2.2.Fit z.2.1/\N.Like z.2.1) (λz=>[⟨16, .int .i64 z.1,0, .tt⟩,⟨15, .int .i64 N.dies,0, .tt⟩,⟨7, .int .i64 m,0, .tt⟩,⟨0, .pointer (some ⟨n,0,none⟩),2, .tt⟩,⟨1, .pointer (some ⟨t,0,none⟩),3, .tt⟩,⟨2, .int .i64 b,0, .tt⟩]) [1,2] (λz=>[NandA n z.2.1,TlA t z.2.2]) (λz=>N.dies-z.1) ((0,N,tl)) (⟨Nat.zero_le _,rfl,hG,hF,Nand.Like.refl _⟩) rfl ?_ (λ_=>rfl) λz hI=>?_
 ·rfl
 obtain⟨d,P,T⟩:=z;dsimp only at hI ⊢;obtain⟨hd,hfo,hP,hT,hlk⟩:=hI;have hTb:T.b<=1000:=by have:=hT.b;have:=hlk.blocks;omega
 refine J.q hX λ_=>?_;refine J.cond rfl (λh1=>?_) (λh1=>?_)
 ·simp only[decide_eq_true_eq,Int.ofNat_lt]at h1;have hsucc:(List.range (d+1)).foldl (Dv.eraseD b m) (N,tl,0)=Dv.eraseD b m (P,T,0) d:=by rw[List.range_succ,List.foldl_append,hfo];rfl
  have hP1:P.Gd (1+(6-(d+1)+k)) mm:=hP.less (by omega) (Nat.le_refl _);have hk:=Dv.eraseD_keep (k:=6-(d+1)+k) (m:=mm) b m (P,T,0) d hP1 hT;refine J.q hX λ_=>?_;refine J.cb hX (l_Has m d) [] ?_;refine cpq ⟨_,rfl,trivial,?_⟩;refine J.q hX λ_=>?_;refine J.cond rfl (λh2=>?_) (λh2=>?_)
  ·simp only[Bool.not_eq_true']at h2;have hz:Dv.eraseD b m (P,T,0) d=(P,T,0):=by unfold Dv.eraseD;rw[if_neg (by simp),if_pos h2]
   refine J.q hX λ_=>?_;refine J.nS ((d+1,P,T)) (⟨by dsimp only;omega,hsucc.trans hz,hP.less (by dsimp only;omega) (Nat.le_refl _),hT,hlk⟩) (by dsimp only;omega) [0,1,2] rfl rfl
  simp only[Bool.not_eq_false']at h2;have hz:Dv.eraseD b m (P,T,0) d=(P.eraseN d b,if P.eraseE d b=0 then T else if P.eraseE d b=9 then T else if P.eraseE d b=8 then T.die d else T.bad d b,if P.eraseE d b=9 then 9 else 0):=by
   unfold Dv.eraseD;rw[if_neg (by simp),if_neg (by rw[h2];decide)]
  rw[hz]at hsucc hk;refine J.q hX λ_=>?_;refine J.cb hX (n_Erase n P hP.ok hP1.room hP.nodup (by have:=hP.few;omega) d b) [1] ?_;refine cpq ⟨_,rfl,trivial,?_⟩;generalize P.eraseE d b=e at hsucc hk;refine J.q hX λ_=>?_;refine J.cond rfl (λh3=>?_) (λh3=>?_)
  ·simp only[beq_iff_eq]at h3;rw[if_pos h3,if_neg (by omega)]at hsucc;rw[if_pos h3]at hk;refine J.q hX λ_=>?_;refine J.nS ((d+1,P.eraseN d b,T)) (⟨by dsimp only;omega,hsucc,hk.1,hT.like hk.2.2,hlk.trans hk.2.2⟩) (by dsimp only;omega) [0,1,2] rfl rfl
  simp only[beq_eq_false_iff_ne,ne_eq]at h3;rw[if_neg h3]at hsucc hk;refine J.q hX λ_=>?_;refine J.cond rfl (λh4=>?_) (λh4=>?_)
  ·simp only[beq_iff_eq]at h4;rw[if_pos h4,if_pos h4]at hsucc;have hall:Dv.eraseB N tl b=(P.eraseN d b,T,9):=by
    unfold Dv.eraseB;rw[<- hm,range_split _ _ (show d+1<=N.dies by omega),hsucc];exact foldl_err b m _ _ (by simp)
   refine J.q hX λ_=>?_;refine J.ru hX [1,2] ?_;unfold Dv.erase;rw[hall];exact⟨rfl,rfl⟩
  simp only[beq_eq_false_iff_ne,ne_eq]at h4;rw[if_neg h4,if_neg h4]at hsucc;rw[if_neg h4]at hk;refine J.q hX λ_=>?_;refine J.cond rfl (λh5=>?_) (λh5=>?_)
  ·simp only[beq_iff_eq]at h5;rw[if_pos h5]at hsucc hk;refine J.q hX λ_=>?_;refine J.cb hX (tl_Dead t T d) [2] ?_;refine cpq ⟨_,rfl,trivial,?_⟩;refine J.q hX λ_=>?_;refine J.nS ((d+1,P.eraseN d b,T.die d)) (⟨by dsimp only;omega,hsucc,hk.1,(hT.die d).like hk.2.2,hlk.trans hk.2.2⟩) (by dsimp only;omega) [0,1,2] rfl rfl
  simp only[beq_eq_false_iff_ne,ne_eq]at h5;rw[if_neg h5]at hsucc hk;refine J.q hX λ_=>?_;refine J.cb hX (tl_Bad t T hTb hT.len d b) [2] ?_;refine cpq ⟨_,rfl,trivial,?_⟩;refine J.q hX λ_=>?_;refine J.nS ((d+1,P.eraseN d b,T.bad d b)) (⟨by dsimp only;omega,hsucc,hk.1,(hT.bad d b).like hk.2.2,hlk.trans hk.2.2⟩) (by dsimp only;omega) [0,1,2] rfl rfl
 simp only[decide_eq_false_iff_not,Int.ofNat_lt]at h1;obtain rfl:d=N.dies:=by omega
 have hall:Dv.eraseB N tl b=(P,T,0):=by unfold Dv.eraseB;rw[<- hm];exact hfo
 have hres:Dv.erase N tl b=(P,Dv.eraseT P T b,0):=by unfold Dv.erase;rw[hall];rfl
 refine J.q hX λ_=>?_;refine J.cb hX (n_Geo n P) [1] ?_;refine cpq ⟨_,rfl,trivial,?_⟩;refine J.q hX λ_=>?_;refine J.lo (α:=(Nat×Tl)) (λz=>z.1<=P.dies/\(List.range z.1).foldl (λt (d:Nat)=>t.wore b (P.wornAt d b)) T=z.2/\z.2.Fit P) (λz=>[⟨44, .int .i64 z.1,0, .tt⟩,⟨43, .int .i64 P.dies,0, .tt⟩,⟨0, .pointer (some ⟨n,0,none⟩),2, .tt⟩,⟨1, .pointer (some ⟨t,0,none⟩),3, .tt⟩,⟨2, .int .i64 b,0, .tt⟩]) [2] (λz=>[TlA t z.2]) (λz=>P.dies-z.1) ((0,T)) (⟨Nat.zero_le _,rfl,hT⟩) rfl ?_ (λ_=>rfl) λz hI=>?_
 ·rfl
 clear hfo hT hTb hall;obtain⟨d,U⟩:=z;dsimp only at hI ⊢;obtain⟨hd2,hfo,hU⟩:=hI;have hUb:U.b<=1000:=by have:=hU.b;have:=hlk.blocks;omega
 have hPd:P.dies<=6:=by have:=hlk.dies;omega
 refine J.q hX λ_=>?_;refine J.cond rfl (λh1=>?_) (λh1=>?_)
 ·simp only[decide_eq_true_eq,Int.ofNat_lt]at h1;refine J.q hX λ_=>?_;refine J.cb hX (n_Worn n P hP.ok d b) [1] ?_;refine cpq ⟨_,rfl,trivial,?_⟩;refine J.q hX λ_=>?_;refine J.cb hX (tl_Wore t U hUb hU.len b (P.wornAt d b)) [2] ?_;refine cpq ⟨_,rfl,trivial,?_⟩;refine J.q hX λ_=>?_;refine J.nS ((d+1,U.wore b (P.wornAt d b))) (⟨by dsimp only;omega,by dsimp only;rw[List.range_succ,List.foldl_append,hfo];rfl,hU.wore _ _⟩) (by dsimp only;omega) [0,1,2] rfl rfl
 simp only[decide_eq_false_iff_not,Int.ofNat_lt]at h1;obtain rfl:d=P.dies:=by omega
 have hU2:U=Dv.wores P T b:=hfo.symm;refine J.q hX λ_=>?_;refine J.cb hX (tl_Usable t U hUb hU.len b) [2] ?_;refine cpq ⟨_,rfl,trivial,?_⟩;refine J.q hX λ_=>?_;refine J.cond rfl (λh2=>?_) (λh2=>?_)
 ·refine J.q hX λ_=>?_;refine J.cb hX (tl_Clean t U hUb hU.len b true) [2] ?_;refine cpq ⟨_,rfl,trivial,?_⟩;refine J.q hX λ_=>?_;refine J.ru hX [1,2] ?_;rw[hres];unfold Dv.eraseT;rw[<- hU2,if_pos h2];exact⟨rfl,rfl⟩
 ·refine J.q hX λ_=>?_;refine J.ru hX [1,2] ?_;rw[hres];unfold Dv.eraseT;rw[<- hU2,if_neg (by rw[h2];decide)];exact⟨rfl,rfl⟩
theorem sw_Clear (n t l:Nat) (N:Nand) (tl:Tl) (T:Tb) (k mm:Nat) (hG:N.Gd (96+k) mm) (hmm:mm<=12) (hF:tl.Fit N) (o:Int):Fn Tryz.prog 82 [.pointer (some ⟨n,0,none⟩), .pointer (some ⟨t,0,none⟩), .pointer (some ⟨l,0,none⟩), .int .i64 o] [NandA n N,TlA t tl,TbA l T]
  (λv As=>v= .int .i64 (Dv.clearX N tl T o).2.2/\As=[NandA n (Dv.clearX N tl T o).1,TlA t (Dv.clearX N tl T o).2.1,TbA l T]):=by
 have hbd:=hG.ok.bd16;have hb0:=hF.b;have hlen:=pkSome_len (pkSpent tl T) o tl.b;refine Fn.enter [2,3,4,0] Tryz.func82 rfl rfl rfl λX F hX=>?_;refine J.q hX λ_=>?_;refine J.cF ?_;refine J.q hX λ_=>?_;refine J.cb hX (p_Spent t tl (by omega) hF.len l T o) [2,3] ?_;rintro v As ⟨a,c,rfl,rfl⟩;refine⟨_,rfl,trivial,?_⟩;obtain⟨L,hL⟩:∃L,L=pkSome (pkSpent tl T) o tl.b:=⟨_,rfl⟩;have hX2:Dv.clearX N tl T o=Dv.clearGo L N tl:=by unfold Dv.clearX;rw[hL]
 rw[<- hL]at hlen ⊢;refine J.q hX λ_=>?_;refine J.lo (α:=(Nat×Nand×Tl)) (λz=>z.1<=L.length/\Dv.clearGo (L.drop z.1) z.2.1 z.2.2=Dv.clearX N tl T o/\z.2.1.Gd (6*(L.length-z.1)+k) mm/\z.2.2.Fit z.2.1/\N.Like z.2.1) (λz=>[⟨27, .int .i64 z.1,0, .tt⟩,⟨26, .int .i64 L.length,0, .tt⟩,⟨25,slv a L.length c,0, .tt⟩,⟨0, .pointer (some ⟨n,0,none⟩),2, .tt⟩,⟨1, .pointer (some ⟨t,0,none⟩),3, .tt⟩]) [1,2] (λz=>[NandA n z.2.1,TlA t z.2.2]) (λz=>L.length-z.1) ((0,N,tl)) (⟨Nat.zero_le _,by rw[hX2];rfl,hG.less (by dsimp only;omega) (Nat.le_refl _),hF,Nand.Like.refl _⟩) rfl ?_ (λ_=>rfl) λz hI=>?_
 ·rfl
 obtain⟨i,P,U⟩:=z;dsimp only at hI ⊢;obtain⟨hi,hgo,hP,hU,hlk⟩:=hI;refine J.q hX λ_=>?_;refine J.cond rfl (λh1=>?_) (λh1=>?_)
 ·simp only[decide_eq_true_eq,Int.ofNat_lt]at h1;obtain⟨x,hx⟩:∃x,L[i]? =some x:=⟨_,List.getElem?_eq_getElem h1⟩;have hdr:L.drop i=x::L.drop (i+1):=by
   obtain⟨h2,h3⟩:=List.getElem?_eq_some_iff.1 hx;rw[List.drop_eq_getElem_cons h2,h3]
  rw[hdr,Dv.clearGo]at hgo;have hP1:P.Gd (6+(6*(L.length-(i+1))+k)) mm:=hP.less (by omega) (Nat.le_refl _);have hk:=Dv.erase_keep hP1 hU x;refine J.know (λh' s=>own_some (c:=(a,c)) (by omega) (s.get (i:=4) rfl)) λhg=>?_;obtain⟨g,rfl⟩:=hg;refine J.q hX λ_=>?_;refine J.val hX (.int .i64 x) 0 rfl rfl (λhg aa w he hw=>own1_run tk rfl rfl he rfl rfl rfl (hw.get (i:=4) rfl) (by rw[show 0+(i:Int).toNat*1=i from by omega,cellsI,List.getElem?_map,hx];rfl)) rfl trivial ?_;refine J.q hX λ_=>?_;refine J.cb hX (sw_erase n t P U _ mm hP1 hmm hU x) [1,2] ?_;refine cpq ⟨_,rfl,trivial,?_⟩;generalize Dv.erase P U x=W at hgo hk ⊢;obtain⟨P',U',er⟩:=W;dsimp only at hgo hk ⊢;refine J.q hX λ_=>?_;refine J.cond rfl (λh2=>?_) (λh2=>?_)
  ·simp only[bne_iff_ne,ne_eq]at h2;rw[if_pos h2]at hgo;refine J.q hX λ_=>?_;refine J.ru hX [1,2,3] ?_;rw[<- hgo];exact⟨rfl,rfl⟩
  ·simp only[bne_eq_false_iff_eq]at h2;rw[if_neg (by rw[h2];decide)]at hgo;refine J.q hX λ_=>?_;refine J.nS ((i+1,P',U')) (⟨by dsimp only;omega,hgo,hk.1,hk.2.1.like hk.2.2,hlk.trans hk.2.2⟩) (by dsimp only;omega) [0,1,2,3,4] rfl rfl
 ·simp only[decide_eq_false_iff_not,Int.ofNat_lt]at h1;rw[List.drop_of_length_le (by omega),Dv.clearGo]at hgo;refine J.q hX λ_=>?_;refine J.ru hX [1,2,3] ?_;rw[<- hgo];exact⟨rfl,rfl⟩
theorem sw_Room (n t l p:Nat) (S:Dv) (k mm:Nat) (hO:S.Ok (Dv.costM+k) mm) (hmm:mm<=12):Fn Tryz.prog 84 [.pointer (some ⟨n,0,none⟩), .pointer (some ⟨t,0,none⟩), .pointer (some ⟨l,0,none⟩), .pointer (some ⟨p,0,none⟩)] (DvP p n t l S)
  (λv As=>v= .int .i64 S.room.2/\As=DvP p n t l S.room.1):=by
 have hbd:=hO.gd.ok.bd16;have htb:=hO.t.b;have hC:=Dv.clear_keep (S:=S) (k:=Dv.costR*16+k) (m:=mm) (hO.less (by unfold Dv.costM;omega));refine Fn.enter [3,4,5,2] Tryz.func84 rfl rfl rfl λX F hX=>?_;refine J.q hX λ_=>?_;refine J.cF ?_;refine J.q hX λ_=>?_;refine J.cb hX (pn_Open p n t l S) [1] ?_;refine cpq ⟨_,rfl,trivial,?_⟩;refine J.q hX λ_=>?_;refine J.ca hX (by kernel_rfl) (sw_Clear n t l S.N S.t S.T (Dv.costR*16+k) mm (hO.gd.less (by unfold Dv.costM;omega) (Nat.le_refl _)) hmm hO.t S.op) [2,3,4] 0 rfl rfl rfl rfl rfl rfl (λ_=>rfl) ?_;refine cpq ⟨_,rfl,trivial,?_⟩;have hroom:S.room=if S.clear.2≠0 then S.clear else Dv.roomGo S.t.b S.clear.1:=rfl
 refine J.q hX λ_=>?_;refine J.cond rfl (λh1=>?_) (λh1=>?_)
 ·simp only[bne_iff_ne,ne_eq]at h1;have h1:S.clear.2≠0:=h1;rw[if_pos h1]at hroom;refine J.q hX λ_=>?_;refine J.ru hX [1,2,3,4] ?_;rw[hroom];exact⟨rfl,rfl⟩
 simp only[bne_eq_false_iff_eq]at h1;have h1:S.clear.2=0:=h1;rw[if_neg (by rw[h1];decide)]at hroom;have hB:S.clear.1.t.b=S.t.b:=by have:=hC.1.t.b;have:=hC.2.1.blocks;omega
 refine J.q hX λ_=>?_;refine J.cb hX (tl_Geo t S.clear.1.t) [3] ?_;refine cpq ⟨_,rfl,trivial,?_⟩;rw[hB];refine J.q hX λ_=>?_;refine J.lo (α:=(Nat×Dv)) (λz=>z.1<=S.t.b/\Dv.roomGo (S.t.b-z.1) z.2=S.room/\z.2.Ok (Dv.costR*(S.t.b-z.1)+k) mm) (λz=>[⟨40, .int .i64 z.1,0, .tt⟩,⟨39, .int .i64 S.t.b,0, .tt⟩,⟨0, .pointer (some ⟨n,0,none⟩),3, .tt⟩,⟨1, .pointer (some ⟨t,0,none⟩),4, .tt⟩,⟨2, .pointer (some ⟨l,0,none⟩),5, .tt⟩,⟨3, .pointer (some ⟨p,0,none⟩),2, .tt⟩]) [1,2,3,4] (λz=>DvP p n t l z.2) (λz=>S.t.b-z.1) ((0,S.clear.1)) (⟨Nat.zero_le _,hroom.symm,hC.1.less (by dsimp only;have:Dv.costR*(S.t.b-0)<=Dv.costR*16:=Nat.mul_le_mul_left _ (by omega);omega)⟩) rfl ?_ (λ_=>rfl) λz hI=>?_
 ·rfl
 obtain⟨i,Q⟩:=z;dsimp only at hI ⊢;obtain⟨hi,hgo,hQ⟩:=hI;have hQb:=hQ.gd.ok.bd16;have hQt:=hQ.t.b;have hQp:=hQ.t.p;have hlb:=hQ.t.len;refine J.q hX λ_=>?_;refine J.cond rfl (λh2=>?_) (λh2=>?_)
 ·simp only[decide_eq_true_eq,Int.ofNat_lt]at h2;obtain⟨j,hj⟩:∃j,S.t.b-i=j+1:=⟨S.t.b-i-1,by omega⟩;have hj1:S.t.b-(i+1)=j:=by omega
  rw[hj,Dv.roomGo]at hgo;rw[hj]at hQ;refine J.q hX λ_=>?_;refine J.cb hX (pn_Open p n t l Q) [1] ?_;refine cpq ⟨_,rfl,trivial,?_⟩;refine J.q hX λ_=>?_;refine J.cb hX (p_Free t Q.t (by omega) hlb l Q.T Q.op) [3,4] ?_;refine cpq ⟨_,rfl,trivial,?_⟩;refine J.q hX λ_=>?_;refine J.cond rfl (λh3=>?_) (λh3=>?_)
  ·simp only[decide_eq_true_eq]at h3;have h3:(Q.free:Int)>4:=h3;rw[if_pos h3]at hgo;refine J.q hX λ_=>?_;refine J.ru hX [1,2,3,4] ?_;rw[<- hgo];exact⟨rfl,rfl⟩
  simp only[decide_eq_false_iff_not]at h3;have h3:¬(Q.free:Int)>4:=h3;rw[if_neg h3]at hgo;refine J.q hX λ_=>?_;refine J.cb hX (pn_Open p n t l Q) [1] ?_;refine cpq ⟨_,rfl,trivial,?_⟩;refine J.q hX λ_=>?_;refine J.cb hX (p_Victim t Q.t (by omega) hlb l Q.T Q.op) [3,4] ?_;refine cpq ⟨_,rfl,trivial,?_⟩;rw[show pkLeast (λx y=>orI [cmpI (Q.T.count x) (Q.T.count y),cmpI (Q.t.wear x) (Q.t.wear y)]) (pkSome (pkUsed Q.t Q.T) Q.op Q.t.b)=Q.victim from rfl];obtain⟨vv,hvv⟩:∃v,v=Q.victim:=⟨_,rfl⟩;rw[<- hvv]at hgo ⊢;refine J.qn hX 7 λ_=>?_;cases h4:decide (vv<0)with
  | true=>
   have h4':vv<0:=by simpa using h4
   rw[if_pos (.inl h4')]at hgo;refine J.q hX λ_=>?_;refine J.val hX (.int .i64 0) 0 rfl rfl (λhg a w he hs=>absurd hg (by simp[G.on])) rfl trivial ?_;refine J.q hX λ_=>?_;refine J.val hX (.agg #[.int .i64 0, .int .i64 0, .int .i64 0]) 0 rfl rfl (λhg a w he hs=>absurd hg (by simp[G.on])) rfl trivial ?_;refine J.q hX λ_=>?_;refine J.val hX (.int .i64 0) 0 rfl rfl (λhg a w he hs=>absurd hg (by simp[G.on])) rfl trivial ?_;refine J.q hX λ_=>?_;refine J.val hX (.int .i64 0) 0 rfl rfl (λhg a w he hs=>absurd hg (by simp[G.on])) rfl trivial ?_;refine J.q hX λ_=>?_;refine J.cT ?_;refine J.q hX λ_=>?_;refine J.ru hX [1,2,3,4] ?_;rw[<- hgo];exact⟨rfl,rfl⟩
  | false=>
   have h4':¬vv<0:=by simpa using h4
   have hsb:=Dv.slots_le (Q.t.mask vv);have hmul:0<=(Q.t.p:Int)*G.slots (Q.t.mask vv)/\(Q.t.p:Int)*G.slots (Q.t.mask vv)<=8*7:=⟨Int.mul_nonneg (by omega) hsb.1,Int.mul_le_mul (by omega) hsb.2 hsb.1 (by omega)⟩;refine J.q hX λ_=>?_;refine J.cb hX (tb_Count l Q.T vv) [4] ?_;refine cpq ⟨_,rfl,trivial,?_⟩;refine J.q hX λ_=>?_;refine J.cb hX (tl_Geo t Q.t) [3] ?_;refine cpq ⟨_,rfl,trivial,?_⟩;refine J.q hX λ_=>?_;refine J.cb hX (tl_Mask t Q.t (by omega) hlb vv) [3] ?_;refine cpq ⟨_,rfl,trivial,?_⟩;refine J.q hX λ_=>?_;refine J.cb hX (g_Slots (Q.t.mask vv)) [] ?_;refine cpq ⟨_,rfl,trivial,?_⟩;refine J.q hX λ_=>?_;refine J.cond rfl (λh5=>?_) (λh5=>?_)
   ·have h5':Q.T.count vv>=Q.t.p*G.slots (Q.t.mask vv):=by simpa using h5
    rw[if_pos (.inr h5')]at hgo;refine J.q hX λ_=>?_;refine J.ru hX [1,2,3,4] ?_;rw[<- hgo];exact⟨rfl,rfl⟩
   have h5':¬Q.T.count vv>=Q.t.p*G.slots (Q.t.mask vv):=by simpa using h5
   rw[if_neg (by rintro(e | e)<;>contradiction)]at hgo;dsimp only at hgo;have hQ1:Q.Ok (Dv.costC+(96+(Dv.costR*j+k))) mm:=hQ.less (by unfold Dv.costR;rw[Nat.mul_succ];omega);have hc:=Dv.carry_keep hQ1 vv (Q.T.count vv);refine J.q hX λ_=>?_;refine J.cb hX (tb_Count l Q.T vv) [4] ?_;refine cpq ⟨_,rfl,trivial,?_⟩;refine J.q hX λ_=>?_;refine J.cb hX (sw_Carry n t l p Q _ mm hQ1 vv (Q.T.count vv)) [1,2,3,4] ?_;refine cpq ⟨_,rfl,trivial,?_⟩;generalize Q.carry vv (Q.T.count vv)=W at hgo hc ⊢;obtain⟨P,cn,er⟩:=W;dsimp only at hgo hc ⊢;refine J.q hX λ_=>?_;refine J.cond rfl (λh6=>?_) (λh6=>?_)
   ·simp only[bne_iff_ne,ne_eq]at h6;rw[if_pos h6]at hgo;refine J.q hX λ_=>?_;refine J.ru hX [1,2,3,4] ?_;rw[<- hgo];exact⟨rfl,rfl⟩
   simp only[bne_eq_false_iff_eq]at h6;rw[if_neg (by rw[h6];decide)]at hgo;have hcl:=Dv.clear_keep hc.1;refine J.q hX λ_=>?_;refine J.cb hX (pn_Open p n t l P) [1] ?_;refine cpq ⟨_,rfl,trivial,?_⟩;refine J.q hX λ_=>?_;refine J.cb hX (sw_Clear n t l P.N P.t P.T (Dv.costR*j+k) mm hc.1.gd hmm hc.1.t P.op) [2,3,4] ?_;refine cpq ⟨_,rfl,trivial,?_⟩;refine J.q hX λ_=>?_;refine J.cond rfl (λh7=>?_) (λh7=>?_)
   ·simp only[bne_iff_ne,ne_eq]at h7;have h7:P.clear.2≠0:=h7;rw[if_pos h7]at hgo;refine J.q hX λ_=>?_;refine J.ru hX [1,2,3,4] ?_;rw[<- hgo];exact⟨rfl,rfl⟩
   ·simp only[bne_eq_false_iff_eq]at h7;have h7:P.clear.2=0:=h7;rw[if_neg (by rw[h7];decide)]at hgo;refine J.q hX λ_=>?_;refine J.nS ((i+1,P.clear.1)) (⟨by dsimp only;omega,by dsimp only;rw[hj1];exact hgo,by dsimp only;rw[hj1];exact hcl.1⟩) (by dsimp only;omega) [0,1,2,3,4] rfl rfl
 ·simp only[decide_eq_false_iff_not,Int.ofNat_lt]at h2;have hz:S.t.b-i=0:=by omega
  rw[hz,Dv.roomGo]at hgo;refine J.q hX λ_=>?_;refine J.ru hX [1,2,3,4] ?_;rw[<- hgo];exact⟨rfl,rfl⟩
theorem sum_take_succ (l:List Int) (f:Int->Int) (i:Nat) (x:Int) (h:l[i]? =some x):((l.take (i+1)).map f).sum=((l.take i).map f).sum+f x:=by
 rw[List.take_add_one,h,Option.toList_some,List.map_append,List.sum_append];simp
theorem sum_bd (l:List Int) (f:Int->Int) (c:Int) (hc:0<=c) (hf:∀x,0<=f x/\f x<=c):0<=(l.map f).sum/\(l.map f).sum<=c*l.length:=by
 induction l with
 | nil=>simp
 | cons x l ih=>
  have:=hf x;simp only[List.map_cons,List.sum_cons,List.length_cons,Int.natCast_add,Int.mul_add];omega
theorem mn_Left (t l:Nat) (S:Dv) (k mm:Nat) (hO:S.Ok k mm):Fn Tryz.prog 95 [.pointer (some ⟨t,0,none⟩), .pointer (some ⟨l,0,none⟩)] [TlA t S.t,TbA l S.T]
  (λv As=>v= .int .i64 S.leftN/\As=[TlA t S.t,TbA l S.T]):=by
 have hbd:=hO.gd.ok.bd16;have htb:=hO.t.b;have hlog:=hO.T.log;obtain⟨L,hL⟩:∃L,L=S.hurts:=⟨_,rfl⟩;have hLl:L.length<=16:=by have:=pkSome_len (pkHurt S.t S.T) (-1) S.t.b;rw[hL];unfold Dv.hurts;omega
 have hs:=λi=>sum_bd (L.take i) S.T.count 1000000 (by omega) (λx=>hO.T.bd x);refine Fn.enter [2,3] Tryz.func95 rfl rfl rfl λX F hX=>?_;refine J.q hX λ_=>?_;refine J.cb hX (p_Hurt t S.t (by omega) hO.t.len l S.T S.T.logical.toNat (by omega) (by omega)) [1,2] ?_;rintro v As ⟨a,c,rfl,rfl⟩;refine⟨_,rfl,trivial,?_⟩;rw[show pkSome (pkHurt S.t S.T) (-1) S.t.b=L from hL.symm];refine J.q hX λ_=>?_;refine J.lo (α:=Nat) (λi=>i<=L.length) (λi=>[⟨12, .int .i64 i,0, .tt⟩,⟨11, .int .i64 L.length,0, .tt⟩,⟨10,slv a L.length c,0, .tt⟩,⟨5, .int .i64 ((L.take i).map S.T.count).sum,0, .tt⟩,⟨1, .pointer (some ⟨l,0,none⟩),3, .tt⟩]) [] (λi=>[]) (λi=>L.length-i) (0) (Nat.zero_le _) rfl ?_ (λ_=>rfl) λi hI=>?_
 ·rfl
 have hsi:=hs i;have htl:((L.take i).length:Int)<=16:=by rw[List.length_take];omega
 refine J.q hX λ_=>?_;refine J.cond rfl (λh1=>?_) (λh1=>?_)
 ·simp only[decide_eq_true_eq,Int.ofNat_lt]at h1;obtain⟨x,hx⟩:∃x,L[i]? =some x:=⟨_,List.getElem?_eq_getElem h1⟩;have hxb:=hO.T.bd x;have hsu:=sum_take_succ L S.T.count i x hx;refine J.know (λh' s=>own_some (c:=(a,c)) (by omega) (s.get (i:=3) rfl)) λhg=>?_;obtain⟨g,rfl⟩:=hg;refine J.q hX λ_=>?_;refine J.val hX (.int .i64 x) 0 rfl rfl (λhg aa w he hw=>own1_run tk rfl rfl he rfl rfl rfl (hw.get (i:=3) rfl) (by rw[show 0+(i:Int).toNat*1=i from by omega,cellsI,List.getElem?_map,hx];rfl)) rfl trivial ?_;refine J.q hX λ_=>?_;refine J.cb hX (tb_Count l S.T x) [2] ?_;refine cpq ⟨_,rfl,trivial,?_⟩;refine J.q hX λ_=>?_;rw[<- hsu];refine J.q hX λ_=>?_;refine J.nS (i+1) (by omega) (by omega) [0,1,2,3] rfl rfl
 ·simp only[decide_eq_false_iff_not,Int.ofNat_lt]at h1;refine J.q hX λ_=>?_;refine J.ru hX [1,2] ?_;rw[List.take_of_length_le (by omega),hL];exact⟨rfl,rfl⟩
theorem mn_Step (n t l p:Nat) (S:Dv) (k mm:Nat) (hO:S.Ok (Dv.costS+k) mm) (hmm:mm<=12) (most:Int):Fn Tryz.prog 92 [.pointer (some ⟨n,0,none⟩), .pointer (some ⟨t,0,none⟩), .pointer (some ⟨l,0,none⟩), .pointer (some ⟨p,0,none⟩), .int .i64 most] (DvP p n t l S)
  (λv As=>v= .tuple #[.int .i64 (S.step most).2.1, .int .i64 (S.step most).2.2]/\As=DvP p n t l (S.step most).1):=by
 have hbd:=hO.gd.ok.bd16;have htd:=hO.t.d;have htb:=hO.t.b;refine Fn.enter [3,4,5,2,0] Tryz.func92 rfl rfl rfl λX F hX=>?_;refine J.q hX λ_=>?_;refine J.cb hX (tl_Geo t S.t) [3] ?_;refine cpq ⟨_,rfl,trivial,?_⟩;refine J.q hX λ_=>?_;refine J.lo (α:=(Nat×Tl)) (λz=>z.1<=S.t.d/\(List.range z.1).foldl (λt (d:Nat)=>if S.N.deadAt d then t.die d else t) S.t=z.2/\z.2.Fit S.N) (λz=>[⟨18, .int .i64 z.1,0, .tt⟩,⟨17, .int .i64 S.t.d,0, .tt⟩,⟨0, .pointer (some ⟨n,0,none⟩),3, .tt⟩,⟨1, .pointer (some ⟨t,0,none⟩),4, .tt⟩,⟨2, .pointer (some ⟨l,0,none⟩),5, .tt⟩,⟨3, .pointer (some ⟨p,0,none⟩),2, .tt⟩,⟨4, .int .i64 most,0, .tt⟩]) [3] (λz=>[TlA t z.2]) (λz=>S.t.d-z.1) ((0,S.t)) (⟨Nat.zero_le _,rfl,hO.t⟩) rfl ?_ (λ_=>rfl) λz hI=>?_
 ·rfl
 obtain⟨d,U⟩:=z;dsimp only at hI ⊢;obtain⟨hd,hfo,hU⟩:=hI;refine J.q hX λ_=>?_;refine J.cond rfl (λh1=>?_) (λh1=>?_)
 ·simp only[decide_eq_true_eq,Int.ofNat_lt]at h1;have hsu:(List.range (d+1)).foldl (λt (d:Nat)=>if S.N.deadAt d then t.die d else t) S.t=if S.N.deadAt d then U.die d else U:=by rw[List.range_succ,List.foldl_append,hfo];rfl
  refine J.q hX λ_=>?_;refine J.cb hX (n_Dead n S.N hO.gd.ok d) [2] ?_;refine cpq ⟨_,rfl,trivial,?_⟩;refine J.q hX λ_=>?_;refine J.cond rfl (λh2=>?_) (λh2=>?_)
  ·rw[if_pos h2]at hsu;refine J.q hX λ_=>?_;refine J.cb hX (tl_Dead t U d) [3] ?_;refine cpq ⟨_,rfl,trivial,?_⟩;refine J.q hX λ_=>?_;refine J.nS ((d+1,U.die d)) (⟨by dsimp only;omega,hsu,hU.die d⟩) (by dsimp only;omega) [0,1,2,3,4] rfl rfl
  ·rw[if_neg (by rw[h2];decide)]at hsu;refine J.q hX λ_=>?_;refine J.nS ((d+1,U)) (⟨by dsimp only;omega,hsu,hU⟩) (by dsimp only;omega) [0,1,2,3,4] rfl rfl
 simp only[decide_eq_false_iff_not,Int.ofNat_lt]at h1;obtain rfl:d=S.t.d:=by omega
 have hseen:S.seen={S with t:=U}:=by unfold Dv.seen Dv.seeDead;rw[hfo]
 have hO1:S.seen.Ok (Dv.costM+(Dv.costC+k)) mm:=hO.seen.less (by unfold Dv.costS;omega);have hr:=Dv.room_keep hO1;obtain⟨Q,hQ⟩:∃Q,Q=S.seen:=⟨_,rfl⟩;have hQO:Q.Ok (Dv.costM+(Dv.costC+k)) mm:=by rw[hQ];exact hO1
 have hst:S.step most=(let r:=Q.room;if r.2≠0 then(r.1,0,r.2)else match r.1.hurts with | []=>(r.1,0,0) | b::_=>r.1.carry b most):=by rw[hQ];rfl
 rw[show NandA n S.N=NandA n Q.N from by rw[hQ];rfl,show TbA l S.T=TbA l Q.T from by rw[hQ];rfl,show TlA t U=TlA t Q.t from by rw[hQ,hseen],show PenA p n t l S=PenA p n t l Q from by rw[hQ];rfl];rw[<- hQ]at hr;refine J.q hX λ_=>?_;refine J.cb hX (sw_Room n t l p Q _ mm hQO hmm) [1,2,3,4] ?_;refine cpq ⟨_,rfl,trivial,?_⟩;dsimp only at hst;generalize Q.room=W at hst hr ⊢;obtain⟨P,er⟩:=W;dsimp only at hst hr ⊢;refine J.q hX λ_=>?_;refine J.cond rfl (λh2=>?_) (λh2=>?_)
 ·simp only[bne_iff_ne,ne_eq]at h2;rw[if_pos h2]at hst;refine J.q hX λ_=>?_;refine J.ru hX [1,2,3,4] ?_;rw[hst];exact⟨rfl,rfl⟩
 simp only[bne_eq_false_iff_eq]at h2;rw[if_neg (by rw[h2];decide)]at hst;have hPb:=hr.1.gd.ok.bd16;have hPt:=hr.1.t.b;have hlog:=hr.1.T.log;have hLl:=pkSome_len (pkHurt P.t P.T) (-1) P.t.b;refine J.q hX λ_=>?_;refine J.cb hX (p_Hurt t P.t (by omega) hr.1.t.len l P.T P.T.logical.toNat (by omega) (by omega)) [3,4] ?_;rintro v As ⟨a,c,rfl,rfl⟩;refine⟨_,rfl,trivial,?_⟩;have hh:pkSome (pkHurt P.t P.T) (-1) P.t.b=P.hurts:=rfl;rw[hh]at hLl ⊢;generalize P.hurts=L at hst hLl ⊢;cases L with
 | nil=>
  refine J.q hX λ_=>?_;refine J.cT ?_;refine J.q hX λ_=>?_;refine J.ru hX [1,2,3,4] ?_;rw[hst];exact⟨rfl,rfl⟩
 | cons b L=>
  refine J.know (λh' s=>own_some (c:=(a,c)) (by simp) (s.get (i:=5) rfl)) λhg=>?_;obtain⟨g,rfl⟩:=hg;refine J.q hX λ_=>?_;refine J.cond rfl (λh=>absurd h (by rw[beq_iff_eq,List.length_cons];omega)) (λ_=>?_);refine J.q hX λ_=>?_;refine J.val hX (.int .i64 b) 0 rfl rfl (λhg aa w he hw=>own1_run tk rfl rfl he rfl rfl rfl (hw.get (i:=5) rfl) rfl) rfl trivial ?_;dsimp only at hst;refine J.q hX λ_=>?_;refine J.cb hX (sw_Carry n t l p P _ mm hr.1 b most) [1,2,3,4] ?_;refine cpq ⟨_,rfl,trivial,?_⟩;refine J.q hX λ_=>?_;refine J.ru hX [1,2,3,4] ?_;rw[hst];exact⟨rfl,rfl⟩
end Go.Proofs.YtkdlnfdjjifedaaGreat
namespace Go.Proofs.YtkdlnfdjjifedaaGreat
namespace Bt
end Bt
namespace S
end S
end Go.Proofs.YtkdlnfdjjifedaaGreat
namespace Go.Proofs.YtkdlnfdjjifedaaGreat
open Go
namespace Nand
variable {N : Nand}
end Nand
end Go.Proofs.YtkdlnfdjjifedaaGreat
namespace Go.Proofs.YtkdlnfdjjifedaaGreat
open Go Go.RowKit
theorem q_Clone (g c:Nat):Fn Tryz.prog 209 [slv (some g) 1 c] [ownA 34 7 (some g) 1 c (ft 3 4 2 0 0)]
  (λv As=>∃a' c',v=slv a' 1 c'/\As=[ownA 34 7 (some g) 1 c (ft 3 4 2 0 0),ownA 34 7 a' 1 c' (ft 3 4 2 0 0)]):=by
 refine Fn.enter [0] Tryz.func209 rfl rfl rfl λX F hX=>?_;refine J.q hX λ_=>?_;refine J.cF ?_;refine J.qn hX 5 λbb=>?_;refine J.closeOwn (e:=34) (size:=7) (n:=0) (cap:=0) (xs:=[]) 2 rfl rfl rfl (Nat.le_refl _) (Nat.zero_le _) rfl rfl rfl ?_;refine J.q hX λ_=>?_;refine J.appendR hX tk (a:=some (bb 0)) (n:=0) (cap:=0) (xs:=[]) (oo:=0) (Ay:=ownA 34 7 (some g) 1 c (ft 3 4 2 0 0)) 2 1 0 rfl rfl rfl rfl rfl rfl rfl rfl rfl rfl (own_rd _ _ (some g) _ _ _) rfl rfl rfl rfl (by decide) (by decide) (by decide) (λ_=>rfl) λa' c'=>⟨_,rfl,trivial,?_⟩;refine J.q hX λ_=>?_;refine J.ru hX [1,2] ?_;exact⟨a',c',rfl,rfl⟩
theorem q_Due (p g c:Nat):Fn Tryz.prog 150 [.pointer (some ⟨p,0,none⟩), .int .i64 3] [.pt p 235 [slv (some g) 1 c],ownA 34 7 (some g) 1 c (ft 3 4 2 0 0)]
  (λv As=>∃x a' c',v=slv a' 1 c'/\As=[.pt p 235 [x],ownA 34 7 (some g) 1 c (ft 3 4 2 0 0),ownA 34 7 a' 1 c' (ft 3 4 2 0 0)]):=by
 refine Fn.enter [2,0] Tryz.func150 rfl rfl rfl λX F hX=>?_;refine J.know (p:=1<=c) (λh' s=>by obtain⟨_,cur,h1,h2,_⟩:=s.get (i:=2) rfl;exact h2) λhc=>?_;refine J.q hX λ_=>?_;refine J.cF ?_;refine J.q hX λ_=>?_;refine J.lo (α:=Nat) (λk=>k<=1) (λk=>[⟨5, .int .i64 k,0, .tt⟩,⟨0, .pointer (some ⟨p,0,none⟩),2, .tt⟩,⟨1, .int .i64 3,0, .tt⟩]) [] (λk=>[]) (λk=>1-k) (0) (Nat.zero_le _) rfl ?_ (λ_=>rfl) λk hI=>?_
 ·rfl
 rcases(by omega:k=0\/k=1)with rfl | rfl
 ·refine J.q hX λ_=>?_;refine J.val hX (.int .i64 3) 0 rfl rfl (λhg a w he hw=>own1_run tk rfl rfl he hg rfl rfl (hw.get (i:=2) rfl) rfl) rfl trivial ?_;refine J.q hX λ_=>?_;refine J.cT ?_;refine J.q hX λ_=>?_;refine J.nS (1) (by omega) (by omega) [0,1,2] rfl rfl
 ·refine J.q hX λ_=>?_;refine J.val hX (.int .i64 3) 0 rfl rfl (λhg a w he hw=>absurd hg (by decide)) rfl trivial ?_;refine J.q hX λ_=>?_;refine J.cF ?_;refine J.q hX λ_=>?_;refine J.cb hX (q_Clone g c) [2] ?_;rintro v As ⟨a',c',rfl,rfl⟩;refine⟨_,rfl,trivial,?_⟩;refine J.qn hX 10 λ_=>?_;refine J.val hX (.slice (if c=1 then some ⟨g,0,none⟩else some ⟨g,7,none⟩) 0 (c-1)) 0 rfl rfl (λhg a w he hw=>?_) rfl trivial ?_
  ·have e1:=ev_spec he (x:= .tmp 41) (s:=⟨41,slv (some g) 1 c,0, .tt⟩) rfl;have e2:=ev_spec he (x:= .tmp 42) (s:=⟨42, .int .i64 ((1:Nat):Int),0, .tt⟩) rfl;simp only[Slot.val,G.on]at e1 e2;obtain⟨d,f,zv,ok⟩:=tiOf_spec (tk.get (t:=24) rfl);obtain⟨fe,rfl,g1,g2⟩:=ok.slice rfl;simp only[execOp,Option.map_some,Option.map_none,e1,e2,slv,Instr.sliceAt,Instr.slice,Instr.sliceBounds,Instr.sliceBound,asIntOf,Sem.run_bind,Sem.run_pure,Result.andThen_ok,underlying_run ok.hd,sizeOf_run g1,g2]
   by_cases h:c=1
   ·subst h;simp
   ·simp[h,Addr.add_none]
  refine J.q hX λ_=>?_;refine J.ru hX [1,2,3] ?_;exact⟨_,a',c',rfl,rfl⟩
theorem q_Run (p g c q:Nat) (N:Nand) (hN:N.Ok) (ho:N.ops=3):Fn Tryz.prog 97 [.pointer (some ⟨p,0,none⟩), .pointer (some ⟨q,0,none⟩)] [.pt p 235 [slv (some g) 1 c],ownA 34 7 (some g) 1 c (ft 3 4 2 0 0),NandA q N]
  (λv As=>v= .int .i64 1/\As=[.emp, .emp,NandA q (N.fault 4 2 0 0 0 0).2]):=by
 refine Fn.enter [2,0] Tryz.func97 rfl rfl rfl λX F hX=>?_;refine J.q hX λ_=>?_;refine J.cb hX (n_Ops q N) [3] ?_;refine cpq ⟨_,rfl,trivial,?_⟩;rw[ho];refine J.q hX λ_=>?_;refine J.cb hX (q_Due p g c) [1,2] ?_;rintro v As ⟨x,a',c',rfl,rfl⟩;refine⟨_,rfl,trivial,?_⟩;refine J.know (λh' s=>own_some (c:=(a',c')) (by decide) (s.get (i:=4) rfl)) λhg=>?_;obtain⟨g',rfl⟩:=hg;refine J.q hX λ_=>?_;refine J.lo (α:=Nat) (λk=>k<=1) (λk=>[⟨14, .int .i64 k,0, .tt⟩,⟨13, .int .i64 1,0, .tt⟩,⟨12,slv (some g') 1 c',0, .tt⟩,⟨5,slv (some g') 1 c',0, .tt⟩,⟨1, .pointer (some ⟨q,0,none⟩),0, .tt⟩]) [3] (λk=>[NandA q (if k=0 then N else(N.fault 4 2 0 0 0 0).2)]) (λk=>1-k) (0) (Nat.zero_le _) rfl ?_ (λ_=>rfl) λk hI=>?_
 ·rfl
 rcases(by omega:k=0\/k=1)with rfl | rfl
 ·refine J.q hX λ_=>?_;refine J.cT ?_;refine J.q hX λ_=>?_;refine J.val hX (.agg (ft 3 4 2 0 0).toArray) 0 rfl rfl (λhg a w he hw=>ownN_run tk rfl rfl he rfl rfl rfl (hw.get (i:=4) rfl) rfl rfl) rfl trivial ?_;refine J.q hX λ_=>?_;refine J.cb hX (n_Fault q N hN 3 4 2 0 0 0 0) [3] ?_;refine cpq ⟨_,rfl,trivial,?_⟩;refine J.q hX λ_=>?_;refine J.nS (1) (by omega) (by omega) [0,1,2,3,4] rfl rfl
 ·refine J.q hX λ_=>?_;refine J.cF ?_;refine J.turn1 [1,2] rfl (As:=[.emp, .emp]) (λh s=>⟨λ_=>0,λi A hA=>by
   match i,hA with
   | 0,hA=>simp at hA;subst hA;trivial
   | 1,hA=>simp at hA;subst hA;trivial
   | k+2,hA=>simp at hA⟩) rfl ?_
  refine J.q hX λ_=>?_;exact J.ru hX [1,2,3] ⟨rfl,rfl⟩
end Go.Proofs.YtkdlnfdjjifedaaGreat
