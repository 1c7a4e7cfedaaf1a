/- Helpers. No condition. -/
import Derived.Test.YtmafiplddapokaaGreatU11
import Derived.WideKeyEntry
set_option maxRecDepth 20000
set_option linter.all false
namespace Go.Proofs.YtmafiplddapokaaGreat
section
theorem b1I {N:Nand} (hN:N.Ok) (b r m:Int) (k:Nat):(R.mend (R.look N b r m) k).data.length=16:=by
 unfold R.mend;split
 ·unfold W.back;split
  ·unfold W.backS;refine a2H (λt ht=>?_) _ rfl;have hd:=a2D hN b r m;rw[L9,J4]at ht;rcases ht with ht | rfl
   ·exact hd.1 t (R2 ht)
   ·exact hd.2
  ·rfl
 ·rfl
theorem b6A {N:Nand} (hN:N.Ok) (b r s m:Int):(R.read N b r s m).1.data.length=16:=by
 unfold R.read;split
 ·rfl
 split
 ·rfl
 split
 ·rename_i h;have hd:=(a2D hN b r m).1;have hl:=Y6 N b r m;rw[d7]at h ⊢
  by_cases hs:s.toNat<(R.look N b r m).slots.length
  ·rw[c9 hs];exact hd _ (H6 _)
  ·rw[j5 (by omega)];rfl
 ·split
  ·exact b1I hN _ _ _ _
  ·rfl
namespace Dv
variable {S : Dv} {k m : Nat}
theorem rd_len (h:S.Ok k m) (i:Int):(S.rd i).1.data.length=16:=by
 unfold rd;dsimp only;split
 ·rfl
 split
 ·rfl
 ·exact b6A h.gd.ok _ _ _ _
theorem rds_len (h:S.Ok k m):∀l:List Int,(∀s∈(S.rds l).1,s.data.length=16)/\(S.rds l).1.length<=l.length/\((S.rds l).2=0->(S.rds l).1.length=l.length)
 | []=>⟨by simp[rds],by simp[rds],λ_=>rfl⟩
 | i::l=>by
  have ih:=rds_len h l;rw[rds];split
  ·rename_i h0;exact⟨by simp,by simp,λe=>absurd e h0⟩
  ·refine⟨λs hs=>?_,by simp only[l5];omega,λe=>by simp only[l5];rw[ih.2.2 e]⟩;rcases List.mem_cons.1 hs with rfl | hs
   ·exact rd_len h i
   ·exact ih.1 s hs
def cost:Nat:=8*fuel
theorem carryGo_keep:∀(f:Nat) (S:Dv) (l:List Int) (d:Int) (k:Nat),S.Ok (cost*f+k) m->(carryGo f S l d).1.Ok k m/\S.N.Like (carryGo f S l d).1.N/\(carryGo f S l d).1.T.logical=S.T.logical
 | 0,S,l,d,k,h=>⟨h.less (by omega),Nand.Like.refl _,rfl⟩
 | f+1,S,l,d,k,h=>by
  rw[carryGo];dsimp only;have hs:S.Ok (8*fuel+(cost*f+k)) m:=h.less (by unfold cost;rw[H3];omega);split
  ·exact⟨h.less (by omega),Nand.Like.refl _,rfl⟩
  split
  ·exact⟨h.less (by omega),Nand.Like.refl _,rfl⟩
  have hp:=pen_keep hs (rds_len h (l.take (max S.slots 1).toNat)).1;split
  ·exact⟨hp.1.less (by omega),hp.2.1,hp.2.2⟩
  ·have ih:=carryGo_keep f _ (l.drop (S.pen (S.rds (l.take (max S.slots 1).toNat)).1).2.1.toNat) (d+(S.pen (S.rds (l.take (max S.slots 1).toNat)).1).2.1) k hp.1;exact⟨ih.1,hp.2.1.trans ih.2.1,ih.2.2.trans hp.2.2⟩
theorem take_le (l:List Int) (n:Nat):(l.take n).length<=l.length:=by rw[j9];omega
theorem ins_le (h:S.Ok k m) (b:Int):(S.T.ins b).length<=65536:=by
 have h1:=h.T.ins_len b;have h2:=h.T.log;rw[h.T.ins]at h1 ⊢;have:=S.T.inK_len b S.T.logical.toNat
 omega
def costC:Nat:=cost*65536
theorem carry_keep (h:S.Ok (costC+k) m) (b most:Int):(S.carry b most).1.Ok k m/\S.N.Like (S.carry b most).1.N/\(S.carry b most).1.T.logical=S.T.logical:=by
 unfold carry;dsimp only;have h1:=ins_le h b;have h2:=take_le (S.T.ins b) (max most 0).toNat
 have h3:cost*((S.T.ins b).take (max most 0).toNat).length<=costC:=y9 _ (by omega);exact carryGo_keep _ S _ 0 k (h.less (by omega))
theorem seeDead_fit {N:Nand} {t:Tl} (N':Nand) (h:t.Fit N):(seeDead N' t).Fit N:=by
 unfold seeDead;generalize List.range t.d=q
 induction q generalizing t with
 | nil=>exact h
 | cons d q ih=>
  rw[A6];apply ih;split
  ·exact h.die _
  ·exact h
theorem Ok.seen (h:S.Ok k m):S.seen.Ok k m:=⟨h.gd,seeDead_fit _ h.t,h.T,h.sl,h.row,h.next⟩
theorem eraseD_keep (b mk:Int) (x:Nand×Tl×Int) (d:Nat) (hN:x.1.Gd (1+k) m) (ht:x.2.1.Fit x.1):(eraseD b mk x d).1.Gd k m/\(eraseD b mk x d).2.1.Fit x.1/\x.1.Like (eraseD b mk x d).1:=by
 unfold eraseD;split
 ·exact⟨hN.less (by omega) (i7 _),ht,Nand.Like.refl _⟩
 split
 ·exact⟨hN.less (by omega) (i7 _),ht,Nand.Like.refl _⟩
 ·refine⟨Nand.Gd.erase (by rw[a0G];exact hN) _ _,?_,Nand.like_erase _ _ _⟩;dsimp only
  (repeat' split)<;>first | exact ht | exact ht.die _ | exact ht.bad _ _
theorem foldl_eraseD (b mk:Int):∀(q:List Nat) (x:Nand×Tl×Int),x.1.Gd (q.length+k) m->x.2.1.Fit x.1->(q.foldl (eraseD b mk) x).1.Gd k m/\(q.foldl (eraseD b mk) x).2.1.Fit x.1/\x.1.Like (q.foldl (eraseD b mk) x).1
 | [],x,h,ht=>⟨h.less (by simp) (i7 _),ht,Nand.Like.refl _⟩
 | d::q,x,h,ht=>by
  have h1:=eraseD_keep b mk x d (k:=q.length+k) (h.less (by simp only[l5];omega) (i7 _)) ht;have ih:=foldl_eraseD b mk q (eraseD b mk x d) h1.1 (h1.2.1.like h1.2.2);rw[A6];exact⟨ih.1,⟨ih.2.1.d.trans h1.2.2.dies,ih.2.1.b.trans h1.2.2.blocks,ih.2.1.p.trans h1.2.2.pages,ih.2.1.len⟩,h1.2.2.trans ih.2.2⟩
theorem eraseB_keep {N:Nand} {t:Tl} (hN:N.Gd (6+k) m) (ht:t.Fit N) (b:Int):(eraseB N t b).1.Gd k m/\(eraseB N t b).2.1.Fit N/\N.Like (eraseB N t b).1:=by
 have:=hN.ok.bd16;exact foldl_eraseD b _ _ _ (hN.less (by rw[M5];omega) (i7 _)) ht
theorem wores_fit {N N':Nand} {t:Tl} (h:t.Fit N) (b:Int):(wores N' t b).Fit N:=by
 unfold wores;generalize List.range N'.dies=q
 induction q generalizing t with
 | nil=>exact h
 | cons d q ih=>rw[A6];exact ih (h.wore _ _)
theorem eraseT_fit {N N':Nand} {t:Tl} (h:t.Fit N) (b:Int):(eraseT N' t b).Fit N:=by
 unfold eraseT;split
 ·exact(wores_fit h b).clean _ _
 ·exact wores_fit h b
theorem erase_keep {N:Nand} {t:Tl} (hN:N.Gd (6+k) m) (ht:t.Fit N) (b:Int):(erase N t b).1.Gd k m/\(erase N t b).2.1.Fit N/\N.Like (erase N t b).1:=by
 have h:=eraseB_keep hN ht b;unfold erase;dsimp only;split
 ·exact h
 ·exact⟨h.1,eraseT_fit h.2.1 b,h.2.2⟩
theorem clearGo_keep:∀(l:List Int) (N:Nand) (t:Tl),N.Gd (6*l.length+k) m->t.Fit N->(clearGo l N t).1.Gd k m/\(clearGo l N t).2.1.Fit N/\N.Like (clearGo l N t).1
 | [],N,t,h,ht=>⟨h.less (by simp) (i7 _),ht,Nand.Like.refl _⟩
 | b::l,N,t,h,ht=>by
  have h1:=erase_keep (k:=6*l.length+k) (h.less (by simp only[l5];omega) (i7 _)) ht b;rw[clearGo];split
  ·exact⟨h1.1.less (by omega) (i7 _),h1.2⟩
  ·have ih:=clearGo_keep l _ _ h1.1 (h1.2.1.like h1.2.2);exact⟨ih.1,⟨ih.2.1.d.trans h1.2.2.dies,ih.2.1.b.trans h1.2.2.blocks,ih.2.1.p.trans h1.2.2.pages,ih.2.1.len⟩,h1.2.2.trans ih.2.2⟩
theorem clearX_keep {N:Nand} {t:Tl} (hN:N.Gd (96+k) m) (ht:t.Fit N) (T:Tb) (o:Int):(clearX N t T o).1.Gd k m/\(clearX N t T o).2.1.Fit N/\N.Like (clearX N t T o).1:=by
 have h1:=hN.ok.bd16;have h2:=ht.b;have h3:=a0q (C3 t T) o t.b;exact clearGo_keep _ N t (hN.less (by omega) (i7 _)) ht
theorem clear_keep (h:S.Ok (96+k) m):S.clear.1.Ok k m/\S.N.Like S.clear.1.N/\S.clear.1.T=S.T:=by
 have h1:=clearX_keep h.gd h.t S.T S.op;exact⟨⟨h1.1,h1.2.1.like h1.2.2,h.T,h.sl,h.row,h.next⟩,h1.2.2,rfl⟩
def costR:Nat:=costC+96
theorem roomGo_keep:∀(f:Nat) (S:Dv) (k:Nat),S.Ok (costR*f+k) m->(roomGo f S).1.Ok k m/\S.N.Like (roomGo f S).1.N/\(roomGo f S).1.T.logical=S.T.logical
 | 0,S,k,h=>⟨h.less (by omega),Nand.Like.refl _,rfl⟩
 | f+1,S,k,h=>by
  rw[roomGo];split
  ·exact⟨h.less (by omega),Nand.Like.refl _,rfl⟩
  split
  ·exact⟨h.less (by omega),Nand.Like.refl _,rfl⟩
  dsimp only;have hc:=carry_keep (S:=S) (k:=96+(costR*f+k)) (m:=m) (h.less (by unfold costR;rw[H3];omega)) S.victim (S.T.count S.victim);split
  ·exact⟨hc.1.less (by omega),hc.2⟩
  have hd:=clear_keep hc.1;split
  ·exact⟨hd.1.less (by omega),hc.2.1.trans hd.2.1,by rw[hd.2.2];exact hc.2.2⟩
  ·have ih:=roomGo_keep f _ k hd.1;exact⟨ih.1,(hc.2.1.trans hd.2.1).trans ih.2.1,by rw[ih.2.2,hd.2.2];exact hc.2.2⟩
def costM:Nat:=costR*16+96
theorem room_keep (h:S.Ok (costM+k) m):S.room.1.Ok k m/\S.N.Like S.room.1.N/\S.room.1.T.logical=S.T.logical:=by
 have hb:=h.gd.ok.bd16;have htb:=h.t.b;have hc:=clear_keep (S:=S) (k:=costR*16+k) (m:=m) (h.less (by unfold costM;omega));unfold room;split
 ·exact⟨hc.1.less (by omega),hc.2.1,by rw[hc.2.2]⟩
 ·have h1:costR*S.t.b<=costR*16:=y9 _ (by omega);have ih:=roomGo_keep S.t.b S.clear.1 k (hc.1.less (by omega));exact⟨ih.1,hc.2.1.trans ih.2.1,by rw[ih.2.2,hc.2.2]⟩
def costS:Nat:=costM+costC
theorem step_keep (h:S.Ok (costS+k) m) (most:Int):(S.step most).1.Ok k m/\S.N.Like (S.step most).1.N/\(S.step most).1.T.logical=S.T.logical:=by
 have hr:=room_keep (S:=S.seen) (k:=costC+k) (m:=m) (h.seen.less (by unfold costS;omega));have e:S.seen.N=S.N:=rfl;have e2:S.seen.T=S.T:=rfl;rw[e,e2]at hr;unfold step;dsimp only;split
 ·exact⟨hr.1.less (by omega),hr.2⟩
 ·split
  ·exact⟨hr.1.less (by omega),hr.2⟩
  ·rename_i b _ _;have hc:=carry_keep hr.1 b most;exact⟨hc.1,hr.2.1.trans hc.2.1,hc.2.2.trans hr.2.2⟩
def costT:Nat:=costM+cost
theorem tornGo_keep:∀(f:Nat) (S:Dv) (l:List En) (k:Nat),S.Ok (costT*f+k) m->(∀s∈l,s.data.length=16)->(tornGo f S l).1.Ok k m/\S.N.Like (tornGo f S l).1.N/\(tornGo f S l).1.T.logical=S.T.logical
 | 0,S,l,k,h,_=>⟨h.less (by omega),Nand.Like.refl _,rfl⟩
 | f+1,S,l,k,h,hd=>by
  rw[tornGo];dsimp only;split
  ·exact⟨h.less (by omega),Nand.Like.refl _,rfl⟩
  have hr:=room_keep (S:=S) (k:=8*fuel+(costT*f+k)) (m:=m) (h.less (by unfold costT cost;rw[H3];omega));split
  ·exact⟨hr.1.less (by omega),hr.2⟩
  have hp:=pen_keep hr.1 hd;split
  ·exact⟨hp.1.less (by omega),hr.2.1.trans hp.2.1,hp.2.2.trans hr.2.2⟩
  ·have ih:=tornGo_keep f _ (l.drop (S.room.1.pen l).2.1.toNat) k hp.1 (λs hs=>hd s (V1 hs));exact⟨ih.1,(hr.2.1.trans hp.2.1).trans ih.2.1,(ih.2.2.trans hp.2.2).trans hr.2.2⟩
end Dv
end
section
open Go Go.RowKit
theorem b8Y {T:Tb} (h:∀x∈T.at_,0<=x.2.slot/\x.2.slot<=1000) (i:Int):0<=((Tb.look T.at_ i).getD AtV.zero).slot/\((Tb.look T.at_ i).getD AtV.zero).slot<=1000:=by
 cases hl:Tb.look T.at_ i with
 | none=>show(0:Int)<=0/\(0:Int)<=1000;omega
 | some a=>exact h _ (Tb.look_mem hl)
theorem b8R (n l:Nat) (S:Dv) (k mm:Nat) (hO:S.Ok k mm) (i:Int):FP 160 [pp n,pp l,iI i] [B8 n S.N,TbA l S.T]
  (Ps (.tuple #[enV (S.rd i).1,iI (S.rd i).2]) [B8 n S.N,TbA l S.T]):=by
 have hsl:=b8Y hO.sl i;refine FE [2,3,0] Tryz.func160 λX F hX=>?_;refine J.qp (a5M l S.T i) [2] λ_=>?_;have hrd:S.rd i=(let a:=(Tb.look S.T.at_ i).getD AtV.zero;let x:=R.read S.N a.block a.row a.slot a.mask;if x.2=9 then(En.zero,9)else if x.2≠0\/x.1.lpn≠i\/x.1.seq≠a.seq then(⟨i,0,4,zeros16⟩,0)else(x.1,0)):=rfl;generalize(Tb.look S.T.at_ i).getD AtV.zero=a at hsl hrd ⊢;generalize(Tb.look S.T.at_ i).isSome=is;refine J.qp (b0v n S.N hO.gd.ok hO.gd.room a.block a.row a.slot a.mask (by omega) (by omega)) [1] λ_=>?_;dsimp only at hrd;generalize R.read S.N a.block a.row a.slot a.mask=r at hrd ⊢;obtain⟨e,x⟩:=r;dsimp only at hrd ⊢;refine J.qd (λ_ h1=>?_) λ_ h1=>?_
 ·simp only[A4]at h1;rw[d8 h1]at hrd;refine J.qr [1,2] λ_=>?_;rw[hrd,h1];exact⟨rfl,rfl⟩
 simp only[l8,H5]at h1;rw[d6 h1]at hrd;refine J.qn 4 λ_=>?_;cases hx:(x !=0)with
 | true=>
  have hx':x≠0:=by simpa using hx
  rw[d8 (.inl hx')]at hrd;refine J.qT λ_=>?_;refine J.qr [1,2] λ_=>?_;rw[hrd];exact⟨rfl,rfl⟩
 | false=>
  have hx':x=0:=by simpa using hx
  refine J.qn 5 λ_=>?_;cases hy:(e.lpn !=i)with
  | true=>
   have hy':e.lpn≠i:=by simpa using hy
   rw[d8 (.inr (.inl hy'))]at hrd;refine J.qT λ_=>?_;refine J.qr [1,2] λ_=>?_;rw[hrd];exact⟨rfl,rfl⟩
  | false=>
   have hy':e.lpn=i:=by simpa using hy
   refine J.qd (λ_ h2=>?_) λ_ h2=>?_
   ·have hz:e.seq≠a.seq:=by simpa using h2
    rw[d8 (.inr (.inr hz))]at hrd;refine J.qr [1,2] λ_=>?_;rw[hrd];exact⟨rfl,rfl⟩
   ·have hz:e.seq=a.seq:=by simpa using h2
    rw[d6 (by rw[hx',hy',hz];simp)]at hrd;refine J.qr [1,2] λ_=>?_;rw[hrd];exact⟨rfl,rfl⟩
theorem a6Z (a:Option Nat) (n c:Nat):slv a n c= .slice (oad a) n c:=by cases a<;>rfl
theorem b6B (S:Dv) {C:List Int} {E:List En} {i:Nat} {x:Int} (h:S.rds C=(E++(S.rds (C.drop i)).1,(S.rds (C.drop i)).2)) (hx:C[i]? =some x):((S.rd x).2≠0->(S.rds C).2=(S.rd x).2)/\((S.rd x).2=0->S.rds C=((E++[(S.rd x).1])++(S.rds (C.drop (i+1))).1,(S.rds (C.drop (i+1))).2)):=by
 obtain⟨h1,h2⟩:=List.getElem?_eq_some_iff.1 hx;have hd:C.drop i=x::C.drop (i+1):=by rw[t6 h1,h2]
 rw[hd]at h;rw[h];refine⟨λh0=>?_,λh0=>?_⟩
 ·rw[Dv.rds,d8 h0]
 ·rw[Dv.rds,d6 (by simp[h0])];simp
theorem a4M:∀(f:Nat) (S:Dv) (l:List En),0<=(Dv.write f S l).2.1/\(Dv.write f S l).2.1<=7
 | 0,S,l=>by show(0:Int)<=0/\(0:Int)<=7;omega
 | f+1,S,l=>by
  rw[Dv.write_succ];have hf:=Dv.fit_le S.at1 l;split
  ·show(0:Int)<=0/\(0:Int)<=7;omega
  split
  ·show(0:Int)<=0/\(0:Int)<=7;omega
  split
  ·show(0:Int)<=0/\(0:Int)<=7;omega
  split
  ·show(0:Int)<=0/\(0:Int)<=7;omega
  split
  ·show(0:Int)<=(S.at1.fit l:Int)/\(S.at1.fit l:Int)<=7;omega
  split
  ·show(0:Int)<=0/\(0:Int)<=7;omega
  ·exact a4M f _ l
set_option maxHeartbeats 1000000 in
theorem a7w (n t l p:Nat) (S:Dv) (k mm:Nat) (hO:S.Ok (Dv.costC+k) mm) (b most:Int):FP 99 [pp n,pp l,pp p,iI b,iI most] (DvP p n t l S)
  (Ps (.tuple #[iI (S.carry b most).2.1,iI (S.carry b most).2.2]) (DvP p n t l (S.carry b most).1)):=by
 have hlog:=hO.T.log;have hins:=Dv.ins_le hO b;obtain⟨L,hL⟩:∃L,L=S.T.ins b:=⟨_,rfl⟩;obtain⟨u,hu⟩:∃u:Nat,u=min (max most 0).toNat L.length:=⟨_,rfl⟩;refine FE [3,5,2,0,0] Tryz.func99 λX F hX=>?_;refine J.qF λ_=>?_;refine J.qc (b6j l S.T S.T.logical.toNat (by omega) (by omega) b) [4] λ_=>?_;rintro v As ⟨a,c,rfl,rfl⟩;refine⟨_,rfl,trivial,?_⟩;rw[<- hL];refine J.know (λh' s=>a0M (show a0V _ _ a L.length c _ _ from s.get (i:=5) rfl)) λhcap=>?_;rw[<- hL]at hins;have hmin:(if(L.length:Int)<(if(0:Int)>most then 0 else most)then(L.length:Int)else(if(0:Int)>most then 0 else most))=(u:Int):=by rw[c2o,min2,hu];omega
 have hul:u<=L.length:=by omega
 refine J.qn 10 λ_=>?_;rw[hmin,a6Z];refine J.v (.slice (oad a) u c) rfl rfl (λhg aa w he hw=>a3Q tk rfl rfl rfl he rfl rfl rfl rfl (by omega)) ?_;refine J.q λ_=>?_;have hcar:S.carry b most=Dv.carryGo (L.take u).length S (L.take u) 0:=by
  unfold Dv.carry;rw[<- hL];have:L.take (max most 0).toNat=L.take u:=by
   rw[hu]
   by_cases hle:(max most 0).toNat<=L.length
   ·rw[L8 hle]
   ·rw[Nat.min_eq_right (by omega),B1 (by omega),B1 (i7 _)]
  rw[this]
 have htl:(L.take u).length=u:=by rw[j9];omega
 rw[htl]at hcar;refine J.q λ_=>?_;refine J.l (α:=(Nat×Nat×Dv)) (λz=>z.1<=u/\u-z.1<=z.2.1/\z.2.2.Ok (Dv.cost*z.2.1+k) mm/\Dv.carryGo z.2.1 z.2.2 ((L.take u).drop z.1) z.1=S.carry b most) (λz=>[si 13 z.1,sv 12 (.slice (oad a) u c),⟨0,pp n,3, .tt⟩,⟨1,pp l,5, .tt⟩,⟨2,pp p,2, .tt⟩]) [1,2,3,4] (λz=>DvP p n t l z.2.2) (λz=>u-z.1) ((0,u,S)) (⟨j7 _,by dsimp only;omega,hO.less (by have:Dv.cost*u<=Dv.costC:=y9 _ (by omega);dsimp only;omega),hcar.symm⟩) λz hI=>?_;obtain⟨d,j,Q⟩:=z;dsimp only at hI ⊢;obtain⟨hd,hj,hQ,hw⟩:=hI;refine J.qd (λ_ h1=>?_) λ_ h1=>?_
 ·simp only[d5,i5]at h1;obtain⟨j,rfl⟩:∃i,j=i+1:=⟨j-1,by omega⟩;have hQ1:Q.Ok (8*Dv.fuel+(Dv.cost*j+k)) mm:=hQ.less (by rw[H3];unfold Dv.cost;omega);have hbd:=hQ.gd.ok.bd16;have hlb:=hQ.t.len;have hbb:Q.t.b<=1000:=by have:=hQ.t.b;omega
  rw[Dv.carryGo,d6 (by rw[C1,htl];omega)]at hw;dsimp only at hw;obtain⟨s,hs⟩:∃s:Nat,s=(max Q.slots 1).toNat:=⟨_,rfl⟩;rw[<- hs]at hw;refine J.know (λh' s=>D1 (c:=(a,c)) (by omega) (s.get (i:=5) rfl)) λhg=>?_;obtain⟨ga,rfl⟩:=hg;refine J.qp (b1z p n t l Q hbb hlb) [1,2,3,4] λ_=>?_;have hsb:0<=Q.slots/\Q.slots<=7:=by
   unfold Dv.slots;split
   ·exact Dv.slots_le _
   ·exact Dv.slots_le _
  have hs1:1<=s/\s<=7:=by omega
  have h51:(if(1:Int)>Q.slots then 1 else Q.slots)=(s:Int):=by rw[hs];split<;>omega
  obtain⟨e,he⟩:∃e:Nat,e=min (d+s) u:=⟨_,rfl⟩;refine J.qn 4 λ_=>?_;rw[h51];have h54:(if(u:Int)<(d:Int)+(s:Int)then(u:Int)else(d:Int)+(s:Int))=(e:Int):=by rw[he];split<;>omega
  refine J.qn 4 λ_=>?_;rw[h54];refine J.q λ_=>?_;have h55:((e:Int).toNat-(d:Int).toNat)=e-d:=by omega
  obtain⟨w,hw0⟩:∃w,e=d+w:=⟨e-d,by omega⟩;have hw1:e-d=w:=by omega
  rw[h55,hw1,show 0+(d:Int).toNat*1=d from by omega,show c-(d:Int).toNat=c-d from by omega];obtain⟨C,hC⟩:∃C,C=((L.take u).drop d).take s:=⟨_,rfl⟩;have hCl:C.length=w:=by rw[hC,j9,C1,htl];omega
  have hCg:∀i,i<w->∃x,C[i]? =some x/\(A5 L)[d+i]? =some (iI x):=λi hi=>by
   have hx:d+i<L.length:=by omega
   refine⟨L[d+i],?_,?_⟩
   ·rw[hC,C2,d8 (by omega),K8,C2,d8 (by omega),c9 hx]
   ·rw[A5,i9,c9 hx];rfl
  rw[<- hC]at hw;refine J.turn1 [] rfl (As:=[m9 101 19 none 0 0 (n7 [])]) (λh s=>Sep.one ⟨rfl,rfl,rfl⟩) rfl ?_;refine J.q λ_=>?_;refine J.l (α:=(Nat×List En×Option Nat×Nat)) (λz=>z.1<=w/\z.2.1.length=z.1/\(∀x∈z.2.1,x.data.length=16)/\Q.rds C=(z.2.1++(Q.rds (C.drop z.1)).1,(Q.rds (C.drop z.1)).2)) (λz=>[si 57 z.1,si 56 w,sv 55 (.slice (some ⟨ga,d,none⟩) w (c-d)),sv 14 (slv z.2.2.1 z.2.1.length z.2.2.2),si 13 d,⟨12, .slice (oad (some ga)) u c,0, .tt⟩,⟨0,pp n,3, .tt⟩,⟨1,pp l,5, .tt⟩,⟨2,pp p,2, .tt⟩]) [6] (λz=>[m9 101 19 z.2.2.1 z.2.1.length z.2.2.2 (n7 z.2.1)]) (λz=>w-z.1) ((0,[],none,0)) (⟨j7 _,rfl,by simp,by simp⟩) λz hI=>?_;obtain⟨i,E,ea,ec⟩:=z;dsimp only at hI ⊢;obtain⟨hi,hE,hEd,hrd⟩:=hI;refine J.qd (λ_ h2=>?_) λ_ h2=>?_
  ·simp only[d5,i5]at h2;obtain⟨x,hx,hx2⟩:=hCg i h2;obtain⟨st1,st2⟩:=b6B Q hrd hx;refine J.q λ_=>?_;refine J.v (iI x) rfl rfl (λhg aa w he hw=>I2 tk rfl rfl he rfl rfl rfl (hw.get (i:=5) rfl) (by rw[show d+(i:Int).toNat*1=d+i from by omega];exact hx2)) ?_;refine J.qp (b8R n l Q _ mm hQ1 x) [2,4] λ_=>?_;have hrl:=Dv.rd_len hQ1 x;refine J.qd (λ_ h3=>?_) λ_ h3=>?_
   ·simp only[E6,H5]at h3;have h4:=st1 h3;rw[d8 (by rw[h4];exact h3)]at hw;refine J.qr [1,2,3,4] λ_=>?_;rw[<- hw,h4];exact⟨rfl,rfl⟩
   simp only[z7]at h3;have h4:=st2 h3;refine J.q λ_=>?_;refine J.ap 6 8 0 (a0D E (Q.rd x).1) λa3 c3=>?_;rw[show E.length+1=(E++[(Q.rd x).1]).length from by simp];refine J.q λ_=>?_;refine J.n ((i+1,E++[(Q.rd x).1],a3,c3)) (⟨by dsimp only;omega,by simp[hE],λy hy=>(List.mem_append.1 hy).elim (hEd y) (λhy=>by rw[List.mem_singleton.1 hy];exact hrl),h4⟩) (by dsimp only;omega) [0,1,2,3,4,5,6]
  simp only[c8,i5]at h2;have hie:i=w:=by omega
  have hrd2:Q.rds C=(E,0):=by
   rw[hrd,E7 (by omega),Dv.rds];simp
  rw[hrd2,d6 (by simp)]at hw;dsimp only at hw;have htook:=λh0=>Dv.pen_took hQ1 hEd h0 (by omega);have hkeep:=Dv.pen_keep hQ1 hEd;refine J.q λ_=>?_;rw[a6Z];refine J.q λ_=>?_;refine J.ca hX (by kernel_rfl) (a3F p n t l Q _ mm hQ1 (m9 101 19 ea E.length ec (n7 E)) (oad ea) E.length ec E (Y5 101 19 ea E.length ec (n7 E)) rfl (by omega) hEd) [1,2,3,4,6] 0 rfl rfl rfl rfl rfl rfl (λ_=>rfl) ?_;refine cpq ⟨_,rfl,trivial,?_⟩;have hpb:0<=(Q.pen E).2.1/\(Q.pen E).2.1<=7:=a4M _ _ _;generalize Q.pen E=W at hw htook hkeep hpb ⊢;obtain⟨P,nn,er⟩:=W;dsimp only at hw htook hkeep hpb ⊢;refine J.qd (λ_ h5=>?_) λ_ h5=>?_
  ·simp only[E6,H5]at h5;rw[d8 h5]at hw;refine J.qr [1,2,3,4] λ_=>?_;rw[<- hw];exact⟨rfl,rfl⟩
  ·simp only[z7]at h5;rw[d6 (by rw[h5];decide)]at hw;have htk:=htook h5;obtain⟨v,rfl⟩:=f9 hpb.1;have hEl:E.length=w:=by omega
   have hvw:v<=w:=by have:=htk.2.1;omega
   rw[C0]at hw;refine J.q λ_=>?_;refine J.n ((d+v,j,P)) (⟨by dsimp only;omega,by dsimp only;omega,hkeep.1,hw⟩) (by dsimp only;omega) [0,1,2,3,4,5]
 ·simp only[c8,i5]at h1;obtain rfl:d=u:=by omega
  have hz:(L.take d).drop d=[]:=E7 (by omega);have hw2:S.carry b most=(Q,(d:Int),0):=by
   rw[<- hw,hz];cases j with
   | zero=>rfl
   | succ j=>rw[Dv.carryGo,d8 a0P]
  refine J.qr [1,2,3,4] λ_=>?_;rw[hw2];exact⟨rfl,rfl⟩
theorem a9M (b m:Int):∀(q:List Nat) (x:Nand×Tl×Int),x.2.2≠0->q.foldl (Dv.eraseD b m) x=x
 | [],x,_=>rfl
 | d::q,x,h=>by
  have:Dv.eraseD b m x d=x:=by unfold Dv.eraseD;rw[d8 h]
  rw[A6,this];exact a9M b m q x h
theorem b1u (f:Nand×Tl×Int->Nat->Nand×Tl×Int) (x:Nand×Tl×Int) {j n:Nat} (h:j<=n):(List.range n).foldl f x=((List.range n).drop j).foldl f ((List.range j).foldl f x):=by
 conv=>lhs;rw[<- C9 j (List.range n)]
 rw[B3];congr 2;rw[List.take_range,L8 h]
theorem b6n (n t:Nat) (N:Nand) (tl:Tl) (k mm:Nat) (hG:N.Gd (6+k) mm) (hmm:mm<=1000) (hF:tl.Fit N) (b:Int):FP 117 [pp n,pp t,iI b] [B8 n N,TlA t tl]
  (Ps (iI (Dv.erase N tl b).2.2) [B8 n (Dv.erase N tl b).1,TlA t (Dv.erase N tl b).2.1]):=by
 have hbd:=hG.ok.bd16;have hb0:=hF.b;refine FE [2,3,0] Tryz.func117 λX F hX=>?_;refine J.qp (a2e t tl (by omega) hF.len b) [2] λ_=>?_;refine J.qp (a2B n N) [1] λ_=>?_;obtain⟨m,hm⟩:∃m,m=tl.mask b:=⟨_,rfl⟩;rw[<- hm];refine J.q λ_=>?_;refine J.l (α:=(Nat×Nand×Tl)) (λz=>z.1<=N.dies/\(List.range z.1).foldl (Dv.eraseD b m) (N,tl,0)=(z.2.1,z.2.2,0)/\z.2.1.Gd (6-z.1+k) mm/\z.2.2.Fit z.2.1/\N.Like z.2.1) (λz=>[si 16 z.1,si 15 N.dies,si 7 m,⟨0,pp n,2, .tt⟩,⟨1,pp t,3, .tt⟩,si 2 b]) [1,2] (λz=>[B8 n z.2.1,TlA t z.2.2]) (λz=>N.dies-z.1) ((0,N,tl)) (⟨j7 _,rfl,hG,hF,Nand.Like.refl _⟩) λz hI=>?_;obtain⟨d,P,T⟩:=z;dsimp only at hI ⊢;obtain⟨hd,hfo,hP,hT,hlk⟩:=hI;have hTb:T.b<=1000:=by have:=hT.b;have:=hlk.blocks;omega
 refine J.qd (λ_ h1=>?_) λ_ h1=>?_
 ·simp only[d5,i5]at h1;have hsucc:(List.range (d+1)).foldl (Dv.eraseD b m) (N,tl,0)=Dv.eraseD b m (P,T,0) d:=by rw[s9,B3,hfo];rfl
  have hP1:P.Gd (1+(6-(d+1)+k)) mm:=hP.less (by omega) (i7 _);have hk:=Dv.eraseD_keep (k:=6-(d+1)+k) (m:=mm) b m (P,T,0) d hP1 hT;refine J.qp (a9C m d) [] λ_=>?_;refine J.qd (λ_ h2=>?_) λ_ h2=>?_
  ·simp only[i4]at h2;have hz:Dv.eraseD b m (P,T,0) d=(P,T,0):=by unfold Dv.eraseD;rw[d6 (by simp),d8 h2]
   refine J.q λ_=>?_;refine J.n ((d+1,P,T)) (⟨by dsimp only;omega,hsucc.trans hz,hP.less (by dsimp only;omega) (i7 _),hT,hlk⟩) (by dsimp only;omega) [0,1,2]
  simp only[A9]at h2;have hz:Dv.eraseD b m (P,T,0) d=(P.eraseN d b,if P.eraseE d b=0 then T else if P.eraseE d b=9 then T else if P.eraseE d b=8 then T.die d else T.bad d b,if P.eraseE d b=9 then 9 else 0):=by
   unfold Dv.eraseD;rw[d6 (by simp),d6 (by rw[h2];decide)]
  rw[hz]at hsucc hk;refine J.qp (b3K n P hP.ok hP1.room hP.nodup (by have:=hP.few;omega) d b) [1] λ_=>?_;generalize P.eraseE d b=e at hsucc hk;refine J.qd (λ_ h3=>?_) λ_ h3=>?_
  ·simp only[A4]at h3;rw[d8 h3,d6 (by omega)]at hsucc;rw[d8 h3]at hk;refine J.q λ_=>?_;refine J.n ((d+1,P.eraseN d b,T)) (⟨by dsimp only;omega,hsucc,hk.1,hT.like hk.2.2,hlk.trans hk.2.2⟩) (by dsimp only;omega) [0,1,2]
  simp only[l8,H5]at h3;rw[d6 h3]at hsucc hk;refine J.qd (λ_ h4=>?_) λ_ h4=>?_
  ·simp only[A4]at h4;rw[d8 h4,d8 h4]at hsucc;have hall:Dv.eraseB N tl b=(P.eraseN d b,T,9):=by
    unfold Dv.eraseB;rw[<- hm,b1u _ _ (show d+1<=N.dies by omega),hsucc];exact a9M b m _ _ (by simp)
   refine J.qr [1,2] λ_=>?_;unfold Dv.erase;rw[hall];exact⟨rfl,rfl⟩
  simp only[l8,H5]at h4;rw[d6 h4,d6 h4]at hsucc;rw[d6 h4]at hk;refine J.qd (λ_ h5=>?_) λ_ h5=>?_
  ·simp only[A4]at h5;rw[d8 h5]at hsucc hk;refine J.qp (a4S t T d) [2] λ_=>?_;refine J.q λ_=>?_;refine J.n ((d+1,P.eraseN d b,T.die d)) (⟨by dsimp only;omega,hsucc,hk.1,(hT.die d).like hk.2.2,hlk.trans hk.2.2⟩) (by dsimp only;omega) [0,1,2]
  simp only[l8,H5]at h5;rw[d6 h5]at hsucc hk;refine J.qp (b2z t T hTb hT.len d b) [2] λ_=>?_;refine J.q λ_=>?_;refine J.n ((d+1,P.eraseN d b,T.bad d b)) (⟨by dsimp only;omega,hsucc,hk.1,(hT.bad d b).like hk.2.2,hlk.trans hk.2.2⟩) (by dsimp only;omega) [0,1,2]
 simp only[c8,i5]at h1;obtain rfl:d=N.dies:=by omega
 have hall:Dv.eraseB N tl b=(P,T,0):=by unfold Dv.eraseB;rw[<- hm];exact hfo
 have hres:Dv.erase N tl b=(P,Dv.eraseT P T b,0):=by unfold Dv.erase;rw[hall];rfl
 refine J.qp (a2B n P) [1] λ_=>?_;refine J.q λ_=>?_;refine J.l (α:=(Nat×Tl)) (λz=>z.1<=P.dies/\(List.range z.1).foldl (λt (d:Nat)=>t.wore b (P.wornAt d b)) T=z.2/\z.2.Fit P) (λz=>[si 44 z.1,si 43 P.dies,⟨0,pp n,2, .tt⟩,⟨1,pp t,3, .tt⟩,si 2 b]) [2] (λz=>[TlA t z.2]) (λz=>P.dies-z.1) ((0,T)) (⟨j7 _,rfl,hT⟩) λz hI=>?_;clear hfo hT hTb hall;obtain⟨d,U⟩:=z;dsimp only at hI ⊢;obtain⟨hd2,hfo,hU⟩:=hI;have hUb:U.b<=1000:=by have:=hU.b;have:=hlk.blocks;omega
 have hPd:P.dies<=6:=by have:=hlk.dies;omega
 refine J.qd (λ_ h1=>?_) λ_ h1=>?_
 ·simp only[d5,i5]at h1;refine J.qp (b2O n P hP.ok d b) [1] λ_=>?_;refine J.qp (b0i t U hUb hU.len b (P.wornAt d b)) [2] λ_=>?_;refine J.q λ_=>?_;refine J.n ((d+1,U.wore b (P.wornAt d b))) (⟨by dsimp only;omega,by dsimp only;rw[s9,B3,hfo];rfl,hU.wore _ _⟩) (by dsimp only;omega) [0,1,2]
 simp only[c8,i5]at h1;obtain rfl:d=P.dies:=by omega
 have hU2:U=Dv.wores P T b:=hfo.symm;refine J.qp (a3Y t U hUb hU.len b) [2] λ_=>?_;refine J.qd (λ_ h2=>?_) λ_ h2=>?_
 ·refine J.qp (a7s t U hUb hU.len b true) [2] λ_=>?_;refine J.qr [1,2] λ_=>?_;rw[hres];unfold Dv.eraseT;rw[<- hU2,d8 h2];exact⟨rfl,rfl⟩
 ·refine J.qr [1,2] λ_=>?_;rw[hres];unfold Dv.eraseT;rw[<- hU2,d6 (by rw[h2];decide)];exact⟨rfl,rfl⟩
theorem a4W (n t l:Nat) (N:Nand) (tl:Tl) (T:Tb) (k mm:Nat) (hG:N.Gd (96+k) mm) (hmm:mm<=1000) (hF:tl.Fit N) (o:Int):FP 63 [pp n,pp t,pp l,iI o] [B8 n N,TlA t tl,TbA l T]
  (Ps (iI (Dv.clearX N tl T o).2.2) [B8 n (Dv.clearX N tl T o).1,TlA t (Dv.clearX N tl T o).2.1,TbA l T]):=by
 have hbd:=hG.ok.bd16;have hb0:=hF.b;have hlen:=a0q (C3 tl T) o tl.b;refine FE [2,3,4,0] Tryz.func63 λX F hX=>?_;refine J.qF λ_=>?_;refine J.qc (b3G t tl (by omega) hF.len l T o) [2,3] λ_=>?_;rintro v As ⟨a,c,rfl,rfl⟩;refine⟨_,rfl,trivial,?_⟩;obtain⟨L,hL⟩:∃L,L=o0 (C3 tl T) o tl.b:=⟨_,rfl⟩;have hX2:Dv.clearX N tl T o=Dv.clearGo L N tl:=by unfold Dv.clearX;rw[hL]
 rw[<- hL]at hlen ⊢;refine J.q λ_=>?_;refine J.l (α:=(Nat×Nand×Tl)) (λz=>z.1<=L.length/\Dv.clearGo (L.drop z.1) z.2.1 z.2.2=Dv.clearX N tl T o/\z.2.1.Gd (6*(L.length-z.1)+k) mm/\z.2.2.Fit z.2.1/\N.Like z.2.1) (λz=>[si 27 z.1,si 26 L.length,sv 25 (slv a L.length c),⟨0,pp n,2, .tt⟩,⟨1,pp t,3, .tt⟩]) [1,2] (λz=>[B8 n z.2.1,TlA t z.2.2]) (λz=>L.length-z.1) ((0,N,tl)) (⟨j7 _,by rw[hX2];rfl,hG.less (by dsimp only;omega) (i7 _),hF,Nand.Like.refl _⟩) λz hI=>?_;obtain⟨i,P,U⟩:=z;dsimp only at hI ⊢;obtain⟨hi,hgo,hP,hU,hlk⟩:=hI;refine J.qd (λ_ h1=>?_) λ_ h1=>?_
 ·simp only[d5,i5]at h1;obtain⟨x,hx⟩:∃x,L[i]? =some x:=⟨_,c9 h1⟩;have hdr:L.drop i=x::L.drop (i+1):=by
   obtain⟨h2,h3⟩:=List.getElem?_eq_some_iff.1 hx;rw[t6 h2,h3]
  rw[hdr,Dv.clearGo]at hgo;have hP1:P.Gd (6+(6*(L.length-(i+1))+k)) mm:=hP.less (by omega) (i7 _);have hk:=Dv.erase_keep hP1 hU x;refine J.know (λh' s=>D1 (c:=(a,c)) (by omega) (s.get (i:=4) rfl)) λhg=>?_;obtain⟨g,rfl⟩:=hg;refine J.q λ_=>?_;refine J.v (iI x) rfl rfl (λhg aa w he hw=>I2 tk rfl rfl he rfl rfl rfl (hw.get (i:=4) rfl) (by rw[show 0+(i:Int).toNat*1=i from by omega,A5,i9,hx];rfl)) ?_;refine J.qp (b6n n t P U _ mm hP1 hmm hU x) [1,2] λ_=>?_;generalize Dv.erase P U x=W at hgo hk ⊢;obtain⟨P',U',er⟩:=W;dsimp only at hgo hk ⊢;refine J.qd (λ_ h2=>?_) λ_ h2=>?_
  ·simp only[E6,H5]at h2;rw[d8 h2]at hgo;refine J.qr [1,2,3] λ_=>?_;rw[<- hgo];exact⟨rfl,rfl⟩
  ·simp only[z7]at h2;rw[d6 (by rw[h2];decide)]at hgo;refine J.q λ_=>?_;refine J.n ((i+1,P',U')) (⟨by dsimp only;omega,hgo,hk.1,hk.2.1.like hk.2.2,hlk.trans hk.2.2⟩) (by dsimp only;omega) [0,1,2,3,4]
 ·simp only[c8,i5]at h1;rw[E7 (by omega),Dv.clearGo]at hgo;refine J.qr [1,2,3] λ_=>?_;rw[<- hgo];exact⟨rfl,rfl⟩
theorem a4V (n t l p:Nat) (S:Dv) (k mm:Nat) (hO:S.Ok (Dv.costM+k) mm) (hmm:mm<=1000):FP 65 [pp n,pp t,pp l,pp p] (DvP p n t l S)
  (Ps (iI S.room.2) (DvP p n t l S.room.1)):=by
 have hbd:=hO.gd.ok.bd16;have htb:=hO.t.b;have hC:=Dv.clear_keep (S:=S) (k:=Dv.costR*16+k) (m:=mm) (hO.less (by unfold Dv.costM;omega));refine FE [3,4,5,2] Tryz.func65 λX F hX=>?_;refine J.qF λ_=>?_;refine J.qp (a2T p n t l S) [1] λ_=>?_;refine J.q λ_=>?_;refine J.ca hX (by kernel_rfl) (a4W n t l S.N S.t S.T (Dv.costR*16+k) mm (hO.gd.less (by unfold Dv.costM;omega) (i7 _)) hmm hO.t S.op) [2,3,4] 0 rfl rfl rfl rfl rfl rfl (λ_=>rfl) ?_;refine cpq ⟨_,rfl,trivial,?_⟩;have hroom:S.room=if S.clear.2≠0 then S.clear else Dv.roomGo S.t.b S.clear.1:=rfl
 refine J.qd (λ_ h1=>?_) λ_ h1=>?_
 ·simp only[E6,H5]at h1;have h1:S.clear.2≠0:=h1;rw[d8 h1]at hroom;refine J.qr [1,2,3,4] λ_=>?_;rw[hroom];exact⟨rfl,rfl⟩
 simp only[z7]at h1;have h1:S.clear.2=0:=h1;rw[d6 (by rw[h1];decide)]at hroom;have hB:S.clear.1.t.b=S.t.b:=by have:=hC.1.t.b;have:=hC.2.1.blocks;omega
 refine J.qp (a7r t S.clear.1.t) [3] λ_=>?_;rw[hB];refine J.q λ_=>?_;refine J.l (α:=(Nat×Dv)) (λz=>z.1<=S.t.b/\Dv.roomGo (S.t.b-z.1) z.2=S.room/\z.2.Ok (Dv.costR*(S.t.b-z.1)+k) mm) (λz=>[si 40 z.1,si 39 S.t.b,⟨0,pp n,3, .tt⟩,⟨1,pp t,4, .tt⟩,⟨2,pp l,5, .tt⟩,⟨3,pp p,2, .tt⟩]) [1,2,3,4] (λz=>DvP p n t l z.2) (λz=>S.t.b-z.1) ((0,S.clear.1)) (⟨j7 _,hroom.symm,hC.1.less (by dsimp only;have:Dv.costR*(S.t.b-0)<=Dv.costR*16:=y9 _ (by omega);omega)⟩) λz hI=>?_;obtain⟨i,Q⟩:=z;dsimp only at hI ⊢;obtain⟨hi,hgo,hQ⟩:=hI;have hQb:=hQ.gd.ok.bd16;have hQt:=hQ.t.b;have hQp:=hQ.t.p;have hlb:=hQ.t.len;refine J.qd (λ_ h2=>?_) λ_ h2=>?_
 ·simp only[d5,i5]at h2;obtain⟨j,hj⟩:∃j,S.t.b-i=j+1:=⟨S.t.b-i-1,by omega⟩;have hj1:S.t.b-(i+1)=j:=by omega
  rw[hj,Dv.roomGo]at hgo;rw[hj]at hQ;refine J.qp (a2T p n t l Q) [1] λ_=>?_;refine J.qp (b6M t Q.t (by omega) hlb l Q.T Q.op) [3,4] λ_=>?_;refine J.qd (λ_ h3=>?_) λ_ h3=>?_
  ·simp only[d5]at h3;have h3:(Q.free:Int)>4:=h3;rw[d8 h3]at hgo;refine J.qr [1,2,3,4] λ_=>?_;rw[<- hgo];exact⟨rfl,rfl⟩
  simp only[c8]at h3;have h3:¬(Q.free:Int)>4:=h3;rw[d6 h3]at hgo;refine J.qp (a2T p n t l Q) [1] λ_=>?_;refine J.qp (b1D t Q.t (by omega) hlb l Q.T Q.op) [3,4] λ_=>?_;rw[show a0o (λx y=>orI [Q9 (Q.T.count x) (Q.T.count y),Q9 (Q.t.wear x) (Q.t.wear y)]) (o0 (O2 Q.t Q.T) Q.op Q.t.b)=Q.victim from rfl];obtain⟨vv,hvv⟩:∃v,v=Q.victim:=⟨_,rfl⟩;rw[<- hvv]at hgo ⊢;refine J.qn 7 λ_=>?_;cases h4:decide (vv<0)with
  | true=>
   have h4':vv<0:=by simpa using h4
   rw[d8 (.inl h4')]at hgo;refine J.q λ_=>?_;refine J.v (iI 0) rfl rfl (λhg a w he hs=>absurd hg (by simp[G.on])) ?_;refine J.q λ_=>?_;refine J.v (.agg #[iI 0,iI 0,iI 0]) rfl rfl (λhg a w he hs=>absurd hg (by simp[G.on])) ?_;refine J.q λ_=>?_;refine J.v (iI 0) rfl rfl (λhg a w he hs=>absurd hg (by simp[G.on])) ?_;refine J.q λ_=>?_;refine J.v (iI 0) rfl rfl (λhg a w he hs=>absurd hg (by simp[G.on])) ?_;refine J.qT λ_=>?_;refine J.qr [1,2,3,4] λ_=>?_;rw[<- hgo];exact⟨rfl,rfl⟩
  | false=>
   have h4':¬vv<0:=by simpa using h4
   have hsb:=Dv.slots_le (Q.t.mask vv);have hmul:0<=(Q.t.p:Int)*G.slots (Q.t.mask vv)/\(Q.t.p:Int)*G.slots (Q.t.mask vv)<=8*7:=⟨a5F (by omega) hsb.1,a5G (by omega) hsb.2 hsb.1 (by omega)⟩;refine J.qp (a0k l Q.T vv) [4] λ_=>?_;refine J.qp (a7r t Q.t) [3] λ_=>?_;refine J.qp (a2e t Q.t (by omega) hlb vv) [3] λ_=>?_;refine J.qp (a1i (Q.t.mask vv)) [] λ_=>?_;refine J.qd (λ_ h5=>?_) λ_ h5=>?_
   ·have h5':Q.T.count vv>=Q.t.p*G.slots (Q.t.mask vv):=by simpa using h5
    rw[d8 (.inr h5')]at hgo;refine J.qr [1,2,3,4] λ_=>?_;rw[<- hgo];exact⟨rfl,rfl⟩
   have h5':¬Q.T.count vv>=Q.t.p*G.slots (Q.t.mask vv):=by simpa using h5
   rw[d6 (by rintro(e | e)<;>contradiction)]at hgo;dsimp only at hgo;have hQ1:Q.Ok (Dv.costC+(96+(Dv.costR*j+k))) mm:=hQ.less (by unfold Dv.costR;rw[H3];omega);have hc:=Dv.carry_keep hQ1 vv (Q.T.count vv);refine J.qp (a0k l Q.T vv) [4] λ_=>?_;refine J.qp (a7w n t l p Q _ mm hQ1 vv (Q.T.count vv)) [1,2,3,4] λ_=>?_;generalize Q.carry vv (Q.T.count vv)=W at hgo hc ⊢;obtain⟨P,cn,er⟩:=W;dsimp only at hgo hc ⊢;refine J.qd (λ_ h6=>?_) λ_ h6=>?_
   ·simp only[E6,H5]at h6;rw[d8 h6]at hgo;refine J.qr [1,2,3,4] λ_=>?_;rw[<- hgo];exact⟨rfl,rfl⟩
   simp only[z7]at h6;rw[d6 (by rw[h6];decide)]at hgo;have hcl:=Dv.clear_keep hc.1;refine J.qp (a2T p n t l P) [1] λ_=>?_;refine J.qp (a4W n t l P.N P.t P.T (Dv.costR*j+k) mm hc.1.gd hmm hc.1.t P.op) [2,3,4] λ_=>?_;refine J.qd (λ_ h7=>?_) λ_ h7=>?_
   ·simp only[E6,H5]at h7;have h7:P.clear.2≠0:=h7;rw[d8 h7]at hgo;refine J.qr [1,2,3,4] λ_=>?_;rw[<- hgo];exact⟨rfl,rfl⟩
   ·simp only[z7]at h7;have h7:P.clear.2=0:=h7;rw[d6 (by rw[h7];decide)]at hgo;refine J.q λ_=>?_;refine J.n ((i+1,P.clear.1)) (⟨by dsimp only;omega,by dsimp only;rw[hj1];exact hgo,by dsimp only;rw[hj1];exact hcl.1⟩) (by dsimp only;omega) [0,1,2,3,4]
 ·simp only[c8,i5]at h2;have hz:S.t.b-i=0:=by omega
  rw[hz,Dv.roomGo]at hgo;refine J.qr [1,2,3,4] λ_=>?_;rw[<- hgo];exact⟨rfl,rfl⟩
theorem a8L (l:List Int) (f:Int->Int) (i:Nat) (x:Int) (h:l[i]? =some x):((l.take (i+1)).map f).sum=((l.take i).map f).sum+f x:=by
 rw[D3,h,K7,t7,List.sum_append];simp
theorem c0F (l:List Int) (f:Int->Int) (c:Int) (hc:0<=c) (hf:∀x,0<=f x/\f x<=c):0<=(l.map f).sum/\(l.map f).sum<=c*l.length:=by
 induction l with
 | nil=>simp
 | cons x l ih=>
  have:=hf x;simp only[n4,a1X,l5,a2b,Int.mul_add];omega
theorem b3M (t l:Nat) (S:Dv) (k mm:Nat) (hO:S.Ok k mm):FP 80 [pp t,pp l] [TlA t S.t,TbA l S.T]
  (Ps (iI S.leftN) [TlA t S.t,TbA l S.T]):=by
 have hbd:=hO.gd.ok.bd16;have htb:=hO.t.b;have hlog:=hO.T.log;obtain⟨L,hL⟩:∃L,L=S.hurts:=⟨_,rfl⟩;have hLl:L.length<=16:=by have:=a0q (a1I S.t S.T) (-1) S.t.b;rw[hL];unfold Dv.hurts;omega
 have hs:=λi=>c0F (L.take i) S.T.count 1000000 (by omega) (λx=>hO.T.bd x);refine FE [2,3] Tryz.func80 λX F hX=>?_;refine J.qc (b2K t S.t (by omega) hO.t.len l S.T S.T.logical.toNat (by omega) (by omega)) [1,2] λ_=>?_;rintro v As ⟨a,c,rfl,rfl⟩;refine⟨_,rfl,trivial,?_⟩;rw[show o0 (a1I S.t S.T) (-1) S.t.b=L from hL.symm];refine J.q λ_=>?_;refine J.l (α:=Nat) (λi=>i<=L.length) (λi=>[si 12 i,si 11 L.length,sv 10 (slv a L.length c),⟨5,iI ((L.take i).map S.T.count).sum,0, .tt⟩,⟨1,pp l,3, .tt⟩]) [] (λi=>[]) (λi=>L.length-i) (0) (j7 _) λi hI=>?_;have hsi:=hs i;have htl:((L.take i).length:Int)<=16:=by rw[j9];omega
 refine J.qd (λ_ h1=>?_) λ_ h1=>?_
 ·simp only[d5,i5]at h1;obtain⟨x,hx⟩:∃x,L[i]? =some x:=⟨_,c9 h1⟩;have hxb:=hO.T.bd x;have hsu:=a8L L S.T.count i x hx;refine J.know (λh' s=>D1 (c:=(a,c)) (by omega) (s.get (i:=3) rfl)) λhg=>?_;obtain⟨g,rfl⟩:=hg;refine J.q λ_=>?_;refine J.v (iI x) rfl rfl (λhg aa w he hw=>I2 tk rfl rfl he rfl rfl rfl (hw.get (i:=3) rfl) (by rw[show 0+(i:Int).toNat*1=i from by omega,A5,i9,hx];rfl)) ?_;refine J.qp (a0k l S.T x) [2] λ_=>?_;refine J.q λ_=>?_;rw[<- hsu];refine J.q λ_=>?_;refine J.n (i+1) (by omega) (by omega) [0,1,2,3]
 ·simp only[c8,i5]at h1;refine J.qr [1,2] λ_=>?_;rw[B1 (by omega),hL];exact⟨rfl,rfl⟩
theorem b3L (n t l p:Nat) (S:Dv) (k mm:Nat) (hO:S.Ok (Dv.costS+k) mm) (hmm:mm<=1000) (most:Int):FP 55 [pp n,pp t,pp l,pp p,iI most] (DvP p n t l S)
  (Ps (.tuple #[iI (S.step most).2.1,iI (S.step most).2.2]) (DvP p n t l (S.step most).1)):=by
 have hbd:=hO.gd.ok.bd16;have htd:=hO.t.d;have htb:=hO.t.b;refine FE [3,4,5,2,0] Tryz.func55 λX F hX=>?_;refine J.qp (a7r t S.t) [3] λ_=>?_;refine J.q λ_=>?_;refine J.l (α:=(Nat×Tl)) (λz=>z.1<=S.t.d/\(List.range z.1).foldl (λt (d:Nat)=>if S.N.deadAt d then t.die d else t) S.t=z.2/\z.2.Fit S.N) (λz=>[si 18 z.1,si 17 S.t.d,⟨0,pp n,3, .tt⟩,⟨1,pp t,4, .tt⟩,⟨2,pp l,5, .tt⟩,⟨3,pp p,2, .tt⟩,si 4 most]) [3] (λz=>[TlA t z.2]) (λz=>S.t.d-z.1) ((0,S.t)) (⟨j7 _,rfl,hO.t⟩) λz hI=>?_;obtain⟨d,U⟩:=z;dsimp only at hI ⊢;obtain⟨hd,hfo,hU⟩:=hI;refine J.qd (λ_ h1=>?_) λ_ h1=>?_
 ·simp only[d5,i5]at h1;have hsu:(List.range (d+1)).foldl (λt (d:Nat)=>if S.N.deadAt d then t.die d else t) S.t=if S.N.deadAt d then U.die d else U:=by rw[s9,B3,hfo];rfl
  refine J.qp (a7S n S.N hO.gd.ok d) [2] λ_=>?_;refine J.qd (λ_ h2=>?_) λ_ h2=>?_
  ·rw[d8 h2]at hsu;refine J.qp (a4S t U d) [3] λ_=>?_;refine J.q λ_=>?_;refine J.n ((d+1,U.die d)) (⟨by dsimp only;omega,hsu,hU.die d⟩) (by dsimp only;omega) [0,1,2,3,4]
  ·rw[d6 (by rw[h2];decide)]at hsu;refine J.q λ_=>?_;refine J.n ((d+1,U)) (⟨by dsimp only;omega,hsu,hU⟩) (by dsimp only;omega) [0,1,2,3,4]
 simp only[c8,i5]at h1;obtain rfl:d=S.t.d:=by omega
 have hseen:S.seen={S with t:=U}:=by unfold Dv.seen Dv.seeDead;rw[hfo]
 have hO1:S.seen.Ok (Dv.costM+(Dv.costC+k)) mm:=hO.seen.less (by unfold Dv.costS;omega);have hr:=Dv.room_keep hO1;obtain⟨Q,hQ⟩:∃Q,Q=S.seen:=⟨_,rfl⟩;have hQO:Q.Ok (Dv.costM+(Dv.costC+k)) mm:=by rw[hQ];exact hO1
 have hst:S.step most=(let r:=Q.room;if r.2≠0 then(r.1,0,r.2)else match r.1.hurts with | []=>(r.1,0,0) | b::_=>r.1.carry b most):=by rw[hQ];rfl
 rw[show B8 n S.N=B8 n Q.N from by rw[hQ];rfl,show TbA l S.T=TbA l Q.T from by rw[hQ];rfl,show TlA t U=TlA t Q.t from by rw[hQ,hseen],show a1W p n t l S=a1W p n t l Q from by rw[hQ];rfl];rw[<- hQ]at hr;refine J.qp (a4V n t l p Q _ mm hQO hmm) [1,2,3,4] λ_=>?_;dsimp only at hst;generalize Q.room=W at hst hr ⊢;obtain⟨P,er⟩:=W;dsimp only at hst hr ⊢;refine J.qd (λ_ h2=>?_) λ_ h2=>?_
 ·simp only[E6,H5]at h2;rw[d8 h2]at hst;refine J.qr [1,2,3,4] λ_=>?_;rw[hst];exact⟨rfl,rfl⟩
 simp only[z7]at h2;rw[d6 (by rw[h2];decide)]at hst;have hPb:=hr.1.gd.ok.bd16;have hPt:=hr.1.t.b;have hlog:=hr.1.T.log;have hLl:=a0q (a1I P.t P.T) (-1) P.t.b;refine J.qc (b2K t P.t (by omega) hr.1.t.len l P.T P.T.logical.toNat (by omega) (by omega)) [3,4] λ_=>?_;rintro v As ⟨a,c,rfl,rfl⟩;refine⟨_,rfl,trivial,?_⟩;have hh:o0 (a1I P.t P.T) (-1) P.t.b=P.hurts:=rfl;rw[hh]at hLl ⊢;generalize P.hurts=L at hst hLl ⊢;cases L with
 | nil=>
  refine J.qT λ_=>?_;refine J.qr [1,2,3,4] λ_=>?_;rw[hst];exact⟨rfl,rfl⟩
 | cons b L=>
  refine J.know (λh' s=>D1 (c:=(a,c)) (by simp) (s.get (i:=5) rfl)) λhg=>?_;obtain⟨g,rfl⟩:=hg;refine J.q λ_=>?_;refine J.cond rfl (λh=>absurd h (by rw[A4,l5];omega)) (λ_=>?_);refine J.q λ_=>?_;refine J.v (iI b) rfl rfl (λhg aa w he hw=>I2 tk rfl rfl he rfl rfl rfl (hw.get (i:=5) rfl) rfl) ?_;dsimp only at hst;refine J.qp (a7w n t l p P _ mm hr.1 b most) [1,2,3,4] λ_=>?_;refine J.qr [1,2,3,4] λ_=>?_;rw[hst];exact⟨rfl,rfl⟩
end
section
open Go.RowKit
set_option maxRecDepth 100000 in
theorem c1C (w:World):Calls Tryz.prog 309 #[.int .i64 (-1)] w λe w'=>e= .returned (.int .u64 1)/\w=w':=by
 go_enter Tryz.func309,Tryz.ntmps309
 go_wp2
 go_ret
 exact⟨by kernel_rfl,rfl⟩
set_option maxRecDepth 100000 in
theorem c1F (w:World):Calls Tryz.prog 310 #[.int .u64 1] w λe w'=>e= .returned (.int .i64 (-1))/\w=w':=by
 go_enter Tryz.func310,Tryz.ntmps310
 go_wp2
 go_ret
 exact⟨by kernel_rfl,rfl⟩
set_option maxRecDepth 100000 in
theorem b6X (w:World):Calls Tryz.prog 311 #[.int .i64 255, .int .i64 8] w λe w'=>e= .returned (.int .i64 (-1))/\w=w':=by
 go_enter Tryz.func311,Tryz.ntmps311
 go_wp2
 go_ret
 exact⟨by kernel_rfl,rfl⟩
set_option maxRecDepth 100000 in
theorem b6W (w:World):Calls Tryz.prog 311 #[.int .i64 1, .int .i64 0] w λe w'=>e= .returned (.int .i64 0)/\w=w':=by
 go_enter Tryz.func311,Tryz.ntmps311
 go_wp2
 go_ret
 exact⟨by kernel_rfl,rfl⟩
end
section
open Go Go.RowKit
def nk (k:Nat):Nat:=match k with | 0=>0 | _+1=>1
theorem c1x (g:Nat):FP 236 [pp g, .int .u64 2,iI 1] [a5z g ([]++Bt.bits 5 3)]
  (Ps (.bool false) [a5z g ([]++Bt.bits 5 3)]):=by
 refine FE [2,0,0] Tryz.func236 λX F hX=>?_;refine J.qp (b4f 1) [] λ_=>?_;refine J.o (α:=(Option Nat×Nat)) 1 λx=>?_;refine J.qT λ_=>?_;refine J.cl (b1E g ([]++Bt.bits 5 3)) x [1,2] ?_;exact J.qx [1]
theorem c1X (g:Nat) (l:List Bool):FP 313 [pp g] [a5z g l]
  (Ps (iI l.length) [a5z g l]):=by
 refine FE [2] Tryz.func313 λX F hX=>?_;refine J.qF λ_=>?_;refine J.o (α:=(Option Nat×Nat)) 1 λx=>?_;refine J.q λ_=>?_;refine J.cl (b1E g l) x [1,2] ?_;exact J.qx [1]
theorem c1y (g b:Nat):FP 242 [pp g,iI 9] [.pt g 319 [.slice (some ⟨b,0,none⟩) 1 1,iI 4]]
  (Ps (.tuple #[.int .u64 0, .bool false]) [.pt g 319 [.slice (some ⟨b,0,none⟩) 1 1,iI 4]]):=by
 refine FE [2,0] Tryz.func242 λX F hX=>?_;refine J.qp (b4f 9) [] λ_=>?_;refine J.qp (b3k g (some ⟨b,0,none⟩) 1 1 4 (by decide) (by decide)) [1] λ_=>?_;refine J.qT λ_=>?_;exact J.qx [1]
theorem c1z (g b:Nat):FP 242 [pp g,iI 4] [.pt g 319 [.slice (some ⟨b,0,none⟩) 1 1,iI 0], .pt b 5 [.int .u8 165]]
  (Ps (.tuple #[.int .u64 10, .bool true]) [.pt g 319 [.slice (some ⟨b,0,none⟩) 1 1,iI 4], .pt b 5 [.int .u8 165]]):=by
 have:=b8p g (.pt b 5 [.int .u8 165]) (some ⟨b,0,none⟩) 1 1 [165] (a3m b _ _ 1 1 rfl) rfl (by decide) 0 4 (by decide) (by decide) (by decide);rw[show((Bt.numAt [165] 0 4:Nat):Int)=10 from by decide+kernel]at this;exact this
theorem c2c:FP 239 [.slice none 0 0] [] (Ps (.int .u32 4294967295) []):=by
 refine FE [0] Tryz.func239 λX F hX=>?_;refine J.q λ_=>?_;refine J.l (α:=Nat) (λk=>k<=0) (λk=>[si 8 0,si 7 0,⟨3, .int .u32 4294967295,0, .tt⟩]) [] (λk=>[]) (λk=>0) (0) (j7 _) λk hI=>?_;refine J.qF λ_=>?_;exact J.qx []
theorem c1c:FP 261 [.int .u32 0, .int .u8 128] [] (Ps (.int .u32 (K.step 0 128:Nat)) []):=Fn.of_same (a9D 0 128 (by decide) (by decide))
theorem c1G:FP 309 [iI (-1)] [] (Ps (.int .u64 1) []):=Fn.of_same c1C
theorem c1H:FP 310 [.int .u64 1] [] (Ps (iI (-1)) []):=Fn.of_same c1F
theorem b4m:FP 311 [iI 255,iI 8] [] (Ps (iI (-1)) []):=Fn.of_same b6X
theorem b4l:FP 311 [iI 1,iI 0] [] (Ps (iI 0) []):=Fn.of_same b6W
theorem c0v:FP 312 [.int .u32 1,iI 33] [] (Ps (.int .u32 2) []):=by
 refine FE [0,0] Tryz.func312 λX F hX=>?_;refine J.p (.of [0,4,8,12,16,20,24,28,32]) [7,8] [] λ_=>?_;exact J.qx []
theorem b7t:FP 307 [] [] (Ps (.bool true) []):=by
 refine FE [] Tryz.func307 λX F hX=>?_;refine J.q λb1=>?_;refine J.turn1 [] rfl (As:=[m9 5 1 none 0 0 []]) (λh s=>Sep.one ⟨rfl,rfl,rfl⟩) rfl ?_;refine J.cl (b1E (b1 0) []) (none,0) [1,2] ?_;refine J.qp (b4g (b1 0) 5 3 [] (by decide) (by decide) (by decide) (by decide)) [1] λ_=>?_;refine J.qp (c1x (b1 0)) [1] λ_=>?_;refine J.q λb2=>?_;refine J.cb (b8o (some ⟨b2 0,0,none⟩) 1 1) [] ?_;rintro v As ⟨g,rfl,rfl⟩;refine⟨_,rfl,trivial,?_⟩;refine J.qp (c1z g (b2 0)) [4,3] λ_=>?_;refine J.qp (c1y g (b2 0)) [4] λ_=>?_;refine J.qc (b0Y (b1 0) ([]++Bt.bits 5 3) (by decide)) [1] λ_=>?_;rintro v As ⟨a2,c2,rfl,rfl⟩;refine⟨_,rfl,trivial,?_⟩;rw[show((([]:List Bool)++Bt.bits 5 3).length+7)/8=1 from rfl];refine J.know (λh' s=>D1 (c:=(a2,c2)) (by decide) (s.get (i:=5) rfl)) λhg=>?_;obtain⟨g2,rfl⟩:=hg;refine J.qp (c1G) [] λ_=>?_;refine J.qp (c1H) [] λ_=>?_;refine J.qp (b4m) [] λ_=>?_;refine J.qp (b4l) [] λ_=>?_;refine J.qp (c0v) [] λ_=>?_;refine J.qp (c1X (b1 0) ([]++Bt.bits 5 3)) [1] λ_=>?_;refine J.q λ_=>?_;refine J.v (.int .u8 160) rfl rfl (λhg a w he hw=>?_) ?_
 ·exact I2 tk rfl rfl he hg rfl rfl (hw.get (i:=5) rfl) (by kernel_rfl)
 refine J.qp (b3k g (some ⟨b2 0,0,none⟩) 1 1 4 (by decide) (by decide)) [4] λ_=>?_;refine J.qp (c2c) [] λ_=>?_;refine J.qp (c1c) [] λ_=>?_;refine J.qp (b1R 3) [] λ_=>?_;refine J.qp (c1a 6 0 (by decide) (by decide)) [] λ_=>?_;refine J.qp (b7n 6 2) [] λ_=>?_;refine J.qp (a5f 6) [] λ_=>?_;refine J.qr [] λ_=>?_;exact⟨by kernel_rfl,rfl⟩
theorem b7u:FP 303 [] [] (Ps (.bool true) []):=by
 refine FE [] Tryz.func303 λX F hX=>?_;refine J.qp (b7t) [] λ_=>?_;exact J.qx []
theorem a6a (d b p:Nat) (h:O8 d b p=true):FP 47 [.agg #[iI d,iI b,iI p]] [] (Ps (iI ((((b:Int)-5)*p*((d:Int)-2)+1).tdiv 2)) []):=by
 have hbd:(3<=d/\d<=6)/\(8<=b/\b<=16)/\(2<=p/\p<=8):=by simp[O8]at h;omega
 have h1:0<=((b:Int)-5)*p/\((b:Int)-5)*p<=88:=by
  refine⟨a5F (by omega) (by omega),?_⟩;have:((b:Int)-5)*p<=11*8:=a5G (by omega) (by omega) (by omega) (by omega);omega
 have h2:0<=((b:Int)-5)*p*((d:Int)-2)/\((b:Int)-5)*p*((d:Int)-2)<=352:=by
  refine⟨a5F h1.1 (by omega),?_⟩;have:((b:Int)-5)*p*((d:Int)-2)<=88*4:=a5G h1.2 (by omega) (by omega) (by omega);omega
 have h3: -1<=(((b:Int)-5)*p*((d:Int)-2)+1).tdiv 2/\(((b:Int)-5)*p*((d:Int)-2)+1).tdiv 2<=1000:=by
  generalize((b:Int)-5)*p*((d:Int)-2)=x at h2;rw[Int.tdiv_eq_ediv_of_nonneg (by omega)];omega
 refine FE [0] Tryz.func47 λX F hX=>?_;refine J.qp (a6F d b p) [] λ_=>?_;rw[h];refine J.qF λ_=>?_;exact J.qx []
theorem b7q:FP 291 [] [] (Ps (.bool true) []):=by
 refine FE [] Tryz.func291 λX F hX=>?_;refine J.qp (b7u) [] λ_=>?_;refine J.qp (a6F 3 8 2) [] λ_=>?_;rw[show O8 3 8 2=true from rfl];refine J.qp (a6F 0 0 0) [] λ_=>?_;rw[show O8 0 0 0=false from rfl];refine J.qp (b2c 3 8 2 2 7 1 (by decide) (by decide) (by decide)) [] λ_=>?_;rw[show V8 3 8 2 2 7 1=true from rfl];refine J.qp (b2c 3 8 2 3 0 0 (by decide) (by decide) (by decide)) [] λ_=>?_;rw[show V8 3 8 2 3 0 0=false from rfl];refine J.qp (a1m 7 1 1) [] λ_=>?_;rw[show G.parity 7 1 1=2 from by kernel_rfl];refine J.qp (a1i 7) [] λ_=>?_;rw[show G.slots 7=2 from by kernel_rfl];refine J.qp (b3V 7 0 0 0 (by decide) (by decide)) [] λ_=>?_;rw[show G.die 7 0 0 0=1 from by kernel_rfl];refine J.qp (b7T 7 0 0 2) [] λ_=>?_;rw[show G.slot 7 0 0 2=1 from by kernel_rfl];refine J.qp (b7T 7 0 0 0) [] λ_=>?_;rw[show G.slot 7 0 0 0= -1 from by kernel_rfl];refine J.qp (a6a 3 8 2 rfl) [] λ_=>?_;refine J.qr [] λ_=>?_;exact⟨by kernel_rfl,rfl⟩
theorem b1U:FP 283 [] [] (Ps (.bool true) []):=by
 refine FE [] Tryz.func283 λX F hX=>?_;refine J.qp (b7q) [] λ_=>?_;exact J.qx []
def ft (a k d n x:Int):List Value:=[iI a,iI k,iI d,iI 0,iI 0,iI n,iI x]
theorem c0H:FP 132 [.agg #[iI 3,iI 8,iI 2], .agg (ft 3 4 2 0 0).toArray] [] (Ps (.bool true) []):=by
 refine FE [0,0] Tryz.func132 λX F hX=>?_;refine J.qT λ_=>?_;refine J.qp (b2c 3 8 2 2 0 0 (by decide) (by decide) (by decide)) [] λ_=>?_;exact J.qx []
theorem c0G:FP 132 [.agg #[iI 3,iI 8,iI 2], .agg (ft (-1) 0 0 0 0).toArray] [] (Ps (.bool false) []):=by
 refine FE [0,0] Tryz.func132 λX F hX=>?_;refine J.qT λ_=>?_;refine J.q λ_=>?_;refine J.v (.bool false) rfl rfl (λhg a w he hw=>absurd hg (by decide)) ?_;exact J.qx []
theorem b9b (a:Option Addr) (c:Nat) (d:Value):FP 231 [.slice a 1 c,iI 0,iI 1,d] [] (Ps (.tuple #[]) []):=by
 refine FE [0,0,0,0] Tryz.func231 λX F hX=>?_;refine J.q λ_=>?_;refine J.l (α:=Nat) (λk=>True) (λk=>[si 8 1,si 2 1]) [] (λk=>[]) (λk=>0) (0) (trivial) λk hI=>?_;refine J.qF λ_=>?_;refine J.q λ_=>?_;refine J.f [] ?_;exact⟨rfl,rfl⟩
theorem b6D (a:Option Addr) (c:Nat) (d:Value):FP 193 [.slice a 1 c,iI 1,d] [] (Ps (.tuple #[]) []):=by
 refine FE [0,0,0] Tryz.func193 λX F hX=>?_;refine J.q λ_=>?_;refine J.l (α:=Nat) (λk=>True) (λk=>[si 8 20,si 6 20,si 7 0,sv 0 (.slice a 1 c),si 1 1,sv 2 d]) [] (λk=>[]) (λk=>0) (0) (trivial) λk hI=>?_;refine J.qF λ_=>?_;refine J.qp (b9b a c d) [] λ_=>?_;refine J.q λ_=>?_;refine J.l (α:=Nat) (λk=>True) (λk=>[si 6 20,si 1 1]) [] (λk=>[]) (λk=>0) (0) (trivial) λk hI=>?_;refine J.qF λ_=>?_;refine J.q λ_=>?_;refine J.f [] ?_;exact⟨rfl,rfl⟩
theorem b0w (a:Option Addr) (c:Nat) (d:Value):FP 133 [.slice a 1 c,d] [] (Ps (.tuple #[]) []):=by
 refine FE [0,0] Tryz.func133 λX F hX=>?_;refine J.qp (b6D a c d) [] λ_=>?_;refine J.q λ_=>?_;refine J.f [] ?_;exact⟨rfl,rfl⟩
def fk (k:Nat):List Value:=match k with | 0=>[] | _=>ft 3 4 2 0 0
theorem c1S (g:Nat):FP 85 [.agg #[iI 3,iI 8,iI 2], .slice (some ⟨g,0,none⟩) 2 2] [.pt g 41 (ft 3 4 2 0 0++ft (-1) 0 0 0 0)]
  (λv As=>∃p a c,v=pp p/\As=[.pt p 218 [slv a 1 c],m9 41 7 a 1 c (ft 3 4 2 0 0)]):=by
 refine FE [0,2] Tryz.func85 λX F hX=>?_;refine J.q λbb=>?_;refine J.turn1 [] rfl (As:=[m9 41 7 none 0 0 (fk 0)]) (λh s=>Sep.one ⟨rfl,rfl,rfl⟩) rfl ?_;refine J.q λ_=>?_;refine J.l (α:=(Nat×Option Nat×Nat)) (λz=>z.1<=2) (λz=>[si 12 z.1,si 11 2,⟨10, .slice (some ⟨g,0,none⟩) 2 2,2, .tt⟩,⟨2,pp (bb 0),3, .tt⟩,⟨5,pp (bb 1),4, .tt⟩]) [3,4] (λz=>[.pt (bb 1) 218 [slv z.2.1 (nk z.1) z.2.2],m9 41 7 z.2.1 (nk z.1) z.2.2 (fk z.1)]) (λz=>2-z.1) ((0,none,0)) (j7 _) λz hI=>?_;obtain⟨k,a,c⟩:=z;dsimp only at hI ⊢;rcases(by omega:k=0\/k=1\/k=2)with rfl | rfl | rfl
 ·refine J.qT λ_=>?_;refine J.q λ_=>?_;refine J.v (.agg (ft 3 4 2 0 0).toArray) rfl rfl (λhg a w he hw=>H9 tk rfl rfl he rfl rfl rfl (hw.get (i:=1) rfl) rfl rfl) ?_;refine J.qp (c0H) [] λ_=>?_;refine J.qT λ_=>?_;refine J.pq (.of [0,4,8,12,17,21,26,30,32,36,43]) [8,9,10] [3,5] λ_ _=>?_;refine J.append hX tk 4 6 0 rfl rfl rfl rfl rfl rfl rfl rfl rfl rfl rfl rfl rfl rfl rfl rfl (by decide) (by decide) (λ_=>rfl) λa2 c2=>⟨_,rfl,⟨rfl,rfl,trivial⟩,?_⟩;refine J.q λ_=>?_;refine J.n ((1,a2,c2)) (by dsimp only;omega) (by dsimp only;omega) [0,1,2,3,4]
 ·refine J.qT λ_=>?_;refine J.q λ_=>?_;refine J.v (.agg (ft (-1) 0 0 0 0).toArray) rfl rfl (λhg a w he hw=>H9 tk rfl rfl he rfl rfl rfl (hw.get (i:=1) rfl) rfl rfl) ?_;refine J.qp (c0G) [] λ_=>?_;refine J.qF λ_=>?_;refine J.q λ_=>?_;refine J.n ((2,a,c)) (by dsimp only;omega) (by dsimp only;omega) [0,1,2,3,4]
 ·refine J.qF λ_=>?_;refine J.qp (b0w (oad a) c (.func (.func 134) #[] #[])) [] λ_=>?_;refine J.qr [3,4] λ_=>?_;exact⟨bb 1,a,c,rfl,rfl⟩
theorem c0I (p:Nat) (a:Option Addr) (n c:Nat):FP 284 [pp p] [.pt p 218 [.slice a n c]] (Ps (iI n) [.pt p 218 [.slice a n c]]):=by
 refine FE [2] Tryz.func284 λX F hX=>?_;refine J.qF λ_=>?_;exact J.qx [1]
theorem c0J (g:Nat):FP 285 [.slice (some ⟨g,0,none⟩) 1 1] [.pt g 41 (ft 0 0 2 0 0)] (Ps (iI 4) []):=by
 refine FE [2] Tryz.func285 λX F hX=>?_;refine J.q λ_=>?_;refine J.l (α:=Nat) (λk=>k<=1) (λk=>[si 8 k,si 7 1,⟨6, .slice (some ⟨g,0,none⟩) 1 1,2, .tt⟩,si 3 (4*k)]) [] (λk=>[]) (λk=>1-k) (0) (j7 _) λk hI=>?_;rcases(by omega:k=0\/k=1)with rfl | rfl
 ·refine J.qT λ_=>?_;refine J.q λ_=>?_;refine J.v (.agg (ft 0 0 2 0 0).toArray) rfl rfl (λhg a w he hw=>H9 tk rfl rfl he rfl rfl rfl (hw.get (i:=1) rfl) rfl rfl) ?_;refine J.qp (b0H 0 2) [] λ_=>?_;refine J.q λ_=>?_;refine J.n (1) (by omega) (by omega) [0,1]
 ·refine J.qF λ_=>?_;exact J.qx []
theorem b9c (g c:Nat):FP 195 [slv (some g) 1 c] [m9 41 7 (some g) 1 c (ft 3 4 2 0 0)]
  (λv As=>∃a' c',v=slv a' 1 c'/\As=[m9 41 7 (some g) 1 c (ft 3 4 2 0 0),m9 41 7 a' 1 c' (ft 3 4 2 0 0)]):=by
 refine FE [0] Tryz.func195 λX F hX=>?_;refine J.qF λ_=>?_;refine J.qn 5 λbb=>?_;refine J.closeOwn (e:=41) (size:=7) (n:=0) (cap:=0) (xs:=[]) 2 rfl rfl rfl (i7 _) (j7 _) rfl rfl rfl ?_;refine J.q λ_=>?_;refine J.appendR hX tk (a:=some (bb 0)) (n:=0) (cap:=0) (xs:=[]) (oo:=0) (Ay:=m9 41 7 (some g) 1 c (ft 3 4 2 0 0)) 2 1 0 rfl rfl rfl rfl rfl rfl rfl rfl rfl rfl (Y5 _ _ (some g) _ _ _) rfl rfl rfl rfl (by decide) (by decide) (by decide) (λ_=>rfl) λa' c'=>⟨_,rfl,trivial,?_⟩;refine J.qr [1,2] λ_=>?_;exact⟨a',c',rfl,rfl⟩
theorem c1T (p g c:Nat):FP 136 [pp p,iI 3] [.pt p 218 [slv (some g) 1 c],m9 41 7 (some g) 1 c (ft 3 4 2 0 0)]
  (λv As=>∃x a' c',v=slv a' 1 c'/\As=[.pt p 218 [x],m9 41 7 (some g) 1 c (ft 3 4 2 0 0),m9 41 7 a' 1 c' (ft 3 4 2 0 0)]):=by
 refine FE [2,0] Tryz.func136 λX F hX=>?_;refine J.know (p:=1<=c) (λh' s=>by obtain⟨_,cur,h1,h2,_⟩:=s.get (i:=2) rfl;exact h2) λhc=>?_;refine J.qF λ_=>?_;refine J.q λ_=>?_;refine J.l (α:=Nat) (λk=>k<=1) (λk=>[si 5 k,⟨0,pp p,2, .tt⟩,si 1 3]) [] (λk=>[]) (λk=>1-k) (0) (j7 _) λk hI=>?_;rcases(by omega:k=0\/k=1)with rfl | rfl
 ·refine J.q λ_=>?_;refine J.v (iI 3) rfl rfl (λhg a w he hw=>I2 tk rfl rfl he hg rfl rfl (hw.get (i:=2) rfl) rfl) ?_;refine J.qT λ_=>?_;refine J.q λ_=>?_;refine J.n (1) (by omega) (by omega) [0,1,2]
 ·refine J.q λ_=>?_;refine J.v (iI 3) rfl rfl (λhg a w he hw=>absurd hg (by decide)) ?_;refine J.qF λ_=>?_;refine J.qc (b9c g c) [2] λ_=>?_;rintro v As ⟨a',c',rfl,rfl⟩;refine⟨_,rfl,trivial,?_⟩;refine J.qn 10 λ_=>?_;refine J.v (.slice (if c=1 then some ⟨g,0,none⟩else some ⟨g,7,none⟩) 0 (c-1)) rfl rfl (λhg a w he hw=>?_) ?_
  ·have e1:=C5 he (x:= .tmp 41) (s:=sv 41 (slv (some g) 1 c)) rfl;have e2:=C5 he (x:= .tmp 42) (s:=⟨42,iI ((1:Nat):Int),0, .tt⟩) rfl;simp only[Slot.val,G.on]at e1 e2;obtain⟨d,f,zv,ok⟩:=B4 (tk.get (t:=25) rfl);obtain⟨fe,rfl,g1,g2⟩:=ok.slice rfl;simp only[execOp,C6,O3,e1,e2,slv,Instr.sliceAt,Instr.slice,Instr.sliceBounds,Instr.sliceBound,asIntOf,Sem.run_bind,Sem.run_pure,Result.andThen_ok,s8 ok.hd,J0 g1,g2]
   by_cases h:c=1
   ·subst h;simp
   ·simp[h,Addr.add_none]
  refine J.qr [1,2,3] λ_=>?_;exact⟨_,a',c',rfl,rfl⟩
theorem c1R (p g c q:Nat) (N:Nand) (hN:N.Ok) (ho:N.ops=3):FP 86 [pp p,pp q] [.pt p 218 [slv (some g) 1 c],m9 41 7 (some g) 1 c (ft 3 4 2 0 0),B8 q N]
  (Ps (iI 1) [.emp, .emp,B8 q (N.fault 4 2 0 0 0 0).2]):=by
 refine FE [2,0] Tryz.func86 λX F hX=>?_;refine J.qp (b6Y q N) [3] λ_=>?_;rw[ho];refine J.qc (c1T p g c) [1,2] λ_=>?_;rintro v As ⟨x,a',c',rfl,rfl⟩;refine⟨_,rfl,trivial,?_⟩;refine J.know (λh' s=>D1 (c:=(a',c')) (by decide) (s.get (i:=4) rfl)) λhg=>?_;obtain⟨g',rfl⟩:=hg;refine J.q λ_=>?_;refine J.l (α:=Nat) (λk=>k<=1) (λk=>[si 14 k,si 13 1,sv 12 (slv (some g') 1 c'),sv 5 (slv (some g') 1 c'),sp 1 q]) [3] (λk=>[B8 q (if k=0 then N else(N.fault 4 2 0 0 0 0).2)]) (λk=>1-k) (0) (j7 _) λk hI=>?_;rcases(by omega:k=0\/k=1)with rfl | rfl
 ·refine J.qT λ_=>?_;refine J.q λ_=>?_;refine J.v (.agg (ft 3 4 2 0 0).toArray) rfl rfl (λhg a w he hw=>J8 tk rfl rfl he rfl rfl rfl (hw.get (i:=4) rfl) rfl rfl) ?_;refine J.qp (a4c q N hN 3 4 2 0 0 0 0) [3] λ_=>?_;refine J.q λ_=>?_;refine J.n (1) (by omega) (by omega) [0,1,2,3,4]
 ·refine J.qF λ_=>?_;refine J.turn1 [1,2] rfl (As:=[.emp, .emp]) (λh s=>⟨λ_=>0,λi A hA=>by
   match i,hA with
   | 0,hA=>simp at hA;subst hA;trivial
   | 1,hA=>simp at hA;subst hA;trivial
   | k+2,hA=>simp at hA⟩) rfl ?_
  exact J.qx [1,2,3]
def SpS (q:Nat) (l:List (A3×Value)):Atom:=exA λmr:Nat=>[.pt q 351 [.map (some mr)],U8 mr a3v l]
theorem b1l:Tryz.prog.underlying 349=some (.map 39 9):=by kernel_rfl
def sE:Value:= .string ⟨#[]⟩
theorem c1D (w:World):(zeroValue 9).run Tryz.prog w= .ok sE w:=by kernel_rfl
theorem c1N:FP 295 [] [] (λv As=>∃q,v=pp q/\As=[SpS q []]):=by
 refine FE [] Tryz.func295 λX F hX=>?_;refine J.q λbs=>?_;refine J.turn1 [1] rfl (As:=[U8 (bs 0) a3v ([]:List (A3×Value))]) (λh s=>?_) rfl ?_
 ·refine⟨λ_=>0,λi A hA=>?_⟩;cases i with
  | zero=>simp at hA;subst hA;exact⟨#[],0,res_some.2 ⟨rfl,s.get (i:=0) rfl⟩,rfl,by simp,by simp⟩
  | succ k=>simp at hA
 refine J.cl (λmr:Nat=>[.pt (bs 1) 351 [.map (some mr)],U8 mr a3v ([]:List (A3×Value))]) (bs 0) [2,1] ?_;refine J.qr [2] λ_=>?_;exact⟨bs 1,rfl,rfl⟩
theorem c1O (q:Nat) (l:List (A3×Value)):FP 300 [pp q] [SpS q l] (Ps (iI (l.length:Int)) [SpS q l]):=by
 refine FE [2] Tryz.func300 λX F hX=>?_;refine J.o (α:=Nat) 1 λmr=>?_;refine J.qF λ_=>?_;refine J.q λ_=>?_;refine J.v (iI (l.length:Int)) rfl rfl (λhg a w he hw=>a6w b1l rfl rfl he rfl (hw.get (i:=2) rfl)) ?_;refine J.cl (λmr:Nat=>[.pt q 351 [.map (some mr)],U8 mr a3v l]) mr [1,2] ?_;exact J.qx [1]
theorem c0i (q:Nat) (l:List (A3×Value)) (x y z:Int):FP 297 [pp q, .agg #[iI x,iI y,iI z]] [SpS q l]
  (Ps (.tuple #[(Q6 l (x,y,z)).getD sE, .bool (Q6 l (x,y,z)).isSome]) [SpS q l]):=by
 refine FE [2,0] Tryz.func297 λX F hX=>?_;refine J.o (α:=Nat) 1 λmr=>?_;refine J.qF λ_=>?_;refine J.pq (.of [0,4,8,13,17,21,24,28,32,36,40]) [10] [1,2,3] λ_ _=>?_;refine J.vT (.tuple #[(Q6 l (x,y,z)).getD sE, .bool (Q6 l (x,y,z)).isSome]) rfl rfl (λ_ a w he hC=>?_) ?_
 ·exact(I5 (key:=(x,y,z)) a0T b1l (z:=sE) c1D rfl rfl rfl rfl he rfl rfl (hC rfl _ (B6 (i:=2) rfl))).trans rfl
 refine J.cl (λmr:Nat=>[.pt q 351 [.map (some mr)],U8 mr a3v l]) mr [1,2] ?_;exact J.qx [1]
theorem c0h (q:Nat) (l:List (A3×Value)) (x y z:Int) (b:ByteArray):FP 296 [pp q, .agg #[iI x,iI y,iI z], .string b] [SpS q l]
  (Ps (.tuple #[]) [SpS q (a1u l (x,y,z) (.string b))]):=by
 refine FE [2,0,0] Tryz.func296 λX F hX=>?_;refine J.o (α:=Nat) 1 λmr=>?_;refine J.qT λ_=>?_;refine J.pq (.of [0,4,8,13,17,20,27]) [6] [1,2,3] λ_ _=>?_;refine J.mapUpdate hX a0T b1l (x,y,z) 2 rfl rfl rfl rfl rfl rfl rfl rfl rfl rfl rfl rfl (λ_=>rfl) rfl ⟨trivial,?_⟩;refine J.cl (λmr:Nat=>[.pt q 351 [.map (some mr)],U8 mr a3v (a1u l (x,y,z) (.string b))]) mr [1,2] ?_;refine J.q λ_=>?_;refine J.f [1] ?_;exact⟨rfl,rfl⟩
theorem b5E {l:List (A3×Value)} {k:A3} (h:(Q6 l k).isSome=false):a4H l k=l:=by
 refine a6D l k 0 ?_;have:=a8B l k 0;cases hf:fi l k 0 with
 | none=>rfl
 | some x=>rw[hf]at this;rw[<- this]at h;cases h
theorem b6k (q:Nat) (l:List (A3×Value)) (x y z:Int):FP 302 [pp q, .agg #[iI x,iI y,iI z]] [SpS q l]
  (Ps (.bool (Q6 l (x,y,z)).isSome) [SpS q (a4H l (x,y,z))]):=by
 refine FE [2,0] Tryz.func302 λX F hX=>?_;refine J.qp (c0i q l x y z) [1] λ_=>?_;refine J.qd (λ_ h=>?_) λ_ h=>?_
 ·refine J.o (α:=Nat) 1 λmr=>?_;refine J.pq (.of [0,4,8,13,17,22]) [] [1,2] λ_ _=>?_;refine J.delete hX a0T b1l (x,y,z) 3 rfl rfl rfl rfl rfl rfl rfl rfl rfl rfl (λ_=>rfl) rfl ⟨⟨rfl,rfl,trivial⟩,?_⟩;refine J.cl (λmr:Nat=>[.pt q 351 [.map (some mr)],U8 mr a3v (a4H l (x,y,z))]) mr [1,3] ?_;exact J.qx [1]
 ·refine J.qr [1] λ_=>?_;exact⟨rfl,by rw[b5E h];rfl⟩
theorem b2H {l:List (A3×Value)} {is:List Nat} {j:Nat} {y:A3×Value} (hy:l[j]? =some y):D7 (a0x (l.map (·.1)) is)++[iI y.1.1,iI y.1.2.1,iI y.1.2.2]=D7 (a0x (l.map (·.1)) (is++[j])):=by
 simp[D7,a0x,hy]
theorem c0j (q:Nat) (l:List (A3×Value)) (hl:l.length<=12):FP 298 [pp q] [SpS q l]
  (λv As=>∃a cap l0 l',l0.Perm (l.map (·.1))/\l'=a3K a6Q l0/\v=slv a l'.length cap/\As=[SpS q l,m9 39 3 a l'.length cap (D7 l')]):=by
 refine FE [2] Tryz.func298 λX F hX=>?_;refine J.o (α:=Nat) 1 λmr=>?_;refine J.qF λ_=>?_;refine J.q λ_=>?_;refine J.rangeMap hX 2 b1l rfl rfl rfl rfl rfl rfl rfl (λ_=>rfl) (λ_=>rfl) λr=>⟨trivial,?_⟩;refine J.turn1 [] rfl (As:=[m9 39 3 none 0 0 (D7 (a0x (l.map (·.1)) []))]) (λh s=>Sep.one ⟨rfl,rfl,rfl⟩) rfl ?_;refine J.q λ_=>?_;refine J.l (α:=(List Nat×Option Nat×Nat)) (λx=>True) (λx=>[sp 11 r,sv 3 (slv x.2.1 x.1.length x.2.2)]) [2,3] (λx=>[itA mr r a3v l x.1,m9 39 3 x.2.1 x.1.length x.2.2 (D7 (a0x (l.map (·.1)) x.1))]) (λx=>l.length-x.1.length) (([],none,0)) (trivial) λx hI=>?_;obtain⟨is,a,cap⟩:=x;dsimp only;refine J.q λ_=>?_;refine J.know (p:=is.Nodup/\∀i∈is,i<l.length) (λh s=>?_) λhk=>?_
 ·obtain⟨_,_,_,_,_,_,_,_,h1,h2,_⟩:=s.get (i:=2) rfl;exact⟨h1,h2⟩
 have hle:=a3G _ _ hk.1 hk.2;refine J.rangeNext hX 2 rfl rfl rfl rfl rfl rfl rfl (λ_=>rfl) (λ_=>rfl) (λhp=>⟨trivial,?_⟩) (λj y hj hy=>⟨trivial,?_⟩)
 ·refine J.qF λ_=>?_;refine J.qp (a7C 266 a6Q (by kernel_rfl) b3z a is.length cap (a0x (l.map (·.1)) is) (by simp[a0x]) (by omega)) [3] λ_=>?_;refine J.turn1 [2] rfl (As:=[U8 mr a3v l]) (λh s=>b7x s) rfl ?_;refine J.cl (λmr:Nat=>[.pt q 351 [.map (some mr)],U8 mr a3v l]) mr [1,2] ?_;refine J.qr [1,3] λ_=>?_;have hlen:is.length=(a3K a6Q (a0x (l.map (·.1)) is)).length:=by rw[(a0X _ _).length_eq];simp[a0x]
  refine⟨a,cap,a0x (l.map (·.1)) is,a3K a6Q (a0x (l.map (·.1)) is),a7K (by rw[l7];exact hp),rfl,?_,?_⟩
  ·rw[<- hlen]
  ·rw[<- hlen];rfl
 ·have hjl:j<l.length:=(List.getElem?_eq_some_iff.1 hy).1;refine J.qT λ_=>?_;refine J.q λ_=>?_;have hlt:(is++[j]).length<=l.length:=a3G _ _ (by
   rw[M4];exact⟨hk.1,by simp,λa ha b hb=>by simp at hb;subst hb;rintro rfl;exact hj ha⟩) (λi hi=>by
   rw[L9]at hi;rcases hi with hi | hi
   ·exact hk.2 i hi
   ·simp at hi;subst hi;exact hjl)
  rw[f8,U0]at hlt;refine J.rangeEntry hX 2 rfl rfl rfl rfl rfl rfl rfl hy rfl ⟨trivial,?_⟩;refine J.q λ_=>?_;refine J.append hX tk 3 5 0 rfl rfl rfl rfl rfl rfl rfl rfl rfl rfl rfl rfl rfl rfl rfl rfl ?_ ?_ (λ_=>rfl) λa' cap'=>⟨_,(congrArg (λz=>U3 _ 3 (m9 _ _ _ _ _ z)) (b2H hy)).trans rfl,trivial,?_⟩
  ·simp only[maxLen];omega
  ·omega
  refine J.q λ_=>?_;rw[show is.length+1=(is++[j]).length from by simp];refine J.q λ_=>?_;refine J.n ((is++[j],a',cap')) (trivial) (by dsimp only;rw[f8,U0];omega) [0,1,2,3]
theorem b6l (b4 b5:Nat) (die blk:Int) (x:A3):FP 306 (a1v x::[pp b4,pp b5]) [.pt b4 3 [iI die], .pt b5 3 [iI blk]]
  (Ps (.bool ((x.1 !=die)||(x.2.1 !=blk))) [.pt b4 3 [iI die], .pt b5 3 [iI blk]]):=by
 refine FE [0,2,3] Tryz.func306 λX F hX=>?_;exact J.qx [1,2]
theorem b8P (q:Nat) (l:List (A3×Value)) (hl:l.length<=12) (die blk:Int):FP 301 [pp q,iI die,iI blk] [SpS q l]
  (λv As=>∃a cap l',l'.Perm ((l.map (·.1)).filter λx=>!((x.1 !=die)||(x.2.1 !=blk)))/\v=slv a l'.length cap/\As=[SpS q l,m9 39 3 a l'.length cap (D7 l')]):=by
 refine FE [2,0,0] Tryz.func301 λX F hX=>?_;refine J.q λbb=>?_;refine J.cb (c0j q l hl) [1] ?_;rintro v As ⟨a,cap,l0,l',hp0,hl',rfl,rfl⟩;refine⟨_,rfl,trivial,?_⟩;have hp:l'.Perm (l.map (·.1)):=by rw[hl'];exact(a0X _ _).trans hp0
 refine J.q λ_=>?_;refine J.turn1 [2,3] rfl (As:=[.hp (HP.of [.pt (bb 0) 3 [iI die], .pt (bb 1) 3 [iI blk]])]) (λh s=>Sep.hpOf.2 s) rfl ?_;refine J.q λ_=>?_;refine J.ca hX (by kernel_rfl) (b1d 306 [pp (bb 0),pp (bb 1)] (λx=>(x.1 !=die)||(x.2.1 !=blk)) _ (by kernel_rfl) (λx=>Fn.pack (b6l (bb 0) (bb 1) die blk x)) a l'.length cap l' rfl (by rw[hp.length_eq,l7];omega)) [4,2] 0 rfl rfl rfl rfl rfl rfl (λ_=>rfl) ?_;rintro v As ⟨l2,rfl,rfl,rfl⟩;refine⟨_,rfl,trivial,?_⟩;refine J.qr [1,4] λ_=>?_;exact⟨a,cap,_,hp.filter _,rfl,rfl⟩
section
variable {KK : Type} [DecidableEq KK]
def a4E (l:List (KK×Value)) (k:KK) (z:Value):List (KK×Value):=match fi l k 0 with
 | none=>l++[(k,z)]
 | some _=>l
def b9S (r:Nat) (kv:KK->Value) (l:List (KK×Value)) (key:KK) (st:Int) (h:Hl):Prop:=
 ∃es clock,h r=some (.map es clock)/\es.toList.map (λe=>(e.key,e.val))=l.map (λx=>(kv x.1,x.2))/\(es.toList.map (·.born)).Nodup/\(∀e∈es.toList,e.born<clock)/\
  ∃(j:Nat) (e0:MapEntry) (u:Value),es.toList[j]? =some e0/\e0.key=kv key/\(e0.born:Int)=st/\fi l key 0=some (j,u)
def c1n (r:Nat) (kv:KK->Value) (l:List (KK×Value)) (key:KK) (st:Int):Atom:= .hp ⟨b9S r kv l key st,λ_ _ l ⟨es,c,h1,h2⟩=>⟨es,c,l _ _ h1,h2⟩⟩
theorem b7Y (k:KK):∀(l:List (KK×Value)) i j u,fi l k i=some (j,u)->(l[j-i]?).map (·.1)=some k/\i<=j
 | [],i,j,u,h=>by cases h
 | x::l,i,j,u,h=>by
  unfold fi at h;split at h
  ·rename_i hh;injection h with h;injection h with e1 _;subst e1;simp[hh]
  ·have hl2:=a8n _ _ _ _ _ h;have:=b7Y k l _ _ _ h;refine⟨?_,by omega⟩;rw[show j-i=(j-(i+1))+1 from by omega,V5];exact this.1
theorem b7Z (k:KK) (z:Value):∀(l:List (KK×Value)) i,fi l k i=none->fi (l++[(k,z)]) k i=some (i+l.length,z)
 | [],i,_=>by simp[fi]
 | x::l,i,h=>by
  unfold fi at h;split at h
  ·cases h
  ·rename_i hh;rw[U6,fi,d6 hh,b7Z k z l _ h,l5];congr 2;omega
variable {P : Program} {kv : KK → Value}
theorem a7F {MT T E:TypeId} (hk:KeyOk P T kv) (hm:P.underlying MT=some (.map T E)) {z:Value} (hz:∀w,(zeroValue E).run P w= .ok z w) {w:World} {r:Nat} {l:List (KK×Value)} (h:b2Q r kv l (hl w)) (k:KK):
  ∃w' st,(Instr.mapEntry MT (.map (some r)) (kv k)).run P w= .ok (.tuple #[(Q6 l k).getD z,goInt st]) w'/\b9S r kv (a4E l k z) k st (hl w')/\w.grownBy w' (some r):=by
 obtain⟨es,clock,h1,h2,h3,h4⟩:=h;have hf:=a1B hk k w es.toList l h2;have hr:r<w.heap.size:=(Array.getElem?_eq_some_iff.1 h1).1;have hlen:es.toList.length=l.length:=by have:=congrArg List.length h2;simpa using this
 have ha:=a8B l k 0;unfold Instr.mapEntry;simp only[Sem.run_bind,run_underlying hm,Result.andThen_ok,rgo h1,hk.check,hf];cases hfi:fi l k 0 with
 | none=>
  rw[hfi]at ha;have he:a4E l k z=l++[(k,z)]:=by rw[a4E,hfi]
  refine⟨World.putObj' w r (.map (es.push {key:=kv k,val:=z,born:=clock}) (clock+1)),clock,?_,⟨es.push {key:=kv k,val:=z,born:=clock},clock+1,?_,?_,?_,?_,es.size,{key:=kv k,val:=z,born:=clock},z,?_,rfl,rfl,?_⟩,W6 _ _ _⟩
  ·simp only[Sem.run_bind,hz,Result.andThen_ok,rso _ h1,Sem.run_pure,<- ha,O3,Option.getD_none];rfl
  ·simp[hl,World.putObj',hr]
  ·rw[he];simp[h2]
  ·simp only[Array.toList_push,t7,n4,R5];rw[M4];refine⟨h3,by simp,?_⟩;intro a ha b hb;simp at hb;obtain⟨e,he,rfl⟩:=List.mem_map.1 ha;have:=h4 e he;omega
  ·intro e he;simp at he;rcases he with he | rfl
   ·have:=h4 e (by simpa using he);omega
   ·simp
  ·simp
  ·rw[he,b7Z k z l 0 hfi,<- hlen];simp
 | some x=>
  obtain⟨j,u⟩:=x;rw[hfi]at ha;have he:a4E l k z=l:=by rw[a4E,hfi]
  have hl2:=a8n _ _ _ _ _ hfi;obtain⟨e0,he0⟩:∃e0,es.toList[j]? =some e0:=⟨_,c9 (by omega)⟩;have he1:es[j]? =some e0:=by simpa using he0
  have hkey:e0.key=kv k:=by
   have h5:=(b7Y k l 0 j u hfi).1;rw[a2P]at h5;have hx:(es.toList.map (λe=>(e.key,e.val)))[j]? =(l.map (λx=>(kv x.1,x.2)))[j]?:=by rw[h2]
   rw[i9,i9,he0]at hx;cases hlj:l[j]? with
   | none=>rw[hlj]at hx;simp at hx
   | some y=>
    rw[hlj]at hx h5;simp only[C6,l6,C4]at hx h5;rw[hx.1,h5]
  have hmod:es.modify j (λe=>{e with key:=kv k})=es:=by
   apply Array.toList_inj.1;rw[Q7];apply x9;intro i;rw[a1s]
   by_cases hij:j=i
   ·subst hij;rw[he0];simp only[Option.map_eq_map,C6,X7,<- hkey]
   ·simp[hij]
  refine⟨World.putObj' w r (.map (es.modify j λe=>{e with key:=kv k}) clock),e0.born,?_,⟨es,clock,?_,?_,h3,h4,j,e0,u,he0,hkey,rfl,?_⟩,W6 _ _ _⟩
  ·simp only[he1,C6,j3,hkey,Instr.keyThatStays,hk.bits,X7,Sem.run_bind,Sem.run_pure,Result.andThen_ok,rso _ h1,<- ha];rfl
  ·rw[hmod];simp[hl,World.putObj',hr]
  ·rw[he];exact h2
  ·rw[he];exact hfi
theorem a5Q {MT:TypeId} {w:World} {r:Nat} {l:List (KK×Value)} {key:KK} {st:Int} (h:b9S r kv l key st (hl w)) (v:Value):
  ∃w',(Instr.entryStore MT (.map (some r)) (goInt st) v).run P w= .ok () w'/\b2Q r kv (a1u l key v) (hl w')/\w.grownBy w' (some r):=by
 obtain⟨es,clock,h1,h2,h3,h4,j,e0,u,he0,hkey,hst,hfi⟩:=h;have hr:r<w.heap.size:=(Array.getElem?_eq_some_iff.1 h1).1;have hmp:=a4z es.toList l key v 0 j u h2 hfi;rw[a2P]at hmp;have hmod:es.modify j (λe=>{e with val:=v})=es.modify j (λe=>{e with key:=kv key,val:=v}):=by
  apply Array.toList_inj.1;rw[Q7,Q7];apply x9;intro i;rw[a1s,a1s]
  by_cases hij:j=i
  ·subst hij;rw[he0];simp only[Option.map_eq_map,C6,X7,<- hkey]
  ·simp[hij]
 have hidx:es.findIdx? (λe=>((e.born:Nat):Int)==st)=some j:=by
  rw[Go.WideElems.findIdx_arr,<- hst];exact Go.WideElems.findIdx_born h3 he0
 refine⟨World.putObj' w r (.map (es.modify j λe=>{e with val:=v}) clock),?_,⟨es.modify j λe=>{e with val:=v},clock,?_,?_,?_,?_⟩,W6 _ _ _⟩
 ·simp only[Instr.entryStore,Sem.run_bind,rgo h1,Result.andThen_ok,goInt,asInt,asIntOf,Sem.run_pure,hidx,rso _ h1];rfl
 ·simp[hl,World.putObj',hr]
 ·rw[hmod,Q7];exact hmp.1
 ·rw[hmod,Q7,hmp.2];exact h3
 ·intro e he;have:e.born∈(es.modify j λe=>{e with val:=v}).toList.map (·.born):=L6 he;rw[hmod,Q7,hmp.2]at this;obtain⟨e',he',hb⟩:=List.mem_map.1 this;have:=h4 e' he';omega
end
section
variable {X : Cx} {P : Program} {K : List KI} {E : Env} {L : List Atom} {N : Nat} {F : HP} {Post : Value → List Atom → Prop} {rs : List ResultVar} {KK : Type} [DecidableEq KK] {kv : KK → Value}
theorem J.mapEntry (hX:IsCx X P rs N F Post) {KT MT ET:TypeId} (hk:KeyOk P KT kv) (hm:P.underlying MT=some (.map KT ET)) {z:Value} (hz:∀w,(zeroValue ET).run P w= .ok z w) {ops:Array Oper} {C:Cl} {lt:Bool} {i:Nat} {t:PT} {o:Oper} {g:G} {x y:Operand} {r:Nat} {l:List (KK×Value)} (key:KK) {k1 k2 t1 t2:Nat} {g1 g2:G} {kvv:Value} {E':Value->Env} (im:Nat)
  (ho:J3 ops.toList i=some o) (hg:gd ops.toList E o=some g) (hgo:g.on=true) (hop:o.op= .mapEntry MT x y) (hx:ev E x=some ⟨k1, .map (some r),t1,g1⟩) (v1:g1.on=true) (hy:ev E y=some ⟨k2,kvv,t2,g2⟩) (v2:g2.on=true) (hkv:kvv=kv key)
  (hL:J3 L im=some (U8 r kv l)) (hd:∀v,W5 N o.dst v 0 .tt E=some (E' v)) {L2:Int->List Atom} (hL2:∀st,U3 L im (c1n r kv (a4E l key z) key st)=some (L2 st)) (hJ:∀st,Conj (M3 lt C (L2 st))/\J X (.reg ops C t::K) (E' (.tuple #[(Q6 l key).getD z, .int .i64 st])) (L2 st)):J X (.reg ops C (.alt lt i t .non)::K) E L:=by
 refine J.op hX (S:=λv' L'=>∃st,v'= .tuple #[(Q6 l key).getD z, .int .i64 st]/\L'=L.set im (c1n r kv (a4E l key z) key st)) 0 ho hg hgo (λa0 w hen hs=>?_) hd (λv L' ⟨st,e1,e2⟩=>by subst e1;subst e2;rw[<- T8 (hL2 st)];exact hJ st);rw[J2]at hL;have ex:=C5 hen hx;have ey:=C5 hen hy;simp only[Slot.val,v1,v2]at ex ey;rw[hkv]at ey;have hmap:b2Q r kv l (hl w):=hs.get hL;obtain⟨w',st,r1,r2,r3⟩:=a7F (P:=P) hk hm hz hmap key;refine⟨_,_, .value _,w',⟨st,rfl,rfl⟩,by simp only[execOp,hop,ex,ey,Sem.run_bind,r1,Result.andThen_ok,Sem.run_pure];rfl, .inl rfl,?_,Ext.grown r3⟩;exact Sep.step hs hL (x:=some r) (x':=some r) (λh g ⟨es,c,h1,_⟩ e=>by injection e with e;subst e;exact⟨_,h1⟩) r3 (.inl rfl) (λh hh=>by
  obtain⟨es,c,h1,h2⟩:=r2;exact⟨es,c,(hh r rfl).trans h1,h2⟩)
theorem J.entryStore (hX:IsCx X P rs N F Post) {MT:TypeId} {ops:Array Oper} {C:Cl} {lt:Bool} {i:Nat} {t:PT} {o:Oper} {g:G} {x y u:Operand} {r:Nat} {l:List (KK×Value)} {key:KK} {st:Int} {k1 k2 k3 t1 t2 t3:Nat} {g1 g2 g3:G} {v:Value} {E':Value->Env} (im:Nat)
  (ho:J3 ops.toList i=some o) (hg:gd ops.toList E o=some g) (hgo:g.on=true) (hop:o.op= .entryStore MT x y u) (hx:ev E x=some ⟨k1, .map (some r),t1,g1⟩) (v1:g1.on=true) (hy:ev E y=some ⟨k2, .int .i64 st,t2,g2⟩) (v2:g2.on=true) (hu:ev E u=some ⟨k3,v,t3,g3⟩) (v3:g3.on=true)
  (hL:J3 L im=some (c1n r kv l key st)) (hd:∀v,W5 N o.dst v 0 .tt E=some (E' v)) {L2:List Atom} (hL2:U3 L im (U8 r kv (a1u l key v))=some L2) (hJ:Conj (M3 lt C L2)/\J X (.reg ops C t::K) (E' undef) L2):J X (.reg ops C (.alt lt i t .non)::K) E L:=by
 refine J.op hX (S:=λv' L'=>v'=undef/\L'=L.set im (U8 r kv (a1u l key v))) 0 ho hg hgo (λa0 w hen hs=>?_) hd (λv L' ⟨e1,e2⟩=>by subst e1;subst e2;rw[<- T8 hL2];exact hJ);rw[J2]at hL;have ex:=C5 hen hx;have ey:=C5 hen hy;have eu:=C5 hen hu;simp only[Slot.val,v1,v2,v3]at ex ey eu;have hent:b9S r kv l key st (hl w):=hs.get hL;obtain⟨w',r1,r2,r3⟩:=a5Q (P:=P) (MT:=MT) hent v;refine⟨undef,_, .skip,w',⟨rfl,rfl⟩,by simp only[execOp,hop,ex,ey,eu,Sem.run_bind];rw[show(Value.int IntKind.i64 st)=goInt st from rfl,r1];rfl, .inr ⟨rfl,rfl⟩,?_,Ext.grown r3⟩;exact Sep.step hs hL (x:=some r) (x':=some r) (λh g ⟨es,c,h1,_⟩ e=>by injection e with e;subst e;exact⟨_,h1⟩) r3 (.inl rfl) (λh hh=>by
  obtain⟨es,c,h1,h2⟩:=r2;exact⟨es,c,(hh r rfl).trans h1,h2⟩)
end
abbrev Pg:={l:List UInt8//l.length=32}
def pgk (p:Pg):Value:=pgV p.1
theorem a9E:KeyOk Tryz.prog 110 pgk where
 now:=⟨_,Tryz.underlying110,λ_ _=> .inl rfl⟩
 eq:=λa b w=>by
  have:=Y7 100 110 _ a8f 10000 (by omega) (R8 a.1) (R8 b.1) (a6c a.1) (a6c b.1) w;rw[c1m _ _ a.2 b.2,b9r,b9r]at this;have e:decide (a.1=b.1)=decide (a=b):=by
   by_cases h:a=b
   ·simp[h]
   ·have:¬a.1=b.1:=λe=>h (Subtype.ext e);simp[h,this]
  rw[<- e];exact this
 check:=λe a w=>by kernel_rfl
 bits:=λa=>by simp[pgk,R8,byC,bv,Instr.sameBits]
theorem a9b:Tryz.prog.underlying 352=some (.map 110 24):=by kernel_rfl
theorem a8V (w:World):(zeroValue 24).run Tryz.prog w= .ok (.slice none 0 0) w:=by kernel_rfl
def p1:Pg:=⟨[1,0,0,0,0,0,0,0,0,0,0,0,0,0,0,0,0,0,0,0,0,0,0,0,0,0,0,0,0,0,0,0],rfl⟩
def p2:Pg:=⟨[2,0,0,0,0,0,0,0,0,0,0,0,0,0,0,0,0,0,0,0,0,0,0,0,0,0,0,0,0,0,0,0],rfl⟩
def pg3:List Value:=R8 p1.1++(R8 p2.1++R8 p1.1)
def twL (k:Nat) (a b:Option Nat×Nat):List (Pg×Value):=match k with
 | 0=>[]
 | 1=>[(p1,slv a.1 1 a.2)]
 | 2=>[(p1,slv a.1 1 a.2),(p2,slv b.1 1 b.2)]
 | _=>[(p1,slv a.1 2 a.2),(p2,slv b.1 1 b.2)]
def twN (k:Nat):Nat:=match k with | 0=>0 | 1=>1 | 2=>1 | _=>2
def twM (k:Nat):Nat:=match k with | 0=>0 | 1=>0 | _=>1
def twA (k:Nat):List Value:=match k with | 0=>[] | 1=>[iI 0] | 2=>[iI 0] | _=>[iI 0,iI 2]
def twB (k:Nat):List Value:=match k with | 0=>[] | 1=>[] | _=>[iI 1]
def twO (k:Nat) (ga ca:Nat):List Value:=match k with | 0=>[] | _=>[slv (some ga) 2 ca]
theorem b8w (g:Nat):FP 299 [.slice (some ⟨g,0,none⟩) 3 3] [.pt g 110 pg3]
  (λv As=>∃o co a ca,v=slv o 1 co/\As=[m9 24 1 o 1 co [slv a 2 ca],m9 3 1 a 2 ca [iI 0,iI 2]]):=by
 refine FE [2] Tryz.func299 λX F hX=>?_;refine J.q λmm=>?_;refine J.turn1 [2] rfl (As:=[U8 (mm 0) pgk (twL 0 (none,0) (none,0)),m9 3 1 none 0 0 [],m9 3 1 none 0 0 []]) (λh s=>⟨λ_=>0,λi A hA=>by
  match i,hA with
  | 0,hA=>simp at hA;subst hA;exact⟨#[],0,res_some.2 ⟨rfl,s.get (i:=0) rfl⟩,rfl,by simp,by simp⟩
  | 1,hA=>simp at hA;subst hA;exact⟨rfl,rfl,rfl⟩
  | 2,hA=>simp at hA;subst hA;exact⟨rfl,rfl,rfl⟩
  | k+3,hA=>simp at hA⟩) rfl ?_
 refine J.q λ_=>?_;refine J.l (α:=(Nat×(Option Nat×Nat)×(Option Nat×Nat))) (λz=>z.1<=3/\(z.1=0->∀g,z.2.1.1≠some g)/\(z.1<=1->∀g,z.2.2.1≠some g)) (λz=>[si 13 z.1,si 12 3,⟨11, .slice (some ⟨g,0,none⟩) 3 3,2, .tt⟩,⟨0, .slice (some ⟨g,0,none⟩) 3 3,2, .tt⟩,⟨3, .map (some (mm 0)),3, .tt⟩]) [2,3,4] (λz=>[U8 (mm 0) pgk (twL z.1 z.2.1 z.2.2),m9 3 1 z.2.1.1 (twN z.1) z.2.1.2 (twA z.1),m9 3 1 z.2.2.1 (twM z.1) z.2.2.2 (twB z.1)]) (λz=>3-z.1) ((0,(none,0),(none,0))) (⟨by omega,by simp,by simp⟩) λz hI=>?_;obtain⟨k,⟨a,ca⟩,⟨b,cb⟩⟩:=z;dsimp only at hI ⊢;obtain⟨hI0,hI⟩:=hI;rcases(by omega:k=0\/k=1\/k=2\/k=3)with rfl | rfl | rfl | rfl
 ·
  refine J.qT λ_=>?_;obtain rfl:a=none:=by cases a with
   | none=>rfl
   | some g=>exact absurd rfl (hI.1 rfl g)
  refine J.know (p:=ca=0) (λh' s=>(s.get (i:=3) rfl).2.2) λhg=>?_;subst hg;refine J.q λ_=>?_;refine J.v (pgk p1) rfl rfl (λhg a w he hw=>H9 tk rfl rfl he rfl rfl rfl (hw.get (i:=1) rfl) rfl rfl) ?_;refine J.q λ_=>?_;refine J.mapEntry hX a9E a9b a8V p1 2 rfl rfl rfl rfl rfl rfl rfl rfl rfl rfl (λ_=>rfl) (λ_=>rfl) λst=>⟨trivial,?_⟩;refine J.q λ_=>?_;refine J.append hX tk (a:=none) (n:=0) (cap:=0) 3 6 0 rfl rfl rfl rfl rfl rfl rfl rfl rfl rfl rfl rfl rfl rfl rfl rfl (by decide) (by decide) (λ_=>rfl) λa2 c2=>⟨_,rfl,trivial,?_⟩;refine J.q λ_=>?_;refine J.entryStore hX 2 rfl rfl rfl rfl rfl rfl rfl rfl rfl rfl rfl (λ_=>rfl) rfl ⟨trivial,?_⟩;refine J.q λ_=>?_;refine J.n ((1,(a2,c2),(b,cb))) (⟨by dsimp only;omega,by simp,λ_=>hI.2 (by omega)⟩) (by dsimp only;omega) [0,1,2,3,4]
 ·
  refine J.qT λ_=>?_;obtain rfl:b=none:=by cases b with
   | none=>rfl
   | some g=>exact absurd rfl (hI.2 (by omega) g)
  refine J.know (p:=cb=0) (λh' s=>(s.get (i:=4) rfl).2.2) λhg=>?_;subst hg;refine J.q λ_=>?_;refine J.v (pgk p2) rfl rfl (λhg a w he hw=>H9 tk rfl rfl he rfl rfl rfl (hw.get (i:=1) rfl) rfl rfl) ?_;refine J.q λ_=>?_;refine J.mapEntry hX a9E a9b a8V p2 2 rfl rfl rfl rfl rfl rfl rfl rfl rfl rfl (λ_=>rfl) (λ_=>rfl) λst=>⟨trivial,?_⟩;refine J.q λ_=>?_;refine J.append hX tk (a:=none) (n:=0) (cap:=0) 4 6 0 rfl rfl rfl rfl rfl rfl rfl rfl rfl rfl rfl rfl rfl rfl rfl rfl (by decide) (by decide) (λ_=>rfl) λa2 c2=>⟨_,rfl,trivial,?_⟩;refine J.q λ_=>?_;refine J.entryStore hX 2 rfl rfl rfl rfl rfl rfl rfl rfl rfl rfl rfl (λ_=>rfl) rfl ⟨trivial,?_⟩;refine J.q λ_=>?_;refine J.n ((2,(a,ca),(a2,c2))) (⟨by dsimp only;omega,by simp,by simp⟩) (by dsimp only;omega) [0,1,2,3,4]
 ·
  refine J.qT λ_=>?_;refine J.know (λh' s=>D1 (c:=(a,ca)) (by decide) (s.get (i:=3) rfl)) λhg=>?_;obtain⟨ga,rfl⟩:=hg;refine J.q λ_=>?_;refine J.v (pgk p1) rfl rfl (λhg a w he hw=>H9 tk rfl rfl he rfl rfl rfl (hw.get (i:=1) rfl) rfl rfl) ?_;refine J.q λ_=>?_;refine J.mapEntry hX a9E a9b a8V p1 2 rfl rfl rfl rfl rfl rfl rfl rfl rfl rfl (λ_=>rfl) (λ_=>rfl) λst=>⟨trivial,?_⟩;refine J.q λ_=>?_;refine J.append hX tk (a:=(some ga)) (n:=1) (cap:=ca) 3 6 0 rfl rfl rfl rfl rfl rfl rfl rfl rfl rfl rfl rfl rfl rfl rfl rfl (by decide) (by decide) (λ_=>rfl) λa2 c2=>⟨_,rfl,trivial,?_⟩;refine J.q λ_=>?_;refine J.entryStore hX 2 rfl rfl rfl rfl rfl rfl rfl rfl rfl rfl rfl (λ_=>rfl) rfl ⟨trivial,?_⟩;refine J.q λ_=>?_;refine J.n ((3,(a2,c2),(b,cb))) (⟨by dsimp only;omega,by simp,by simp⟩) (by dsimp only;omega) [0,1,2,3,4]
 ·refine J.qF λ_=>?_;refine J.know (λh' s=>D1 (c:=(a,ca)) (by decide) (s.get (i:=3) rfl)) λhg=>?_;obtain⟨ga,rfl⟩:=hg;refine J.know (λh' s=>D1 (c:=(b,cb)) (by decide) (s.get (i:=4) rfl)) λhg=>?_;obtain⟨gb,rfl⟩:=hg;refine J.turn1 [] rfl (As:=[m9 24 1 none 0 0 []]) (λh s=>Sep.one ⟨rfl,rfl,rfl⟩) rfl ?_;refine J.q λ_=>?_;refine J.l (α:=(Nat×Option Nat×Nat)) (λz=>z.1<=3/\(z.1=0->∀g,z.2.1≠some g)) (λz=>[si 29 z.1,si 28 3,⟨27, .slice (some ⟨g,0,none⟩) 3 3,2, .tt⟩,⟨3, .map (some (mm 0)),3, .tt⟩,⟨6,slv z.2.1 (twM (z.1+1)) z.2.2,0, .tt⟩]) [5] (λz=>[m9 24 1 z.2.1 (twM (z.1+1)) z.2.2 (twO z.1 ga ca)]) (λz=>3-z.1) ((0,none,0)) (⟨by omega,by simp⟩) λz hI=>?_;obtain⟨k,o,co⟩:=z;dsimp only at hI ⊢;obtain⟨hI0,hJ⟩:=hI;rcases(by omega:k=0\/k=1\/k=2\/k=3)with rfl | rfl | rfl | rfl
  ·refine J.qT λ_=>?_;refine J.q λ_=>?_;refine J.v (pgk p1) rfl rfl (λhg a w he hw=>H9 tk rfl rfl he rfl rfl rfl (hw.get (i:=1) rfl) rfl rfl) ?_;refine J.q λ_=>?_;refine J.v (slv (some ga) 2 ca) rfl rfl (λhg a w he hw=>?_) ?_
   ·exact(I5 (key:=p1) a9E a9b (z:= .slice none 0 0) a8V rfl rfl rfl rfl he rfl rfl (hw.get (i:=2) rfl)).trans rfl
   refine J.q λ_=>?_;refine J.v (iI 0) rfl rfl (λhg a w he hw=>I2 tk rfl rfl he rfl rfl rfl (hw.get (i:=3) rfl) rfl) ?_;refine J.qT λ_=>?_;obtain rfl:o=none:=by cases o with
    | none=>rfl
    | some g=>exact absurd rfl (hJ rfl g)
   refine J.know (p:=co=0) (λh' s=>(s.get (i:=5) rfl).2.2) λhg=>?_;subst hg;refine J.q λ_=>?_;refine J.append hX tk (a:=none) (n:=0) (cap:=0) 5 7 0 rfl rfl rfl rfl rfl rfl rfl rfl rfl rfl rfl rfl rfl rfl rfl rfl (by decide) (by decide) (λ_=>rfl) λo2 c2=>⟨_,rfl,trivial,?_⟩;refine J.q λ_=>?_;refine J.n ((1,o2,c2)) (⟨by dsimp only;omega,by simp⟩) (by dsimp only;omega) [0,1,2,3,4,5]
  ·refine J.qT λ_=>?_;refine J.q λ_=>?_;refine J.v (pgk p2) rfl rfl (λhg a w he hw=>H9 tk rfl rfl he rfl rfl rfl (hw.get (i:=1) rfl) rfl rfl) ?_;refine J.q λ_=>?_;refine J.v (slv (some gb) 1 cb) rfl rfl (λhg a w he hw=>?_) ?_
   ·exact(I5 (key:=p2) a9E a9b (z:= .slice none 0 0) a8V rfl rfl rfl rfl he rfl rfl (hw.get (i:=2) rfl)).trans rfl
   refine J.q λ_=>?_;refine J.v (iI 1) rfl rfl (λhg a w he hw=>I2 tk rfl rfl he rfl rfl rfl (hw.get (i:=4) rfl) rfl) ?_;refine J.qF λ_=>?_;refine J.q λ_=>?_;refine J.n ((2,o,co)) (⟨by dsimp only;omega,by simp⟩) (by dsimp only;omega) [0,1,2,3,4,5]
  ·refine J.qT λ_=>?_;refine J.q λ_=>?_;refine J.v (pgk p1) rfl rfl (λhg a w he hw=>H9 tk rfl rfl he rfl rfl rfl (hw.get (i:=1) rfl) rfl rfl) ?_;refine J.q λ_=>?_;refine J.v (slv (some ga) 2 ca) rfl rfl (λhg a w he hw=>?_) ?_
   ·exact(I5 (key:=p1) a9E a9b (z:= .slice none 0 0) a8V rfl rfl rfl rfl he rfl rfl (hw.get (i:=2) rfl)).trans rfl
   refine J.q λ_=>?_;refine J.v (iI 0) rfl rfl (λhg a w he hw=>I2 tk rfl rfl he rfl rfl rfl (hw.get (i:=3) rfl) rfl) ?_;refine J.qF λ_=>?_;refine J.q λ_=>?_;refine J.n ((3,o,co)) (⟨by dsimp only;omega,by simp⟩) (by dsimp only;omega) [0,1,2,3,4,5]
  ·refine J.qF λ_=>?_;refine J.qr [5,3] λ_=>?_;exact⟨o,co,some ga,ca,rfl,rfl⟩
end
end Go.Proofs.YtmafiplddapokaaGreat
