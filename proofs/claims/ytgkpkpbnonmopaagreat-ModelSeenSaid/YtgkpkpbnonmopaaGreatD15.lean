/- Helpers. No condition. -/
import Derived.Test.YtgkpkpbnonmopaaGreatD06
import Derived.Test.YtgkpkpbnonmopaaGreatD10
import Derived.Test.YtgkpkpbnonmopaaGreatD13
import Derived.Test.YtgkpkpbnonmopaaGreatD14
set_option maxRecDepth 20000
set_option linter.all false
namespace Go.Proofs.YtgkpkpbnonmopaaGreat
open Go Go.RowKit
def C2 (l:List Bool):List Value:=l.map .bool
theorem a6Z (l:List Bool) (x:Bool):C2 (l++[x])=C2 l++[.bool x]:=by simp[C2]
theorem R9 {l:List Bool} {k:Nat} {x:Bool} (h:l[k]? =some x):(C2 l)[k]? =some (.bool x):=by simp[C2,h]
def fdL (a1:Option Nat) (c1:Nat) (a2:Option Nat) (c2 n:Nat) (s:Sh) (w:Bool):List Value:=[slv a1 n c1,slv a2 n c2,byC s.data 0,byC s.data 1,byC s.data 2,byC s.data 3,byC s.data 4,byC s.data 5,byC s.data 6,byC s.data 7,byC s.data 8,byC s.data 9,byC s.data 10,byC s.data 11,byC s.data 12,byC s.data 13,byC s.data 14,byC s.data 15,
 iI s.role,iI s.lpn,iI s.seq,iI s.kind,iI s.block,iI s.row,iI s.mask, .bool w]
theorem a4N (s:Sh):FP 139 [shV s] [] (Ps (enV s.en) []):=by
 refine FE [0] Tryz.func139 λX F hX=>?_;exact J.qx []
theorem a8i (p:Nat) (N:Nand) (hN:N.Ok) (hR:N.Room) (b r m d:Int) (b1 b2 b3 b4:Nat):FP 197 [iI d,pp b1,pp b2,pp b3,pp b4] [g7 p N, .pt b1 37 [pp p], .pt b2 3 [iI b], .pt b3 3 [iI r], .pt b4 3 [iI m]]
  (Ps (.tuple #[shV (R.one N b r m d).1, .bool (R.one N b r m d).2]) [g7 p N, .pt b1 37 [pp p], .pt b2 3 [iI b], .pt b3 3 [iI r], .pt b4 3 [iI m]]):=by
 refine FE [0,3,4,5,6] Tryz.func197 λX F hX=>?_;refine J.q λb2=>?_;refine J.q λb3=>?_;refine J.cb (a0U p N hN hR d b r) [1] ?_;refine cpq ⟨_,rfl,trivial,?_⟩;refine J.q λb4=>?_;refine J.plan (.of [1,4,8,12,16,21,25,28,32,38,40]) [10] [5,7] (by rw[hX.hP];kernel_rfl) (by kernel_rfl) ?_;exact J.qx [1,2,3,4,5]
theorem a3R (N:Nand) (b r m:Int) (k:Nat):R.ones N b r m (k+1)=R.ones N b r m k++[R.one N b r m (G.die m b r (k:Nat))]:=by simp[R.ones,List.range_succ]
theorem b0K (p:Nat) (N:Nand) (hN:N.Ok) (hR:N.Room) (b r m:Int):FP 138 [pp p,iI b,iI r,iI m] [g7 p N]
  (λv As=>∃a1 c1 a2 c2,v= .agg (fdL a1 c1 a2 c2 (G.slots m).toNat (R.look N b r m).parity (R.look N b r m).whole).toArray/\As=[g7 p N,c8 222 23 a1 (G.slots m).toNat c1 (l7 (R.look N b r m).slots),c8 4 1 a2 (G.slots m).toNat c2 (C2 (R.look N b r m).good)]):=by
 have hsb:=C6 m;obtain⟨P,hP⟩:∃P,R.one N b r m (G.parity m b r)=P:=⟨_,rfl⟩;refine FE [2,0,0,0] Tryz.func138 λX F hX=>?_;refine J.q λbb=>?_;refine J.cb (P9 m b r) [] ?_;refine cpq ⟨_,rfl,trivial,?_⟩;refine J.q λb8=>?_;refine J.cb (a8i p N hN hR b r m (G.parity m b r) (bb 0) (bb 1) (bb 2) (bb 3)) [1,2,3,4,5] ?_;refine cpq ⟨_,rfl,trivial,?_⟩;rw[hP];refine J.qp (G9 m) [] λ_=>?_;refine J.turn1 [] rfl (As:=[c8 222 23 none 0 0 (l7 []),c8 4 1 none 0 0 (C2 [])]) (λh s=>⟨λ_=>0,λi A hA=>by
  match i,hA with
  | 0,hA=>simp at hA;subst hA;exact⟨rfl,rfl,rfl⟩
  | 1,hA=>simp at hA;subst hA;exact⟨rfl,rfl,rfl⟩
  | k+2,hA=>simp at hA⟩) rfl ?_
 refine J.q λ_=>?_;refine J.l (α:=(Nat×Option Nat×Nat×Option Nat×Nat)) (λz=>z.1<=(G.slots m).toNat) (λz=>[si 28 z.1,si 27 (G.slots m),⟨9,fnC 197 [pp (bb 0),pp (bb 1),pp (bb 2),pp (bb 3)],0, .tt⟩,⟨4,pp (bb 0),3, .tt⟩,⟨5,pp (bb 1),4, .tt⟩,⟨6,pp (bb 2),5, .tt⟩,⟨7,pp (bb 3),6, .tt⟩,⟨8,pp (bb 4),7, .tt⟩,⟨10,pp (bb 5),8, .tt⟩]) [7,8,9] (λz=>[.pt (bb 5) 224 (fdL z.2.1 z.2.2.1 z.2.2.2.1 z.2.2.2.2 z.1 P.1 P.2),c8 222 23 z.2.1 z.1 z.2.2.1 (l7 ((R.ones N b r m z.1).map (·.1))),c8 4 1 z.2.2.2.1 z.1 z.2.2.2.2 (C2 ((R.ones N b r m z.1).map (·.2)))]) (λz=>(G.slots m).toNat-z.1) ((0,none,0,none,0)) (Nat.zero_le _) λz hI=>?_;obtain⟨k,a1,c1,a2,c2⟩:=z;dsimp only at hI ⊢;refine J.qd (λ_ h1=>?_) λ_ h1=>?_
 ·simp only[decide_eq_true_eq]at h1;have hS1:l7 ((R.ones N b r m k).map (·.1))++shL (R.one N b r m (G.die m b r k)).1=l7 ((R.ones N b r m (k+1)).map (·.1)):=by rw[a3R,List.map_append,<- q9];rfl
  have hS2:C2 ((R.ones N b r m k).map (·.2))++[.bool (R.one N b r m (G.die m b r k)).2]=C2 ((R.ones N b r m (k+1)).map (·.2)):=by rw[a3R,List.map_append,<- a6Z];rfl
  refine J.qp (a8y m b r k (by omega) (by omega)) [] λ_=>?_;refine J.qp (a8i p N hN hR b r m (G.die m b r k) (bb 0) (bb 1) (bb 2) (bb 3)) [1,2,3,4,5] λ_=>?_;refine J.p (.take true 0 (.take false 1 (.take false 2 (.take true 5 (.take false 6 (.take true 7 (.alt false 3 ((.alt false 4 ((.of [40,34,38,47,48,55])) (.alt false 8 ((.of [18,40,38,47,48,55])) .non))) (.alt false 8 ((.of [14,18,40,38,47,48,55])) .non)))))))) [11,12,13] [7,10] λ_=>?_;refine J.join (α:=Option Nat×Nat×Option Nat×Nat) (λx=>[si 28 k,si 27 (G.slots m),⟨9,fnC 197 [pp (bb 0),pp (bb 1),pp (bb 2),pp (bb 3)],0, .tt⟩,⟨4,pp (bb 0),3, .tt⟩,⟨5,pp (bb 1),4, .tt⟩,⟨6,pp (bb 2),5, .tt⟩,⟨7,pp (bb 3),6, .tt⟩,⟨8,pp (bb 4),7, .tt⟩,⟨10,pp (bb 5),8, .tt⟩]) (λx=>[.hp F,g7 p N, .pt (bb 0) 37 [pp p], .pt (bb 1) 3 [iI b], .pt (bb 2) 3 [iI r], .pt (bb 3) 3 [iI m], .pt (bb 4) 224 (fdL none 0 none 0 0 Sh.zero false), .pt (bb 5) 224 (fdL x.1 x.2.1 x.2.2.1 x.2.2.2 (k+1) P.1 P.2),c8 222 23 x.1 (k+1) x.2.1 (l7 ((R.ones N b r m (k+1)).map (·.1))),c8 4 1 x.2.2.1 (k+1) x.2.2.2 (C2 ((R.ones N b r m (k+1)).map (·.2)))]) (λhj=>?_) (λx=>?_)
  ·skip
   refine J.qn 6 λ_=>?_;refine J.alts ?_ ?_
   ·skip
    refine J.qn 1 λb3=>?_;refine J.alts ?_ ?_
    ·skip
     refine J.append hX tk 8 11 0 rfl rfl rfl rfl rfl rfl rfl rfl rfl rfl rfl rfl rfl rfl rfl rfl ?_ ?_ (λ_=>rfl) λa3 c3=>⟨_,(congrArg (λz=>n5 _ 8 (c8 _ _ _ _ _ z)) hS1).trans rfl,⟨rfl,rfl,trivial⟩,?_⟩
     ·simp only[maxLen];omega
     ·omega
     refine J.qn 1 λ_=>?_;refine J.qn 1 λb8=>?_;refine J.append hX tk 9 12 0 rfl rfl rfl rfl rfl rfl rfl rfl rfl rfl rfl rfl rfl rfl rfl rfl ?_ ?_ (λ_=>rfl) λa4 c4=>⟨_,(congrArg (λz=>n5 _ 9 (c8 _ _ _ _ _ z)) hS2).trans rfl,⟨rfl,rfl,trivial⟩,?_⟩
     ·simp only[maxLen];omega
     ·omega
     refine J.qn 4 λ_=>?_;exact J.goto [0,1,2,3,4,5,6,7,8,9] (hj (a3,c3,a4,c4)) ⟨rfl,rfl,rfl,rfl,rfl,rfl,rfl,rfl,rfl,trivial⟩ rfl rfl
    ·skip
     refine J.qn 1 λb8=>?_;refine J.append hX tk 8 11 0 rfl rfl rfl rfl rfl rfl rfl rfl rfl rfl rfl rfl rfl rfl rfl rfl ?_ ?_ (λ_=>rfl) λa3 c3=>⟨_,(congrArg (λz=>n5 _ 8 (c8 _ _ _ _ _ z)) hS1).trans rfl,⟨rfl,rfl,trivial⟩,?_⟩
     ·simp only[maxLen];omega
     ·omega
     refine J.qn 1 λ_=>?_;refine J.append hX tk 9 12 0 rfl rfl rfl rfl rfl rfl rfl rfl rfl rfl rfl rfl rfl rfl rfl rfl ?_ ?_ (λ_=>rfl) λa4 c4=>⟨_,(congrArg (λz=>n5 _ 9 (c8 _ _ _ _ _ z)) hS2).trans rfl,⟨rfl,rfl,trivial⟩,?_⟩
     ·simp only[maxLen];omega
     ·omega
     refine J.qn 4 λ_=>?_;exact J.goto [0,1,2,3,4,5,6,7,8,9] (hj (a3,c3,a4,c4)) ⟨rfl,rfl,rfl,rfl,rfl,rfl,rfl,rfl,rfl,trivial⟩ rfl rfl
   ·skip
    refine J.qn 1 λb8=>?_;refine J.qn 1 λb3=>?_;refine J.append hX tk 8 12 0 rfl rfl rfl rfl rfl rfl rfl rfl rfl rfl rfl rfl rfl rfl rfl rfl ?_ ?_ (λ_=>rfl) λa3 c3=>⟨_,(congrArg (λz=>n5 _ 8 (c8 _ _ _ _ _ z)) hS1).trans rfl,⟨rfl,rfl,trivial⟩,?_⟩
    ·simp only[maxLen];omega
    ·omega
    refine J.qn 1 λ_=>?_;refine J.append hX tk 9 11 0 rfl rfl rfl rfl rfl rfl rfl rfl rfl rfl rfl rfl rfl rfl rfl rfl ?_ ?_ (λ_=>rfl) λa4 c4=>⟨_,(congrArg (λz=>n5 _ 9 (c8 _ _ _ _ _ z)) hS2).trans rfl,⟨rfl,rfl,trivial⟩,?_⟩
    ·simp only[maxLen];omega
    ·omega
    refine J.qn 4 λ_=>?_;exact J.goto [0,1,2,3,4,5,6,7,8,9] (hj (a3,c3,a4,c4)) ⟨rfl,rfl,rfl,rfl,rfl,rfl,rfl,rfl,rfl,trivial⟩ rfl rfl
  obtain⟨a3,c3,a4,c4⟩:=x;dsimp only;refine J.q λ_=>?_;refine J.n ((k+1,a3,c3,a4,c4)) (by dsimp only;omega) (by dsimp only;omega) [0,1,2,3,4,5,6,7,8,9]
 ·simp only[decide_eq_false_iff_not]at h1;have hk:k=(G.slots m).toNat:=by omega
  subst hk;refine J.qr [1,8,9] λ_=>?_;refine⟨a1,c1,a2,c2,?_,rfl⟩;rw[show(R.look N b r m).parity=P.1 from congrArg Prod.fst hP,show(R.look N b r m).whole=P.2 from congrArg Prod.snd hP];rfl
def Q7 (l:List Sh) (k i:Nat):List Sh:=(l.take i).eraseIdx k
theorem b3s (l:List Sh) (i:Nat) (h:i<l.length):Q7 l i (i+1)=Q7 l i i:=by
 unfold Q7;have hl:(l.take i).length=i:=by rw[List.length_take];omega
 rw[List.eraseIdx_of_length_le (l:=l.take i) (by omega),List.take_add_one,List.getElem?_eq_getElem h,Option.toList_some];rw[List.eraseIdx_append_of_length_le (by omega),hl,Nat.sub_self];simp
theorem b3r (l:List Sh) (k i:Nat) (x:Sh) (h:l[i]? =some x) (hk:i≠k):Q7 l k (i+1)=Q7 l k i++[x]:=by
 unfold Q7;rw[List.take_add_one,h,Option.toList_some];have hi:=(List.getElem?_eq_some_iff.1 h).1;have hl:(l.take i).length=i:=by rw[List.length_take];omega
 by_cases hlt:k<i
 ·rw[List.eraseIdx_append_of_lt_length (by omega)]
 ·rw[List.eraseIdx_of_length_le (l:=l.take i++[x]) (by rw[List.length_append,List.length_singleton];omega),List.eraseIdx_of_length_le (by omega)]
theorem b1c (l:List Sh) (k i:Nat):(Q7 l k i).length<=l.length:=by
 unfold Q7;refine Nat.le_trans (List.length_eraseIdx_le _ _) ?_;rw[List.length_take];omega
theorem b1b {l:List Sh} {k i:Nat} {x:Sh} (h:x∈Q7 l k i):x∈l:=List.mem_of_mem_take (List.mem_of_mem_eraseIdx h)
theorem a6e (f:Fd) (n:Nat) (hn:n<=8) (h1l:f.slots.length=n) (h2l:f.good.length=n) (hd:∀s∈f.slots,s.data.length=16) (hp:f.parity.data.length=16) (a1 a2:Option Nat) (c1 c2 k:Nat):FP 140 [.agg (fdL a1 c1 a2 c2 n f.parity f.whole).toArray,iI k] [c8 222 23 a1 n c1 (l7 f.slots),c8 4 1 a2 n c2 (C2 f.good)]
  (λv As=>v= .tuple #[enV (R.mend f k), .bool (R.mendB f k)]/\As=[c8 222 23 a1 n c1 (l7 f.slots),c8 4 1 a2 n c2 (C2 f.good)]):=by
 refine FE [0,0] Tryz.func140 λX F hX=>?_;refine J.q λbb=>?_;refine J.turn1 [] rfl (As:=[c8 222 23 none 0 0 (l7 (Q7 f.slots k 0))]) (λh s=>Sep.one ⟨rfl,rfl,rfl⟩) rfl ?_;refine J.q λ_=>?_;refine J.l (α:=(Nat×Option Nat×Nat)) (λz=>z.1<=n/\∀j<z.1,j=k\/f.good.getD j false=true) (λz=>[si 12 z.1,si 11 n,sv 10 (slv a1 n c1),si 1 k,⟨2,pp (bb 0),4, .tt⟩,⟨4,pp (bb 1),5, .tt⟩,sv 5 (.bool false),sv 6 (slv z.2.1 (Q7 f.slots k z.1).length z.2.2)]) [5] (λz=>[c8 222 23 z.2.1 (Q7 f.slots k z.1).length z.2.2 (l7 (Q7 f.slots k z.1))]) (λz=>n-z.1) ((0,none,0)) (⟨Nat.zero_le _,by omega⟩) λz hI=>?_;obtain⟨i,a3,c3⟩:=z;dsimp only at hI ⊢;have hol:=b1c f.slots k i;refine J.qd (λ_ h1=>?_) λ_ h1=>?_
 ·simp only[decide_eq_true_eq,Int.ofNat_lt]at h1;refine J.know (λh' s=>i9 (c:=(a1,c1)) (by omega) (s.get (i:=1) rfl)) λhg=>?_;obtain⟨g1,rfl⟩:=hg;refine J.know (λh' s=>i9 (c:=(a2,c2)) (by omega) (s.get (i:=2) rfl)) λhg=>?_;obtain⟨g2,rfl⟩:=hg;obtain⟨s,hs⟩:∃s,f.slots[i]? =some s:=⟨_,List.getElem?_eq_getElem (by omega)⟩;have hgd:f.good[i]? =some (f.good.getD i false):=by rw[List.getD_eq_getElem?_getD,List.getElem?_eq_getElem (by omega),Option.getD_some]
  refine J.q λ_=>?_;refine J.v (shV s) rfl rfl (λhg a w he hw=>?_) ?_
  ·exact n3 tk rfl rfl he rfl rfl rfl (hw.get (i:=1) rfl) (by rw[show 0+(i:Int).toNat*23=i*23 from by omega];exact R6 hs) rfl
  refine J.qd (λ_ h2=>?_) λ_ h2=>?_
  ·simp only[beq_iff_eq,Int.natCast_inj]at h2;subst h2;rw[<- b3s f.slots i (by omega)];refine J.q λ_=>?_;refine J.nS ((i+1,a3,c3)) (⟨by dsimp only;omega,λj hj=>by
    rcases Nat.lt_succ_iff_lt_or_eq.1 hj with h | h
    ·exact hI.2 j h
    ·exact .inl h⟩) (by dsimp only;omega) [0,1,2,3,4,5] rfl rfl
  simp only[beq_eq_false_iff_ne,ne_eq,Int.natCast_inj]at h2;refine J.q λ_=>?_;refine J.v (.bool (f.good.getD i false)) rfl rfl (λhg a w he hw=>?_) ?_
  ·exact j9 tk rfl rfl he rfl rfl rfl (hw.get (i:=2) rfl) (by rw[show 0+(i:Int).toNat*1=i from by omega];exact R9 hgd)
  refine J.qd (λ_ h3=>?_) λ_ h3=>?_
  ·simp only[Bool.not_eq_true']at h3;refine J.qr [1,2] λ_=>?_;have hr:R.rest f k=false:=by
    unfold R.rest;rw[List.all_eq_false];exact⟨i,by rw[List.mem_range];omega,by rw[h3];simpa using h2⟩
   simp only[R.mend,R.mendB,hr,Bool.false_and];exact⟨rfl,rfl⟩
  ·simp only[Bool.not_eq_false']at h3;have hsn:=b3r f.slots k i s hs h2;have hsl:(Q7 f.slots k i).length+1=(Q7 f.slots k (i+1)).length:=by rw[hsn];simp
   refine J.q λ_=>?_;refine J.append hX tk 5 7 0 rfl rfl rfl rfl rfl rfl rfl rfl rfl rfl rfl rfl rfl rfl rfl rfl ?_ ?_ (λ_=>rfl) λa4 c4=>⟨_,(congrArg (λz=>n5 _ 5 (c8 _ _ _ _ _ z)) ((q9 _ s).symm.trans (congrArg l7 hsn.symm))).trans rfl,trivial,?_⟩
   ·simp only[maxLen];omega
   ·omega
   rw[hsl];refine J.q λ_=>?_;refine J.nS ((i+1,a4,c4)) (⟨by dsimp only;omega,λj hj=>by
    rcases Nat.lt_succ_iff_lt_or_eq.1 hj with h | h
    ·exact hI.2 j h
    ·exact .inr (h▸h3)⟩) (by dsimp only;omega) [0,1,2,3,4,5] rfl rfl
 ·simp only[decide_eq_false_iff_not,Int.ofNat_lt]at h1;obtain rfl:i=n:=by omega
  have hr:R.rest f k=true:=by
   unfold R.rest;rw[List.all_eq_true];intro j hj;rcases hI.2 j (by simp at hj;omega)with h | h
   ·simp[h]
   ·rw[h];simp
  have ho:Q7 f.slots k i=f.slots.eraseIdx k:=by unfold Q7;rw[List.take_of_length_le (by omega)]
  refine J.qd (λ_ h4=>?_) λ_ h4=>?_
  ·simp only[Bool.not_eq_true']at h4;refine J.qr [1,2] λ_=>?_;simp only[R.mend,R.mendB,h4,Bool.and_false,Bool.false_and];exact⟨rfl,rfl⟩
  ·simp only[Bool.not_eq_false']at h4;refine J.qp (b0i f.parity hp a3 (Q7 f.slots k i).length c3 (Q7 f.slots k i) rfl (by omega) (λs hs=>hd s (b1b hs))) [5] λ_=>?_;refine J.qr [1,2] λ_=>?_;simp only[R.mend,R.mendB,hr,h4,Bool.and_self,Bool.true_and,if_true,<- ho];exact⟨rfl,rfl⟩
theorem a3p:∀m,m<256->∀k,k<8->0<=L.at_ (m:Nat) (k:Nat)->L.count (L.without (m:Nat) (L.at_ (m:Nat) (k:Nat)))=L.count (m:Nat)-1:=by decide+kernel
theorem b5m {m b r s:Int} (h:0<=G.die m b r s):0<=s/\s<G.slots m:=by
 unfold G.die at h;split at h
 ·omega
 ·rename_i hp;have hp0:0<=G.parity m b r:=by omega
  have hs:0<=s/\s<(L.count (L.without m (G.parity m b r)):Int):=by
   by_cases hh:s<0\/(L.count (L.without m (G.parity m b r)):Int)<=s
   ·rw[L.at_ge _ _ hh]at h;omega
   ·omega
  unfold G.parity at hp0 hs;split at hp0
  ·omega
  ·rename_i hc;rw[if_neg hc]at hs;have hm:0<=m/\m<256:=by
    by_cases hh:0<=m/\m<256
    ·exact hh
    ·have:=L.count_no m hh;omega
   obtain⟨M,rfl⟩:=Int.eq_ofNat_of_zero_le hm.1;have hcl:=L.count_le (M:Int);have hq:0<=(b+r) % (L.count (M:Int):Int)/\(b+r) % (L.count (M:Int):Int)<L.count (M:Int):=⟨Int.emod_nonneg _ (by omega),Int.emod_lt_of_pos _ (by omega)⟩;obtain⟨q,hq2⟩:=Int.eq_ofNat_of_zero_le hq.1;rw[hq2]at hs hp0 hq;rw[a3p M (by omega) q (by omega) hp0]at hs;unfold G.slots;rw[if_neg (by omega)];omega
theorem O9 {N:Nand} (hN:N.Ok) (b r m:Int):(∀s∈(R.look N b r m).slots,s.data.length=16)/\(R.look N b r m).parity.data.length=16:=by
 refine⟨λs hs=>?_,a3X hN _ _ _⟩;simp only[R.look,R.ones,List.map_map,List.mem_map]at hs;obtain⟨k,_,rfl⟩:=hs;exact a3X hN _ _ _
theorem a4O (p:Nat) (N:Nand) (hN:N.Ok) (hR:N.Room) (b r s m:Int) (h0: -1000000<=s) (h1:s<=1000000):FP 84 [pp p, .agg #[iI b,iI r,iI s],iI m] [g7 p N]
  (Ps (.tuple #[enV (R.read N b r s m).1,iI (R.read N b r s m).2]) [g7 p N]):=by
 have hbd:=hN.bd;refine FE [2,0,0] Tryz.func84 λX F hX=>?_;refine J.q λbb=>?_;refine J.join (α:=Unit) (λ_=>[⟨30, .bool (decide (G.die m b r s<0)|| !A5 N.dies N.blocks N.pages 0 b r),0, .tt⟩,⟨0,pp p,2, .tt⟩,si 2 m,⟨4,pp (bb 0),3, .tt⟩,⟨6,pp (bb 1),4, .tt⟩]) (λ_=>[.hp F,g7 p N, .pt (bb 0) 136 [iI b,iI r,iI s], .pt (bb 1) 132 (enL En.zero)]) (λhj=>?_) (λ_=>?_)
 ·refine J.p (.of [0,4,9,12,17,20,25,30,32,36,40,48,53,56,61,64,46,70,72,76]) [] [2] λ_=>?_;refine J.qp (a8y m b r s h0 h1) [] λ_=>?_;refine J.q λ_=>?_;refine J.gcase hX rfl rfl rfl ⟨rfl,trivial⟩ (λhb=>?_) (λhb=>?_)
  ·have hb2:decide (G.die m b r s<0)=false:=by rwa [Bool.not_eq_true']at hb
   rw[hb2]at hj ⊢;refine J.qp (O7 p N) [1] λ_=>?_;refine J.qp (a6L N.dies N.blocks N.pages 0 b r (by omega) (by omega) (by omega)) [] λ_=>?_;refine J.q λ_=>?_;exact J.goto [0,1,2,3] (hj ()) ⟨rfl,rfl,rfl,rfl,rfl,trivial⟩ rfl rfl
  ·have hb2:decide (G.die m b r s<0)=true:=by rwa [Bool.not_eq_false']at hb
   rw[hb2]at hj ⊢;refine J.q λ_=>?_;refine J.gcase hX rfl rfl rfl ⟨rfl,trivial⟩ (λhb=>by simp at hb) (λhb=>?_);refine J.q λ_=>?_;refine J.vT (.bool false) rfl rfl (λhg a w he hw=>by simp[G.on]at hg) ?_;refine J.q λ_=>?_;exact J.goto [0,1,2,3] (hj ()) ⟨rfl,rfl,rfl,rfl,rfl,trivial⟩ rfl rfl
 refine J.qd (λ_ h2=>?_) λ_ h2=>?_
 ·refine J.qr [1] λ_=>?_;have:G.die m b r s<0\/A5 N.dies N.blocks N.pages 0 b r=false:=by simpa using h2
  rw[R.read,if_pos this];exact⟨rfl,rfl⟩
 have hc:¬(G.die m b r s<0\/A5 N.dies N.blocks N.pages 0 b r=false):=by simpa using h2
 have hd:=b5m (m:=m) (b:=b) (r:=r) (s:=s) (by omega);have hsb:=C6 m;refine J.qp (a0t p N) [1] λ_=>?_;refine J.qd (λ_ h3=>?_) λ_ h3=>?_
 ·refine J.qr [1] λ_=>?_;have:N.off=true:=by simpa using h3
  rw[R.read,if_neg hc,if_pos this];exact⟨rfl,rfl⟩
 have hoff:¬N.off=true:=by simpa using h3
 obtain⟨k,rfl⟩:=Int.eq_ofNat_of_zero_le hd.1;have hlen:=J5 N b r m;have hdat:=O9 hN b r m;have hkn:k<(G.slots m).toNat:=by omega
 refine J.qc (b0K p N hN hR b r m) [1] λ_=>?_;rintro v As ⟨a1,c1,a2,c2,rfl,rfl⟩;refine⟨_,rfl,trivial,?_⟩;refine J.know (λh' s=>i9 (c:=(a1,c1)) (by omega) (s.get (i:=4) rfl)) λhg=>?_;obtain⟨g1,rfl⟩:=hg;refine J.know (λh' s=>i9 (c:=(a2,c2)) (by omega) (s.get (i:=5) rfl)) λhg=>?_;obtain⟨g2,rfl⟩:=hg;have hgd:(R.look N b r m).good[k]? =some ((R.look N b r m).good.getD k false):=by rw[List.getD_eq_getElem?_getD,List.getElem?_eq_getElem (by omega),Option.getD_some]
 have hsd:(R.look N b r m).slots[k]? =some ((R.look N b r m).slots.getD k Sh.zero):=by rw[List.getD_eq_getElem?_getD,List.getElem?_eq_getElem (by omega),Option.getD_some]
 have hr:R.read N b r k m=if(R.look N b r m).good.getD k false then(((R.look N b r m).slots.getD k Sh.zero).en,0)else if R.mendB (R.look N b r m) k then(R.mend (R.look N b r m) k,0)else(En.zero,10):=by
  rw[R.read,if_neg hc,if_neg hoff,Int.toNat_natCast]
 refine J.q λ_=>?_;refine J.v (.bool ((R.look N b r m).good.getD k false)) rfl rfl (λhg a w he hw=>?_) ?_
 ·exact j9 tk rfl rfl he rfl rfl rfl (hw.get (i:=5) rfl) (by rw[show 0+(k:Int).toNat*1=k from by omega];exact R9 hgd)
 refine J.qd (λ_ h4=>?_) λ_ h4=>?_
 ·refine J.q λ_=>?_;refine J.v (shV ((R.look N b r m).slots.getD k Sh.zero)) rfl rfl (λhg a w he hw=>?_) ?_
  ·exact n3 tk rfl rfl he rfl rfl rfl (hw.get (i:=4) rfl) (by rw[show 0+(k:Int).toNat*23=k*23 from by omega];exact R6 hsd) rfl
  refine J.qp (a4N ((R.look N b r m).slots.getD k Sh.zero)) [] λ_=>?_;refine J.qr [1] λ_=>?_;rw[hr,if_pos h4];exact⟨rfl,rfl⟩
 refine J.qp (a6e (R.look N b r m) (G.slots m).toNat (by omega) hlen.1 hlen.2 hdat.1 hdat.2 (some g1) (some g2) c1 c2 k) [4,5] λ_=>?_;refine J.qd (λ_ h5=>?_) λ_ h5=>?_
 ·refine J.qr [1] λ_=>?_;rw[hr,if_neg (by rw[h4];exact Bool.false_ne_true),if_pos h5];exact⟨rfl,rfl⟩
 ·refine J.qr [1] λ_=>?_;rw[hr,if_neg (by rw[h4];exact Bool.false_ne_true),if_neg (by rw[h5];exact Bool.false_ne_true)];exact⟨rfl,rfl⟩
def fnL (x:Fnd):List Value:=[iI x.en.lpn,iI x.en.seq,iI x.en.role,byC x.en.data 0,byC x.en.data 1,byC x.en.data 2,byC x.en.data 3,byC x.en.data 4,byC x.en.data 5,byC x.en.data 6,byC x.en.data 7,byC x.en.data 8,byC x.en.data 9,byC x.en.data 10,byC x.en.data 11,byC x.en.data 12,byC x.en.data 13,byC x.en.data 14,byC x.en.data 15,
 iI x.block,iI x.row,iI x.slot,iI x.mask, .bool x.whole, .bool x.mended]
def j5 (l:List Fnd):List Value:=l.flatMap fnL
theorem a5o (x:Fnd):(fnL x).length=25:=rfl
theorem x7 (l:List Fnd):(j5 l).length=l.length*25:=by
 induction l with
 | nil=>rfl
 | cons x l ih=>simp only[j5,List.flatMap_cons,List.length_append,List.length_cons]at ih ⊢;rw[ih,a5o];omega
theorem W7 (l:List Fnd) (x:Fnd):j5 (l++[x])=j5 l++fnL x:=by simp[j5]
theorem K7:∀{l:List Fnd} {k:Nat} {x:Fnd},l[k]? =some x->((j5 l).drop (k*25)).take 25=fnL x
 | [],_,_,h=>by simp at h
 | y::l,0,x,h=>by
  simp at h;subst h;rw[Nat.zero_mul,List.drop_zero];exact List.take_left' (a5o y)
 | y::l,k+1,x,h=>by
  have:=K7 (l:=l) (k:=k) (x:=x) (by simpa using h);rw[show(k+1)*25=25+k*25 from by omega,<- List.drop_drop];simp only[j5,List.flatMap_cons];rw[List.drop_left' (a5o y)];exact this
theorem a5u (x:Int):∀l:List Int,(o0 x l).length<=l.length
 | []=>Nat.le_refl _
 | y::l=>by
  unfold o0;split
  ·have h:=a5u y l;exact Nat.le_trans h (by simp)
  ·have h:=a5u y l;simpa using h
theorem a6R:∀l:List Int,(m9 l).length<=l.length
 | []=>Nat.le_refl _
 | x::l=>by have h:=a5u x l;simpa[m9]using h
theorem a3Y (N:Nand) (b r:Int):(M.masks N b r).length<=N.dies:=by
 unfold M.masks;refine Nat.le_trans (a6R _) ?_;rw[J7];refine Nat.le_trans (List.length_filterMap_le _ _) ?_;simp[M.rowN]
def a0s (N:Nand) (b r:Int) (i:Nat):List Fnd:=((M.masks N b r).take i).flatMap (R.allM N b r)
def M6 (N:Nand) (b r mk:Int) (i j:Nat):List Fnd:=a0s N b r i++(List.range j).filterMap (R.fnd (R.look N b r mk) b r mk)
theorem b2A (N:Nand) (b r m:Int):(R.allM N b r m).length<=7:=by
 unfold R.allM;refine Nat.le_trans (List.length_filterMap_le _ _) ?_;rw[List.length_range,(J5 N b r m).1];have:=C6 m;omega
theorem a2z (N:Nand) (b r:Int) (i:Nat) (h:N.dies<=6):(a0s N b r i).length<=42:=by
 have h1:∀l:List Int,(l.flatMap (R.allM N b r)).length<=7*l.length:=by
  intro l
  induction l with
  | nil=>simp
  | cons x l ih=>rw[List.flatMap_cons,List.length_append,List.length_cons];have:=b2A N b r x;omega
 have h2:=h1 ((M.masks N b r).take i);have h3:=a3Y N b r;have h4:((M.masks N b r).take i).length<=6:=by rw[List.length_take];omega
 unfold a0s;omega
theorem b0Z (N:Nand) (b r mk:Int) (i j:Nat) (h:N.dies<=6) (hj:j<=7):(M6 N b r mk i j).length<=49:=by
 have h1:=a2z N b r i h;have h2:=List.length_filterMap_le (R.fnd (R.look N b r mk) b r mk) (List.range j);rw[List.length_range]at h2;unfold M6;rw[List.length_append];omega
theorem a9g (N:Nand) (b r mk:Int) (i:Nat):M6 N b r mk i 0=a0s N b r i:=by simp[M6]
theorem a9h (N:Nand) (b r mk:Int) (i j:Nat):M6 N b r mk i (j+1)=M6 N b r mk i j++(R.fnd (R.look N b r mk) b r mk j).toList:=by
 unfold M6;rw[List.range_succ,List.filterMap_append,List.append_assoc];congr 2
theorem b1a (N:Nand) (b r mk:Int) (i:Nat) (h:(M.masks N b r)[i]? =some mk):M6 N b r mk i (G.slots mk).toNat=a0s N b r (i+1):=by
 unfold M6 a0s;rw[List.take_add_one,h,Option.toList_some,List.flatMap_append];congr 1;rw[List.flatMap_cons,List.flatMap_nil,List.append_nil,R.allM,(J5 N b r mk).1]
theorem b4o (p:Nat) (N:Nand) (hN:N.Ok) (hR:N.Room) (b r:Int):FP 110 [pp p,iI b,iI r] [g7 p N]
  (λv As=>∃a c,v=slv a (R.all N b r).length c/\As=[g7 p N,c8 186 25 a (R.all N b r).length c (j5 (R.all N b r))]):=by
 have hbd:=hN.bd;have hml:=a3Y N b r;refine FE [2,0,0] Tryz.func110 λX F hX=>?_;refine J.qc (a8u p N hN hR b r) [1] λ_=>?_;rintro v As ⟨am,cm,rfl,rfl⟩;refine⟨_,rfl,trivial,?_⟩;refine J.turn1 [] rfl (As:=[c8 186 25 none 0 0 (j5 (a0s N b r 0))]) (λh s=>Sep.one ⟨rfl,rfl,rfl⟩) rfl ?_;refine J.q λ_=>?_;refine J.l (α:=(Nat×Option Nat×Nat)) (λz=>z.1<=(M.masks N b r).length) (λz=>[si 20 z.1,⟨19,iI (M.masks N b r).length,0, .tt⟩,sv 18 (slv am (M.masks N b r).length cm),sv 7 (slv z.2.1 (a0s N b r z.1).length z.2.2),⟨0,pp p,2, .tt⟩,si 1 b,si 2 r]) [3] (λz=>[c8 186 25 z.2.1 (a0s N b r z.1).length z.2.2 (j5 (a0s N b r z.1))]) (λz=>(M.masks N b r).length-z.1) ((0,none,0)) (Nat.zero_le _) λz hI=>?_;obtain⟨i,ao,co⟩:=z;dsimp only at hI ⊢;refine J.qd (λ_ h1=>?_) λ_ h1=>?_
 ·simp only[decide_eq_true_eq,Int.ofNat_lt]at h1;refine J.know (λh' s=>i9 (c:=(am,cm)) (by omega) (s.get (i:=2) rfl)) λhg=>?_;obtain⟨gm,rfl⟩:=hg;obtain⟨mk,hmk⟩:∃mk,(M.masks N b r)[i]? =some mk:=⟨_,List.getElem?_eq_getElem h1⟩;refine J.q λ_=>?_;refine J.v (iI mk) rfl rfl (λhg a w he hw=>?_) ?_
  ·exact j9 tk rfl rfl he rfl rfl rfl (hw.get (i:=2) rfl) (by rw[show 0+(i:Int).toNat*1=i from by omega];exact R7 hmk)
  have hsb:=C6 mk;have hlen:=J5 N b r mk;have hdat:=O9 hN b r mk;refine J.q λb7=>?_;refine J.cb (b0K p N hN hR b r mk) [1] ?_;rintro v As ⟨a1,c1,a2,c2,rfl,rfl⟩;refine⟨_,rfl,trivial,?_⟩;have hfnd:∀j,R.fnd (R.look N b r mk) b r mk j=if R.okAt (R.look N b r mk) j&&(R.enAt (R.look N b r mk) j).role !=3 then some ⟨R.enAt (R.look N b r mk) j,b,r,j,mk,(R.look N b r mk).whole,!((R.look N b r mk).good.getD j false)⟩else none:=λj=>rfl
  have hout:=a9h N b r mk i;have hz:=a9g N b r mk i;have hall:=b1a N b r mk i hmk;have hol:∀j,j<=7->(M6 N b r mk i j).length<=49:=λj hj=>b0Z N b r mk i j (by omega) hj;have hnb:(G.slots mk).toNat<=7:=by omega
  rw[<- hz];generalize hf:R.look N b r mk=f at hlen hdat hfnd hout;generalize hn:(G.slots mk).toNat=n at hlen hall hnb;refine J.q λbbf=>?_;refine J.l (α:=(Nat×Option Nat×Nat)) (λz=>z.1<=n) (λz=>[si 32 z.1,si 31 n,sv 30 (slv a1 n c1),⟨10,pp (bbf 0),7, .tt⟩,si 9 mk,si 20 i,⟨19,iI (M.masks N b r).length,0, .tt⟩,sv 18 (slv (some gm) (M.masks N b r).length cm),sv 7 (slv z.2.1 (M6 N b r mk i z.1).length z.2.2),⟨0,pp p,2, .tt⟩,si 1 b,si 2 r]) [3] (λz=>[c8 186 25 z.2.1 (M6 N b r mk i z.1).length z.2.2 (j5 (M6 N b r mk i z.1))]) (λz=>n-z.1) ((0,ao,co)) (Nat.zero_le _) λz hI=>?_;obtain⟨j,ao,co⟩:=z;dsimp only at hI ⊢;refine J.qd (λ_ h2=>?_) λ_ h2=>?_
  ·simp only[decide_eq_true_eq,Int.ofNat_lt]at h2;refine J.know (λh' s=>i9 (c:=(a1,c1)) (by omega) (s.get (i:=4) rfl)) λhg=>?_;obtain⟨g1,rfl⟩:=hg;refine J.know (λh' s=>i9 (c:=(a2,c2)) (by omega) (s.get (i:=5) rfl)) λhg=>?_;obtain⟨g2,rfl⟩:=hg;obtain⟨s,hs⟩:∃s,f.slots[j]? =some s:=⟨_,List.getElem?_eq_getElem (by omega)⟩;obtain⟨gk,hgd⟩:∃g,f.good[j]? =some g:=⟨_,List.getElem?_eq_getElem (by omega)⟩;have hgk:f.good.getD j false=gk:=by rw[List.getD_eq_getElem?_getD,hgd,Option.getD_some]
   have hsk:f.slots.getD j Sh.zero=s:=by rw[List.getD_eq_getElem?_getD,hs,Option.getD_some]
   refine J.q λ_=>?_;refine J.v (shV s) rfl rfl (λhg a w he hw=>?_) ?_
   ·exact n3 tk rfl rfl he rfl rfl rfl (hw.get (i:=4) rfl) (by rw[show 0+(j:Int).toNat*23=j*23 from by omega];exact R6 hs) rfl
   obtain⟨bb,hbb⟩:∃x,bbf 0=x:=⟨_,rfl⟩;rw[hbb];refine J.p (.take false 0 (.take true 2 (.take false 3 (.take true 4 (.take true 5 (.take false 6 (.alt false 1 ((.of [30,34,36])) (.alt false 7 ((.of [6,34,36])) .non)))))))) [9] [5,6,7] λ_=>?_;refine J.join (α:=Nat) (λx=>[sv 14 (.bool gk),⟨13,pp x,8, .tt⟩,si 11 j,si 32 j,si 31 n,sv 30 (slv (some g1) n c1),⟨10,pp bb,7, .tt⟩,si 9 mk,si 20 i,⟨19,iI (M.masks N b r).length,0, .tt⟩,sv 18 (slv (some gm) (M.masks N b r).length cm),sv 7 (slv ao (M6 N b r mk i j).length co),⟨0,pp p,2, .tt⟩,si 1 b,si 2 r]) (λx=>[.hp F,g7 p N,c8 3 1 (some gm) (M.masks N b r).length cm (d5 (M.masks N b r)),c8 186 25 ao (M6 N b r mk i j).length co (j5 (M6 N b r mk i j)),c8 222 23 (some g1) n c1 (l7 f.slots),c8 4 1 (some g2) n c2 (C2 f.good), .pt bb 224 (fdL (some g1) c1 (some g2) c2 n f.parity f.whole), .pt x 132 (enL s.en)]) (λhj=>?_) (λx=>?_)
   ·skip
    refine J.qn 5 λ_=>?_;refine J.vT (.bool gk) rfl rfl (λ_ a w he hC=>j9 tk rfl rfl he rfl rfl rfl (hC rfl _ (d7 (i:=5) rfl)) (by rw[show 0+(j:Int).toNat*1=j from by omega];exact R9 hgd)) ?_;refine J.alts ?_ ?_
    ·skip
     refine J.qp (a4N s) [] λ_=>?_;refine J.qn 1 λb7=>?_;refine J.qn 3 λ_=>?_;exact J.goto [0,1,2,3,4,5,6,8] (hj (b7 0)) ⟨rfl,rfl,rfl,rfl,rfl,rfl,rfl,rfl,rfl,rfl,rfl,rfl,rfl,rfl,rfl,trivial⟩ rfl rfl
    ·skip
     refine J.qn 1 λb7=>?_;refine J.qp (a4N s) [] λ_=>?_;refine J.qn 3 λ_=>?_;exact J.goto [0,1,2,3,4,5,6,8] (hj (b7 0)) ⟨rfl,rfl,rfl,rfl,rfl,rfl,rfl,rfl,rfl,rfl,rfl,rfl,rfl,rfl,rfl,trivial⟩ rfl rfl
   refine J.q λ_=>?_;refine J.join (α:=Unit) (λ_=>[sv 14 (.bool (R.okAt f j)),⟨13,pp x,8, .tt⟩,si 11 j,si 32 j,si 31 n,sv 30 (slv (some g1) n c1),⟨10,pp bb,7, .tt⟩,si 9 mk,si 20 i,⟨19,iI (M.masks N b r).length,0, .tt⟩,sv 18 (slv (some gm) (M.masks N b r).length cm),sv 7 (slv ao (M6 N b r mk i j).length co),⟨0,pp p,2, .tt⟩,si 1 b,si 2 r]) (λ_=>[.hp F,g7 p N,c8 3 1 (some gm) (M.masks N b r).length cm (d5 (M.masks N b r)),c8 186 25 ao (M6 N b r mk i j).length co (j5 (M6 N b r mk i j)),c8 222 23 (some g1) n c1 (l7 f.slots),c8 4 1 (some g2) n c2 (C2 f.good), .pt bb 224 (fdL (some g1) c1 (some g2) c2 n f.parity f.whole), .pt x 132 (enL (R.enAt f j))]) (λhj=>?_) (λ_=>?_)
   ·refine J.qd (λ_ h3=>?_) λ_ h3=>?_
    ·simp only[Bool.not_eq_true']at h3;subst h3;refine J.qp (a6e f n (by omega) hlen.1 hlen.2 hdat.1 hdat.2 (some g1) (some g2) c1 c2 j) [4,5] λ_=>?_;rw[show R.okAt f j=R.mendB f j from by rw[R.okAt,hgk];rfl,show R.enAt f j=R.mend f j from by rw[R.enAt,hgk];rfl]at hj;refine J.qn 6 λ_=>?_;exact J.goto [0,1,2,3,4,5,6,7] (hj ()) ⟨rfl,rfl,rfl,rfl,rfl,rfl,rfl,rfl,rfl,rfl,rfl,rfl,rfl,rfl,rfl,trivial⟩ rfl rfl
    ·simp only[Bool.not_eq_false']at h3;subst h3;rw[show R.okAt f j=true from by rw[R.okAt,hgk];rfl,show R.enAt f j=s.en from by rw[R.enAt,hgk,if_pos rfl,hsk]]at hj;refine J.qn 1 λ_=>?_;exact J.goto [0,1,2,3,4,5,6,7] (hj ()) ⟨rfl,rfl,rfl,rfl,rfl,rfl,rfl,rfl,rfl,rfl,rfl,rfl,rfl,rfl,rfl,trivial⟩ rfl rfl
   have hf1:=hfnd j;have ho1:=hout j;have hol1:=hol j (by omega);generalize R.okAt f j=ok at hf1;generalize R.enAt f j=e at hf1;refine J.qd (λ_ h4=>?_) λ_ h4=>?_
   ·rw[if_pos h4,hgk]at hf1;rw[hf1,Option.toList_some]at ho1;have hsl:(M6 N b r mk i j).length+1=(M6 N b r mk i (j+1)).length:=by rw[ho1,List.length_append];rfl
    refine J.pn 14 (.of [0,5,8,12,16,20,24,28,33,36,41,44,48,53,56,60,66,70,72]) [18] [5,6,7] λ_ _=>?_;refine J.vT (.bool gk) rfl rfl (λ_ a w he hC=>j9 tk rfl rfl he rfl rfl rfl (hC rfl _ (d7 (i:=5) rfl)) (by rw[show 0+(j:Int).toNat*1=j from by omega];exact R9 hgd)) ?_;refine J.q λ_=>?_;refine J.append hX tk 3 8 0 rfl rfl rfl rfl rfl rfl rfl rfl rfl rfl rfl rfl rfl rfl rfl rfl ?_ ?_ (λ_=>rfl) λa4 c4=>⟨_,(congrArg (λz=>n5 _ 3 (c8 _ _ _ _ _ z)) ((W7 _ _).symm.trans (congrArg j5 ho1.symm))).trans rfl,⟨rfl,rfl,rfl,trivial⟩,?_⟩
    ·simp only[maxLen];omega
    ·omega
    rw[hsl];refine J.q λ_=>?_;rw[<- hbb];refine J.q λ_=>?_;refine J.n ((j+1,a4,c4)) (by dsimp only;omega) (by dsimp only;omega) [0,1,2,3,4,5,6]
   ·rw[if_neg (by rw[h4];exact Bool.false_ne_true)]at hf1;rw[hf1,Option.toList_none,List.append_nil]at ho1;rw[<- ho1];refine J.q λ_=>?_;rw[<- hbb];refine J.q λ_=>?_;refine J.n ((j+1,ao,co)) (by dsimp only;omega) (by dsimp only;omega) [0,1,2,3,4,5,6]
  ·simp only[decide_eq_false_iff_not,Int.ofNat_lt]at h2;obtain rfl:j=n:=by omega
   rw[hall];refine J.q λ_=>?_;refine J.n ((i+1,ao,co)) (by dsimp only;omega) (by dsimp only;omega) [0,1,2,3]
 ·simp only[decide_eq_false_iff_not,Int.ofNat_lt]at h1;obtain rfl:i=(M.masks N b r).length:=by omega
  have:a0s N b r (M.masks N b r).length=R.all N b r:=by unfold a0s R.all;rw[List.take_length]
  rw[this];refine J.qr [1,3] λ_=>?_;exact⟨ao,co,rfl,rfl⟩
theorem b1W (b r:Int) {mm:Nat}:∀(q:List (Int×Sh)) (N:Nand) (f:Int) (k:Nat),(∀x∈q,x.2.data.length=16)->N.Gd (q.length+k) mm->(R.go b r q N f).1.Gd k mm
 | [],N,f,k,_,h=>by rw[R.go];exact h.less (by simp) (Nat.le_refl _)
 | (d,s)::q,N,f,k,hd,h=>by
  have h1:(N.progN d b r (Z5 s)).Gd (q.length+k) mm:=Nand.Gd.prog (h.less (by rw[List.length_cons];omega) (Nat.le_refl _)) d b r _ (O2 s (hd (d,s) (by simp)));have hd':∀x∈q,x.2.data.length=16:=λx hx=>hd x (by simp[hx]);rw[R.go];split
  ·exact b1W b r q _ _ k hd' h1
  ·split
   ·exact h1.less (by omega) (Nat.le_refl _)
   ·exact b1W b r q _ _ k hd' h1
theorem b1F {b r m:Int} {l:List En} (hd:∀s∈l,s.data.length=16):∀x∈R.job b r m l,x.2.data.length=16:=by
 intro x hx;simp only[R.job,List.mem_append,List.mem_map,List.mem_range,List.mem_singleton]at hx;rcases hx with⟨k,hk,rfl⟩ | rfl
 ·refine hd _ ?_;rw[List.getD_eq_getElem?_getD,List.getElem?_eq_getElem hk];exact List.getElem_mem _
 ·exact W2 (λt ht=>by obtain⟨e,he,rfl⟩:=List.mem_map.1 ht;exact hd e he) _ rfl
theorem b0R {b r m:Int} {l:List En} (h:W.parB b r m l=true):(l.length:Int)=G.slots m/\1<=l.length/\l.length<=7/\∀e∈l,W.ok b r m e=true:=by
 simp only[W.parB,Bool.and_eq_true,decide_eq_true_eq,List.all_eq_true]at h;have:=C6 m;refine⟨h.1.1,?_,by omega,h.2⟩;cases l with
 | nil=>simp at h
 | cons x l=>simp
theorem a0h {N:Nand} {b r m:Int} {l:List En} {k mm:Nat} (hd:∀s∈l,s.data.length=16) (h:N.Gd (8+k) mm):(R.write N b r m l).1.Gd k mm:=by
 unfold R.write;split
 ·rename_i hB;have:=b0R hB;exact b1W b r _ _ _ k (b1F hd) (h.less (by rw[a5e];omega) (Nat.le_refl _))
 ·exact h.less (by omega) (Nat.le_refl _)
theorem a5m (b r:Int):∀(q:List (Int×Sh)) (N:Nand) (f:Int),N.Like (R.go b r q N f).1
 | [],N,f=>by rw[R.go];exact Nand.Like.refl N
 | (d,s)::q,N,f=>by
  rw[R.go];split
  ·exact(Nand.like_prog _ _ _ _ _).trans (a5m b r q _ _)
  ·split
   ·exact Nand.like_prog _ _ _ _ _
   ·exact(Nand.like_prog _ _ _ _ _).trans (a5m b r q _ _)
theorem a7e (N:Nand) (b r m:Int) (l:List En):N.Like (R.write N b r m l).1:=by
 unfold R.write;split
 ·exact a5m b r _ _ _
 ·exact Nand.Like.refl N
end Go.Proofs.YtgkpkpbnonmopaaGreat
namespace Go.Proofs.YtgkpkpbnonmopaaGreat
namespace Tl
def clean (t:Tl) (k:Int) (on:Bool):Tl:=t.set k {t.at_ k with used:=!on}
def hold (t:Tl) (k:Int) (on:Bool):Tl:=t.set k {t.at_ k with held:=on}
def die (t:Tl) (d:Int):Tl:=if t.hasDie d=true then⟨t.d,t.b,t.p,t.l,L.with_ t.dead d⟩else t
end Tl
def En.pad:En:=⟨0,0,3,zeros16⟩
structure Dv where
 N:Nand
 t:Tl
 T:Tb
 op:Int
 row:Int
 mask:Int
 next:Int
namespace Dv
def pick (S:Dv):Int:=B5 (λx y=>B3 (S.t.wear x) (S.t.wear y)) (j4 (v6 S.t S.T) S.op S.t.b)
def left (S:Dv):Bool:=decide (S.op>=0)&&decide (S.row<S.N.pages)&&decide (G.slots S.mask>0)
def slots (S:Dv):Int:=if S.left then G.slots S.mask else G.slots (S.t.mask S.pick)
def opened (S:Dv):Dv:={S with t:=S.t.clean S.pick false,op:=S.pick,row:=0,mask:=(S.t.clean S.pick false).mask S.pick}
def lose (f:Int) (S:Dv) (d:Nat):Dv:=
 if L.has f d then
  {S with t:=if S.N.deadAt d then S.t.die d else S.t.bad d S.op,mask:=L.without S.mask d}
 else S
def loses (S:Dv) (f:Int):Dv:=(List.range S.N.dies).foldl (lose f) S
def numAt (l:List En) (next:Int) (k:Nat):En:=if k<l.length then {l.getD k En.zero with seq:=next+k}else En.pad
def num (l:List En) (next:Int) (n:Nat):List En:=(List.range n).map (numAt l next)
def puts (T:Tb) (b r m:Int) (es:List En) (k:Nat):Tb:=(List.range k).foldl (λT (i:Nat)=>T.put (es.getD i En.zero) b r i m) T
def fit (S:Dv) (l:List En):Nat:=min l.length (G.slots S.mask).toNat
def es (S:Dv) (l:List En):List En:=num l S.next (G.slots S.mask).toNat
def wr (S:Dv) (l:List En):Nand×Int×Int:=R.write S.N S.op S.row S.mask (S.es l)
def wrote (S:Dv) (l:List En):Dv:={S with N:=(S.wr l).1,row:=S.row+1,next:=S.next+S.fit l}
def write:Nat->Dv->List En->Dv×Int×Int
 | 0,S,_=>(S,0,0)
 | k+1,S,l=>
  if l.length=0 then(S,0,0)
  else if S.left=false/\S.pick<0 then(S,0,11)
  else
   let S1:=if S.left then S else S.opened
   if S1.next>1099511627775-(S1.fit l:Int)+1 then(S1,0,11)
   else if(S1.wr l).2.2=1 then({S1 with next:=S1.next+S1.fit l,N:=(S1.wr l).1},0,1)
   else if(S1.wr l).2.2=0 then({S1.wrote l with T:=puts S1.T S1.op S1.row S1.mask (S1.es l) (S1.fit l)},S1.fit l,0)
   else if(S1.wr l).2.2=9 then(S1.wrote l,0,9)
   else write k ((S1.wrote l).loses (S1.wr l).2.1) l
def fuel:Nat:=160
def pen (S:Dv) (l:List En):Dv×Int×Int:=write fuel S l
def rd (S:Dv) (i:Int):En×Int:=
 let a:=(Tb.look S.T.at_ i).getD AtV.zero
 let x:=R.read S.N a.block a.row a.slot a.mask
 if x.2=9 then(En.zero,9)
 else if x.2≠0\/x.1.lpn≠i\/x.1.seq≠a.seq then(⟨i,0,4,zeros16⟩,0)
 else(x.1,0)
def rds (S:Dv):List Int->List En×Int
 | []=>([],0)
 | i::l=>if(S.rd i).2≠0 then([],(S.rd i).2)else((S.rd i).1::(rds S l).1,(rds S l).2)
def carryGo:Nat->Dv->List Int->Int->Dv×Int×Int
 | 0,S,_,done=>(S,done,0)
 | k+1,S,l,done=>
  if l.length=0 then(S,done,0)
  else
   let r:=S.rds (l.take (max S.slots 1).toNat)
   if r.2≠0 then(S,done,r.2)
   else
    let w:=S.pen r.1
    if w.2.2≠0 then(w.1,done+w.2.1,w.2.2)
    else carryGo k w.1 (l.drop w.2.1.toNat) (done+w.2.1)
def carry (S:Dv) (b most:Int):Dv×Int×Int:=
 let l:=(S.T.ins b).take (max most 0).toNat
 carryGo l.length S l 0
def eraseD (b m:Int) (x:Nand×Tl×Int) (d:Nat):Nand×Tl×Int:=
 if x.2.2≠0 then x
 else if L.has m d=false then x
 else
  let e:=x.1.eraseE d b
  (x.1.eraseN d b,if e=0 then x.2.1 else if e=9 then x.2.1 else if e=8 then x.2.1.die d else x.2.1.bad d b,if e=9 then 9 else 0)
def eraseB (N:Nand) (t:Tl) (b:Int):Nand×Tl×Int:=(List.range N.dies).foldl (eraseD b (t.mask b)) (N,t,0)
def wores (N:Nand) (t:Tl) (b:Int):Tl:=(List.range N.dies).foldl (λt (d:Nat)=>t.wore b (N.wornAt d b)) t
def eraseT (N:Nand) (t:Tl) (b:Int):Tl:=if(wores N t b).usable b then(wores N t b).clean b true else wores N t b
def erase (N:Nand) (t:Tl) (b:Int):Nand×Tl×Int:=
 let x:=eraseB N t b
 if x.2.2≠0 then x else(x.1,eraseT x.1 x.2.1 b,0)
def clearGo:List Int->Nand->Tl->Nand×Tl×Int
 | [],N,t=>(N,t,0)
 | b::l,N,t=>
  let x:=erase N t b
  if x.2.2≠0 then x else clearGo l x.1 x.2.1
def clearX (N:Nand) (t:Tl) (T:Tb) (o:Int):Nand×Tl×Int:=clearGo (j4 (y0 t T) o t.b) N t
def clear(S:Dv):Dv×Int:=
 let x:=clearX S.N S.t S.T S.op
 ({S with N:=x.1,t:=x.2.1},x.2.2)
def victim (S:Dv):Int:=B5 (λx y=>orI [B3 (S.T.count x) (S.T.count y),B3 (S.t.wear x) (S.t.wear y)]) (j4 (M5 S.t S.T) S.op S.t.b)
def free (S:Dv):Nat:=(j4 (v6 S.t S.T) S.op S.t.b).length
def roomGo:Nat->Dv->Dv×Int
 | 0,S=>(S,0)
 | k+1,S=>
  if(S.free:Int)>4 then(S,0)
  else if S.victim<0\/S.T.count S.victim>=S.t.p*G.slots (S.t.mask S.victim)then(S,0)
  else
   let c:=S.carry S.victim (S.T.count S.victim)
   if c.2.2≠0 then(c.1,c.2.2)
   else
    let d:=c.1.clear
    if d.2≠0 then d else roomGo k d.1
def room (S:Dv):Dv×Int:=if S.clear.2≠0 then S.clear else roomGo S.t.b S.clear.1
def hurts (S:Dv):List Int:=j4 (J1 S.t S.T) (-1) S.t.b
def leftN (S:Dv):Int:=(S.hurts.map S.T.count).sum
def seeDead (N:Nand) (t:Tl):Tl:=(List.range t.d).foldl (λt (d:Nat)=>if N.deadAt d then t.die d else t) t
def seen (S:Dv):Dv:={S with t:=seeDead S.N S.t}
def step (S:Dv) (most:Int):Dv×Int×Int:=
 let r:=S.seen.room
 if r.2≠0 then(r.1,0,r.2)
 else match r.1.hurts with
  | []=>(r.1,0,0)
  | b::_=>r.1.carry b most
def tornGo:Nat->Dv->List En->Dv×Int
 | 0,S,_=>(S,0)
 | k+1,S,l=>
  if l.length=0 then(S,0)
  else
   let r:=S.room
   if r.2≠0 then r
   else
    let w:=r.1.pen l
    if w.2.2≠0 then(w.1,w.2.2)else tornGo k w.1 (l.drop w.2.1.toNat)
def torn (S:Dv) (l:List En):Dv×Int:=tornGo l.length S l
end Dv
end Go.Proofs.YtgkpkpbnonmopaaGreat
namespace Go.Proofs.YtgkpkpbnonmopaaGreat
open Go.RowKit
set_option maxRecDepth 100000 in
theorem b5B (w:World):Calls Tryz.prog 327 #[.int .i64 (-1)] w λe w'=>e= .returned (.int .u64 1)/\w=w':=by
 go_enter Tryz.func327,Tryz.ntmps327
 go_wp2
 go_ret
 exact⟨by kernel_rfl,rfl⟩
set_option maxRecDepth 100000 in
theorem b5E (w:World):Calls Tryz.prog 328 #[.int .u64 1] w λe w'=>e= .returned (.int .i64 (-1))/\w=w':=by
 go_enter Tryz.func328,Tryz.ntmps328
 go_wp2
 go_ret
 exact⟨by kernel_rfl,rfl⟩
set_option maxRecDepth 100000 in
theorem b1i (w:World):Calls Tryz.prog 329 #[.int .i64 255, .int .i64 8] w λe w'=>e= .returned (.int .i64 (-1))/\w=w':=by
 go_enter Tryz.func329,Tryz.ntmps329
 go_wp2
 go_ret
 exact⟨by kernel_rfl,rfl⟩
set_option maxRecDepth 100000 in
theorem b1h (w:World):Calls Tryz.prog 329 #[.int .i64 1, .int .i64 0] w λe w'=>e= .returned (.int .i64 0)/\w=w':=by
 go_enter Tryz.func329,Tryz.ntmps329
 go_wp2
 go_ret
 exact⟨by kernel_rfl,rfl⟩
end Go.Proofs.YtgkpkpbnonmopaaGreat
namespace Go.Proofs.YtgkpkpbnonmopaaGreat
open Go Go.RowKit
def nk (k:Nat):Nat:=match k with | 0=>0 | _+1=>1
def vb (k:Nat):Int:=match k with | 0=>0 | 1=>128 | 2=>128 | _=>160
def vq (k:Nat):Int:=match k with | 0=>0 | _=>128
def vl (k:Nat):List Value:=match k with | 0=>[] | k+1=>[.int .u8 (vb (k+1))]
theorem a8G (n:Int):FP 277 [iI n] [] (Ps (.bool (decide (n>=1)&&decide (n<=64))) []):=by
 refine FE [0] Tryz.func277 λX F hX=>?_;exact J.qx []
theorem b5w (g:Nat):FP 261 [pp g, .int .u64 5,iI 3] [.pt g 320 [.slice none 0 0,iI 0]]
  (λv As=>v= .bool true/\∃a cap,As=[.pt g 320 [slv a 1 cap,iI 3],c8 5 1 a 1 cap [.int .u8 160]]):=by
 refine FE [2,0,0] Tryz.func261 λX F hX=>?_;refine J.qp (a8G 3) [] λ_=>?_;refine J.qF λ_=>?_;refine J.turn1 [] rfl (As:=[c8 5 1 none 0 0 (vl 0)]) (λh s=>Sep.one ⟨rfl,rfl,rfl⟩) rfl ?_;refine J.q λ_=>?_;refine J.l (α:=(Nat×Option Nat×Nat)) (λz=>z.1<=3) (λz=>[si 7 (2-z.1),⟨0,pp g,2, .tt⟩,⟨1, .int .u64 5,0, .tt⟩]) [1,2] (λz=>[.pt g 320 [slv z.2.1 (nk z.1) z.2.2,iI z.1],c8 5 1 z.2.1 (nk z.1) z.2.2 (vl z.1)]) (λz=>3-z.1) ((0,none,0)) (Nat.zero_le _) λz hI=>?_;obtain⟨k,a,cap⟩:=z;dsimp only at hI ⊢;rcases(by omega:k=0\/k=1\/k=2\/k=3)with rfl | rfl | rfl | rfl
 ·--bit 0
  refine J.qT λ_=>?_;refine J.qT λ_=>?_;refine J.q λ_=>?_;refine J.append hX tk 2 3 0 rfl rfl rfl rfl rfl rfl rfl rfl rfl rfl rfl rfl rfl rfl rfl rfl (by decide) (by decide) (λ_=>rfl) λa cap=>⟨_,rfl,trivial,?_⟩;refine J.know (λh' s=>i9 (c:=(a,cap)) (by decide) (s.get (i:=2) rfl)) λhg=>?_;obtain⟨ga,rfl⟩:=hg;refine J.openOwn 2 rfl rfl (λ_=>rfl) λr q1 q2 q3 q4=>?_;refine J.pq (.of [0,4,8,13,16,20,24,29,32,36,41,44,48,52,56,60,64,68,72,77,80,84,88,92,96,103]) [24,25] [1,2] λ_ _=>?_;refine J.vT (.int .u8 (vq 0)) rfl rfl (λhg a w he hC=>?_) ?_
  ·exact f9 tk rfl rfl he hg rfl rfl (hC rfl _ (d7 (i:=2) rfl)) rfl
  refine J.q λ_=>?_;refine J.s1 2 (.int .u8 (vb 1)::r) ?_ ?_ ?_
  ·exact Nat.succ_pos _
  ·rfl
  refine J.closeOwn (e:=5) (size:=1) (n:=1) (cap:=cap) (xs:=[.int .u8 (vb 1)]) 2 rfl rfl rfl q2 q3 (by rw[List.length_cons,Nat.add_comm];exact q4) rfl rfl ?_;refine J.q λ_=>?_;refine J.n ((1,some ga,cap)) (by dsimp only;omega) (by dsimp only;omega) [0,1,2]
 ·--bit 1
  refine J.qT λ_=>?_;refine J.qF λ_=>?_;refine J.know (λh' s=>i9 (c:=(a,cap)) (by decide) (s.get (i:=2) rfl)) λhg=>?_;obtain⟨ga,rfl⟩:=hg;refine J.openOwn 2 rfl rfl (λ_=>rfl) λr q1 q2 q3 q4=>?_;refine J.pq (.of [0,4,8,13,16,20,24,29,32,36,41,44,48,52,56,60,64,68,72,77,80,84,88,92,96,103]) [24,25] [1,2] λ_ _=>?_;refine J.vT (.int .u8 (vq 1)) rfl rfl (λhg a w he hC=>?_) ?_
  ·exact f9 tk rfl rfl he hg rfl rfl (hC rfl _ (d7 (i:=2) rfl)) rfl
  refine J.q λ_=>?_;refine J.s1 2 (.int .u8 (vb 2)::r) ?_ ?_ ?_
  ·exact Nat.succ_pos _
  ·rfl
  refine J.closeOwn (e:=5) (size:=1) (n:=1) (cap:=cap) (xs:=[.int .u8 (vb 2)]) 2 rfl rfl rfl q2 q3 (by rw[List.length_cons,Nat.add_comm];exact q4) rfl rfl ?_;refine J.q λ_=>?_;refine J.n ((2,some ga,cap)) (by dsimp only;omega) (by dsimp only;omega) [0,1,2]
 ·--bit 2
  refine J.qT λ_=>?_;refine J.qF λ_=>?_;refine J.know (λh' s=>i9 (c:=(a,cap)) (by decide) (s.get (i:=2) rfl)) λhg=>?_;obtain⟨ga,rfl⟩:=hg;refine J.openOwn 2 rfl rfl (λ_=>rfl) λr q1 q2 q3 q4=>?_;refine J.pq (.of [0,4,8,13,16,20,24,29,32,36,41,44,48,52,56,60,64,68,72,77,80,84,88,92,96,103]) [24,25] [1,2] λ_ _=>?_;refine J.vT (.int .u8 (vq 2)) rfl rfl (λhg a w he hC=>?_) ?_
  ·exact f9 tk rfl rfl he hg rfl rfl (hC rfl _ (d7 (i:=2) rfl)) rfl
  refine J.q λ_=>?_;refine J.s1 2 (.int .u8 (vb 3)::r) ?_ ?_ ?_
  ·exact Nat.succ_pos _
  ·rfl
  refine J.closeOwn (e:=5) (size:=1) (n:=1) (cap:=cap) (xs:=[.int .u8 (vb 3)]) 2 rfl rfl rfl q2 q3 (by rw[List.length_cons,Nat.add_comm];exact q4) rfl rfl ?_;refine J.q λ_=>?_;refine J.n ((3,some ga,cap)) (by dsimp only;omega) (by dsimp only;omega) [0,1,2]
 ·refine J.qF λ_=>?_;refine J.qr [1,2] λ_=>?_;exact⟨rfl,a,cap,rfl⟩
theorem b5v (g:Nat) (a:Option Nat) (cap:Nat):FP 261 [pp g, .int .u64 2,iI 1] [.pt g 320 [slv a 1 cap,iI 3]]
  (Ps (.bool false) [.pt g 320 [slv a 1 cap,iI 3]]):=by
 refine FE [2,0,0] Tryz.func261 λX F hX=>?_;refine J.qp (a8G 1) [] λ_=>?_;refine J.qT λ_=>?_;exact J.qx [1]
theorem b6e (g:Nat) (a:Option Nat) (m cap:Nat) (k:Int):FP 331 [pp g] [.pt g 320 [slv a m cap,iI k]]
  (Ps (iI k) [.pt g 320 [slv a m cap,iI k]]):=by
 refine FE [2] Tryz.func331 λX F hX=>?_;refine J.qF λ_=>?_;exact J.qx [1]
theorem b0h (a:Option Nat) (n cap:Nat) (l:List Value) (hl:l.length=n) (h1:∀u∈l,u.oneCell'=true) (hn:n<=1000000):FP 280 [slv a n cap] [c8 5 1 a n cap l]
  (λv As=>∃a' c',v=slv a' n c'/\As=[c8 5 1 a n cap l,c8 5 1 a' n c' l]):=by
 refine FE [0] Tryz.func280 λX F hX=>?_;cases a with
 | none=>
  refine J.know (λh' s=>(s.get (i:=1) rfl).2) λhn0=>?_;obtain⟨rfl,rfl⟩:=hn0;have:l=[]:=List.eq_nil_of_length_eq_zero hl;subst this;refine J.qT λ_=>?_;refine J.turn1 [] rfl (As:=[c8 5 1 none 0 0 []]) (λh s=>Sep.one ⟨rfl,rfl,rfl⟩) rfl ?_;refine J.qr [1,2] λ_=>?_;exact⟨none,0,rfl,rfl⟩
 | some g=>
  refine J.qF λ_=>?_;refine J.qn 5 λbb=>?_;refine J.closeOwn (e:=5) (size:=1) (n:=0) (cap:=0) (xs:=[]) 2 rfl rfl rfl (Nat.le_refl _) (Nat.zero_le _) rfl rfl rfl ?_;refine J.q λ_=>?_;refine J.appendR hX tk (a:=some (bb 0)) (n:=0) (cap:=0) (xs:=[]) (oo:=0) (Ay:=c8 5 1 (some g) n cap l) 2 1 0 rfl rfl rfl rfl rfl rfl rfl rfl rfl rfl (B8 _ _ (some g) _ _ _) rfl rfl rfl rfl h1 ?_ ?_ (λ_=>rfl) λa' c'=>⟨_,rfl,trivial,?_⟩
  ·simp only[maxLen];omega
  ·omega
  rw[Nat.zero_add n,List.nil_append];refine J.qr [1,2] λ_=>?_;exact⟨a',c',rfl,rfl⟩
theorem b4f (g:Nat) (a:Option Nat) (m cap:Nat) (k:Int) (l:List Value) (hl:l.length=m) (h1:∀u∈l,u.oneCell'=true) (hn:m<=1000000):FP 263 [pp g] [.pt g 320 [slv a m cap,iI k],c8 5 1 a m cap l]
  (λv As=>∃a' c',v=slv a' m c'/\As=[.pt g 320 [slv a m cap,iI k],c8 5 1 a m cap l,c8 5 1 a' m c' l]):=by
 refine FE [2] Tryz.func263 λX F hX=>?_;refine J.qF λ_=>?_;refine J.qc (b0h a m cap l hl h1 hn) [2] λ_=>?_;rintro v As ⟨a',c',rfl,rfl⟩;refine⟨_,rfl,trivial,?_⟩;refine J.qr [1,2,3] λ_=>?_;exact⟨a',c',rfl,rfl⟩
theorem b5u (a:Option Addr) (n cap:Nat):FP 254 [.slice a n cap] [] (λv As=>∃g,v=pp g/\As=[.pt g 333 [.slice a n cap,iI 0]]):=by
 refine FE [0] Tryz.func254 λX F hX=>?_;refine J.q λbb=>?_;refine J.ru hX [1] ?_;exact⟨bb 0,rfl,rfl⟩
theorem a7P (g b:Nat) (k:Int) (h0:0<=k) (h1:k<=8):FP 278 [pp g] [.pt g 333 [.slice (some ⟨b,0,none⟩) 1 1,iI k]]
  (Ps (iI (8-k)) [.pt g 333 [.slice (some ⟨b,0,none⟩) 1 1,iI k]]):=by
 refine FE [2] Tryz.func278 λX F hX=>?_;refine J.qF λ_=>?_;refine J.p (.of [0,4,8,13,16,20,24,28,32,37,40,44]) [11] [1] λ_=>?_;exact J.qx [1]
theorem b5x (g b:Nat):FP 255 [pp g,iI 9] [.pt g 333 [.slice (some ⟨b,0,none⟩) 1 1,iI 4]]
  (Ps (.tuple #[.int .u64 0, .bool false]) [.pt g 333 [.slice (some ⟨b,0,none⟩) 1 1,iI 4]]):=by
 refine FE [2,0] Tryz.func255 λX F hX=>?_;refine J.qp (a8G 9) [] λ_=>?_;refine J.qp (a7P g b 4 (by decide) (by decide)) [1] λ_=>?_;refine J.qT λ_=>?_;exact J.qx [1]
def vg (k:Nat):Int:=match k with | 0=>0 | 1=>1 | 2=>2 | 3=>5 | _=>10
theorem b5y (g b:Nat):FP 255 [pp g,iI 4] [.pt g 333 [.slice (some ⟨b,0,none⟩) 1 1,iI 0], .pt b 5 [.int .u8 165]]
  (Ps (.tuple #[.int .u64 10, .bool true]) [.pt g 333 [.slice (some ⟨b,0,none⟩) 1 1,iI 4], .pt b 5 [.int .u8 165]]):=by
 refine FE [2,0] Tryz.func255 λX F hX=>?_;refine J.qp (a8G 4) [] λ_=>?_;refine J.qp (a7P g b 0 (by decide) (by decide)) [1] λ_=>?_;refine J.qF λ_=>?_;refine J.q λ_=>?_;refine J.l (α:=Nat) (λk=>k<=4) (λk=>[⟨6, .int .u64 (vg k),0, .tt⟩,si 7 4,⟨0,pp g,2, .tt⟩]) [1] (λk=>[.pt g 333 [.slice (some ⟨b,0,none⟩) 1 1,iI k]]) (λk=>4-k) (0) (Nat.zero_le _) λk hI=>?_;rcases(by omega:k=0\/k=1\/k=2\/k=3\/k=4)with rfl | rfl | rfl | rfl | rfl
 ·refine J.qT λ_=>?_;refine J.pq (.of [0,4,8,12,16,21,24,28,32,37,40,44,49,52,56,60,65,68,72,76,80,84,88,92]) [23] [1,2] λ_ _=>?_;refine J.vT (.int .u8 165) rfl rfl (λhg a w he hC=>?_) ?_
  ·exact f9 tk rfl rfl he hg rfl rfl (hC rfl _ (d7 (i:=2) rfl)) rfl
  refine J.q λ_=>?_;refine J.n (1) (by omega) (by omega) [0,1,2]
 ·refine J.qT λ_=>?_;refine J.pq (.of [0,4,8,12,16,21,24,28,32,37,40,44,49,52,56,60,65,68,72,76,80,84,88,92]) [23] [1,2] λ_ _=>?_;refine J.vT (.int .u8 165) rfl rfl (λhg a w he hC=>?_) ?_
  ·exact f9 tk rfl rfl he hg rfl rfl (hC rfl _ (d7 (i:=2) rfl)) rfl
  refine J.q λ_=>?_;refine J.n (2) (by omega) (by omega) [0,1,2]
 ·refine J.qT λ_=>?_;refine J.pq (.of [0,4,8,12,16,21,24,28,32,37,40,44,49,52,56,60,65,68,72,76,80,84,88,92]) [23] [1,2] λ_ _=>?_;refine J.vT (.int .u8 165) rfl rfl (λhg a w he hC=>?_) ?_
  ·exact f9 tk rfl rfl he hg rfl rfl (hC rfl _ (d7 (i:=2) rfl)) rfl
  refine J.q λ_=>?_;refine J.n (3) (by omega) (by omega) [0,1,2]
 ·refine J.qT λ_=>?_;refine J.pq (.of [0,4,8,12,16,21,24,28,32,37,40,44,49,52,56,60,65,68,72,76,80,84,88,92]) [23] [1,2] λ_ _=>?_;refine J.vT (.int .u8 165) rfl rfl (λhg a w he hC=>?_) ?_
  ·exact f9 tk rfl rfl he hg rfl rfl (hC rfl _ (d7 (i:=2) rfl)) rfl
  refine J.q λ_=>?_;refine J.n (4) (by omega) (by omega) [0,1,2]
 ·refine J.qF λ_=>?_;exact J.qx [1,2]
theorem b6k:FP 264 [.slice none 0 0] [] (Ps (.int .u32 4294967295) []):=by
 refine FE [0] Tryz.func264 λX F hX=>?_;refine J.q λ_=>?_;refine J.l (α:=Nat) (λk=>k<=0) (λk=>[si 8 0,si 7 0,⟨3, .int .u32 4294967295,0, .tt⟩]) [] (λk=>[]) (λk=>0) (0) (Nat.zero_le _) λk hI=>?_;refine J.qF λ_=>?_;exact J.qx []
theorem b5a:FP 281 [.int .u32 0, .int .u8 128] [] (Ps (.int .u32 (K.step 0 128:Nat)) []):=Fn.of_same (a4d 0 128 (by decide) (by decide))
theorem b5F:FP 327 [iI (-1)] [] (Ps (.int .u64 1) []):=Fn.of_same b5B
theorem b5G:FP 328 [.int .u64 1] [] (Ps (iI (-1)) []):=Fn.of_same b5E
theorem a8M:FP 329 [iI 255,iI 8] [] (Ps (iI (-1)) []):=Fn.of_same b1i
theorem a8L:FP 329 [iI 1,iI 0] [] (Ps (iI 0) []):=Fn.of_same b1h
theorem b4w:FP 330 [.int .u32 1,iI 33] [] (Ps (.int .u32 2) []):=by
 refine FE [0,0] Tryz.func330 λX F hX=>?_;refine J.p (.of [0,4,8,12,16,20,24,28,32]) [7,8] [] λ_=>?_;exact J.qx []
theorem b1B:FP 325 [] [] (Ps (.bool true) []):=by
 refine FE [] Tryz.func325 λX F hX=>?_;refine J.q λb1=>?_;refine J.cb (b5w (b1 0)) [1] ?_;rintro v As ⟨rfl,a,cap,rfl⟩;refine⟨_,rfl,trivial,?_⟩;refine J.qp (b5v (b1 0) a cap) [1] λ_=>?_;refine J.q λb2=>?_;refine J.cb (b5u (some ⟨b2 0,0,none⟩) 1 1) [] ?_;rintro v As ⟨g,rfl,rfl⟩;refine⟨_,rfl,trivial,?_⟩;refine J.qp (b5y g (b2 0)) [4,3] λ_=>?_;refine J.qp (b5x g (b2 0)) [4] λ_=>?_;refine J.qc (b4f (b1 0) a 1 cap 3 [.int .u8 160] rfl (by decide) (by decide)) [1,2] λ_=>?_;rintro v As ⟨a2,c2,rfl,rfl⟩;refine⟨_,rfl,trivial,?_⟩;refine J.know (λh' s=>i9 (c:=(a2,c2)) (by decide) (s.get (i:=5) rfl)) λhg=>?_;obtain⟨g2,rfl⟩:=hg;refine J.qp (b5F) [] λ_=>?_;refine J.qp (b5G) [] λ_=>?_;refine J.qp (a8M) [] λ_=>?_;refine J.qp (a8L) [] λ_=>?_;refine J.qp (b4w) [] λ_=>?_;refine J.qp (b6e (b1 0) a 1 cap 3) [1] λ_=>?_;refine J.q λ_=>?_;refine J.v (.int .u8 160) rfl rfl (λhg a w he hw=>?_) ?_
 ·exact j9 tk rfl rfl he hg rfl rfl (hw.get (i:=5) rfl) rfl
 refine J.qp (a7P g (b2 0) 4 (by decide) (by decide)) [4] λ_=>?_;refine J.qp (b6k) [] λ_=>?_;refine J.qp (b5a) [] λ_=>?_;refine J.qp (a8x 3) [] λ_=>?_;refine J.qp (b6z 6 0 (by decide) (by decide)) [] λ_=>?_;refine J.qp (b4Y 6 2) [] λ_=>?_;refine J.qp (b3D 6) [] λ_=>?_;refine J.qr [] λ_=>?_;exact⟨by kernel_rfl,rfl⟩
theorem b1C:FP 321 [] [] (Ps (.bool true) []):=by
 refine FE [] Tryz.func321 λX F hX=>?_;refine J.qp (b1B) [] λ_=>?_;exact J.qx []
end Go.Proofs.YtgkpkpbnonmopaaGreat
