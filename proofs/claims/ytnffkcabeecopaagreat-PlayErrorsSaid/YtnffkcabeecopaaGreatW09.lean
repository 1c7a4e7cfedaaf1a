/- Helpers. No condition. -/
import Derived.Test.YtnffkcabeecopaaGreatW04
import Derived.Test.YtnffkcabeecopaaGreatW06
import Derived.Test.YtnffkcabeecopaaGreatW07
import Derived.Test.YtnffkcabeecopaaGreatW08
set_option maxRecDepth 20000
set_option linter.all false
namespace Go.Proofs.YtnffkcabeecopaaGreat
open Go Go.RowKit
def H6 (l:List Bool):List Value:=l.map .bool
theorem a7K (l:List Bool) (x:Bool):H6 (l++[x])=H6 l++[.bool x]:=by simp[H6]
theorem W0 {l:List Bool} {k:Nat} {x:Bool} (h:l[k]? =some x):(H6 l)[k]? =some (.bool x):=by simp[H6,h]
def fdL (a1:Option Nat) (c1:Nat) (a2:Option Nat) (c2 n:Nat) (s:Sh) (w:Bool):List Value:=[slv a1 n c1,slv a2 n c2,byC s.data 0,byC s.data 1,byC s.data 2,byC s.data 3,byC s.data 4,byC s.data 5,byC s.data 6,byC s.data 7,byC s.data 8,byC s.data 9,byC s.data 10,byC s.data 11,byC s.data 12,byC s.data 13,byC s.data 14,byC s.data 15,
 iI s.role,iI s.lpn,iI s.seq,iI s.kind,iI s.block,iI s.row,iI s.mask, .bool w]
theorem a5M (s:Sh):FP 145 [shV s] [] (Ps (enV s.en) []):=by
 refine FE [0] Tryz.func145 λX F hX=>?_;exact J.qx []
theorem a8V (p:Nat) (N:Nand) (hN:N.Ok) (hR:N.Room) (b r m d:Int) (b1 b2 b3 b4:Nat):FP 203 [iI d,pp b1,pp b2,pp b3,pp b4] [i4 p N, .pt b1 42 [pp p], .pt b2 3 [iI b], .pt b3 3 [iI r], .pt b4 3 [iI m]]
  (Ps (.tuple #[shV (R.one N b r m d).1, .bool (R.one N b r m d).2]) [i4 p N, .pt b1 42 [pp p], .pt b2 3 [iI b], .pt b3 3 [iI r], .pt b4 3 [iI m]]):=by
 refine FE [0,3,4,5,6] Tryz.func203 λX F hX=>?_;refine J.q λb2=>?_;refine J.q λb3=>?_;refine J.cb (a1u p N hN hR d b r) [1] ?_;refine cpq ⟨_,rfl,trivial,?_⟩;refine J.q λb4=>?_;refine J.plan (.of [1,4,8,12,16,21,25,28,32,38,40]) [10] [5,7] (by rw[hX.hP];kernel_rfl) (by kernel_rfl) ?_;exact J.qx [1,2,3,4,5]
theorem a4J (N:Nand) (b r m:Int) (k:Nat):R.ones N b r m (k+1)=R.ones N b r m k++[R.one N b r m (G.die m b r (k:Nat))]:=by simp[R.ones,List.range_succ]
theorem b1U (p:Nat) (N:Nand) (hN:N.Ok) (hR:N.Room) (b r m:Int):FP 144 [pp p,iI b,iI r,iI m] [i4 p N]
  (λv As=>∃a1 c1 a2 c2,v= .agg (fdL a1 c1 a2 c2 (G.slots m).toNat (R.look N b r m).parity (R.look N b r m).whole).toArray/\As=[i4 p N,c9 234 23 a1 (G.slots m).toNat c1 (m7 (R.look N b r m).slots),c9 4 1 a2 (G.slots m).toNat c2 (H6 (R.look N b r m).good)]):=by
 have hsb:=I1 m;obtain⟨P,hP⟩:∃P,R.one N b r m (G.parity m b r)=P:=⟨_,rfl⟩;refine FE [2,0,0,0] Tryz.func144 λX F hX=>?_;refine J.q λbb=>?_;refine J.cb (L6 m b r) [] ?_;refine cpq ⟨_,rfl,trivial,?_⟩;refine J.q λb8=>?_;refine J.cb (a8V p N hN hR b r m (G.parity m b r) (bb 0) (bb 1) (bb 2) (bb 3)) [1,2,3,4,5] ?_;refine cpq ⟨_,rfl,trivial,?_⟩;rw[hP];refine J.qp (K6 m) [] λ_=>?_;refine J.turn1 [] rfl (As:=[c9 234 23 none 0 0 (m7 []),c9 4 1 none 0 0 (H6 [])]) (λh s=>⟨λ_=>0,λi A hA=>by
  match i,hA with
  | 0,hA=>simp at hA;subst hA;exact⟨rfl,rfl,rfl⟩
  | 1,hA=>simp at hA;subst hA;exact⟨rfl,rfl,rfl⟩
  | k+2,hA=>simp at hA⟩) rfl ?_
 refine J.q λ_=>?_;refine J.l (α:=(Nat×Option Nat×Nat×Option Nat×Nat)) (λz=>z.1<=(G.slots m).toNat) (λz=>[si 28 z.1,si 27 (G.slots m),⟨9,fnC 203 [pp (bb 0),pp (bb 1),pp (bb 2),pp (bb 3)],0, .tt⟩,⟨4,pp (bb 0),3, .tt⟩,⟨5,pp (bb 1),4, .tt⟩,⟨6,pp (bb 2),5, .tt⟩,⟨7,pp (bb 3),6, .tt⟩,⟨8,pp (bb 4),7, .tt⟩,⟨10,pp (bb 5),8, .tt⟩]) [7,8,9] (λz=>[.pt (bb 5) 236 (fdL z.2.1 z.2.2.1 z.2.2.2.1 z.2.2.2.2 z.1 P.1 P.2),c9 234 23 z.2.1 z.1 z.2.2.1 (m7 ((R.ones N b r m z.1).map (·.1))),c9 4 1 z.2.2.2.1 z.1 z.2.2.2.2 (H6 ((R.ones N b r m z.1).map (·.2)))]) (λz=>(G.slots m).toNat-z.1) ((0,none,0,none,0)) (Nat.zero_le _) λz hI=>?_;obtain⟨k,a1,c1,a2,c2⟩:=z;dsimp only at hI ⊢;refine J.qd (λ_ h1=>?_) λ_ h1=>?_
 ·simp only[decide_eq_true_eq]at h1;have hS1:m7 ((R.ones N b r m k).map (·.1))++shL (R.one N b r m (G.die m b r k)).1=m7 ((R.ones N b r m (k+1)).map (·.1)):=by rw[a4J,List.map_append,<- x9];rfl
  have hS2:H6 ((R.ones N b r m k).map (·.2))++[.bool (R.one N b r m (G.die m b r k)).2]=H6 ((R.ones N b r m (k+1)).map (·.2)):=by rw[a4J,List.map_append,<- a7K];rfl
  refine J.qp (a9n m b r k (by omega) (by omega)) [] λ_=>?_;refine J.qp (a8V p N hN hR b r m (G.die m b r k) (bb 0) (bb 1) (bb 2) (bb 3)) [1,2,3,4,5] λ_=>?_;refine J.p (.take true 0 (.take false 1 (.take false 2 (.take true 5 (.take false 6 (.take true 7 (.alt false 3 ((.alt false 4 ((.of [40,34,38,47,48,55])) (.alt false 8 ((.of [18,40,38,47,48,55])) .non))) (.alt false 8 ((.of [14,18,40,38,47,48,55])) .non)))))))) [11,12,13] [7,10] λ_=>?_;refine J.join (α:=Option Nat×Nat×Option Nat×Nat) (λx=>[si 28 k,si 27 (G.slots m),⟨9,fnC 203 [pp (bb 0),pp (bb 1),pp (bb 2),pp (bb 3)],0, .tt⟩,⟨4,pp (bb 0),3, .tt⟩,⟨5,pp (bb 1),4, .tt⟩,⟨6,pp (bb 2),5, .tt⟩,⟨7,pp (bb 3),6, .tt⟩,⟨8,pp (bb 4),7, .tt⟩,⟨10,pp (bb 5),8, .tt⟩]) (λx=>[.hp F,i4 p N, .pt (bb 0) 42 [pp p], .pt (bb 1) 3 [iI b], .pt (bb 2) 3 [iI r], .pt (bb 3) 3 [iI m], .pt (bb 4) 236 (fdL none 0 none 0 0 Sh.zero false), .pt (bb 5) 236 (fdL x.1 x.2.1 x.2.2.1 x.2.2.2 (k+1) P.1 P.2),c9 234 23 x.1 (k+1) x.2.1 (m7 ((R.ones N b r m (k+1)).map (·.1))),c9 4 1 x.2.2.1 (k+1) x.2.2.2 (H6 ((R.ones N b r m (k+1)).map (·.2)))]) (λhj=>?_) (λx=>?_)
  ·skip
   refine J.qn 6 λ_=>?_;refine J.alts ?_ ?_
   ·skip
    refine J.qn 1 λb3=>?_;refine J.alts ?_ ?_
    ·skip
     refine J.ap 8 11 0 hS1 λa3 c3=>?_;refine J.qn 1 λ_=>?_;refine J.qn 1 λb8=>?_;refine J.ap 9 12 0 hS2 λa4 c4=>?_;refine J.qn 4 λ_=>?_;exact J.goto [0,1,2,3,4,5,6,7,8,9] (hj (a3,c3,a4,c4)) ⟨rfl,rfl,rfl,rfl,rfl,rfl,rfl,rfl,rfl,trivial⟩ rfl rfl
    ·skip
     refine J.qn 1 λb8=>?_;refine J.ap 8 11 0 hS1 λa3 c3=>?_;refine J.qn 1 λ_=>?_;refine J.ap 9 12 0 hS2 λa4 c4=>?_;refine J.qn 4 λ_=>?_;exact J.goto [0,1,2,3,4,5,6,7,8,9] (hj (a3,c3,a4,c4)) ⟨rfl,rfl,rfl,rfl,rfl,rfl,rfl,rfl,rfl,trivial⟩ rfl rfl
   ·skip
    refine J.qn 1 λb8=>?_;refine J.qn 1 λb3=>?_;refine J.ap 8 12 0 hS1 λa3 c3=>?_;refine J.qn 1 λ_=>?_;refine J.ap 9 11 0 hS2 λa4 c4=>?_;refine J.qn 4 λ_=>?_;exact J.goto [0,1,2,3,4,5,6,7,8,9] (hj (a3,c3,a4,c4)) ⟨rfl,rfl,rfl,rfl,rfl,rfl,rfl,rfl,rfl,trivial⟩ rfl rfl
  obtain⟨a3,c3,a4,c4⟩:=x;dsimp only;refine J.q λ_=>?_;refine J.n ((k+1,a3,c3,a4,c4)) (by dsimp only;omega) (by dsimp only;omega) [0,1,2,3,4,5,6,7,8,9]
 ·simp only[decide_eq_false_iff_not]at h1;have hk:k=(G.slots m).toNat:=by omega
  subst hk;refine J.qr [1,8,9] λ_=>?_;refine⟨a1,c1,a2,c2,?_,rfl⟩;rw[show(R.look N b r m).parity=P.1 from congrArg Prod.fst hP,show(R.look N b r m).whole=P.2 from congrArg Prod.snd hP];rfl
def U4 (l:List Sh) (k i:Nat):List Sh:=(l.take i).eraseIdx k
theorem b4G (l:List Sh) (i:Nat) (h:i<l.length):U4 l i (i+1)=U4 l i i:=by
 unfold U4;have hl:(l.take i).length=i:=by rw[List.length_take];omega
 rw[List.eraseIdx_of_length_le (l:=l.take i) (by omega),List.take_add_one,List.getElem?_eq_getElem h,Option.toList_some];rw[List.eraseIdx_append_of_length_le (by omega),hl,Nat.sub_self];simp
theorem b4F (l:List Sh) (k i:Nat) (x:Sh) (h:l[i]? =some x) (hk:i≠k):U4 l k (i+1)=U4 l k i++[x]:=by
 unfold U4;rw[List.take_add_one,h,Option.toList_some];have hi:=(List.getElem?_eq_some_iff.1 h).1;have hl:(l.take i).length=i:=by rw[List.length_take];omega
 by_cases hlt:k<i
 ·rw[List.eraseIdx_append_of_lt_length (by omega)]
 ·rw[List.eraseIdx_of_length_le (l:=l.take i++[x]) (by rw[List.length_append,List.length_singleton];omega),List.eraseIdx_of_length_le (by omega)]
theorem b2m (l:List Sh) (k i:Nat):(U4 l k i).length<=l.length:=by
 unfold U4;refine Nat.le_trans (List.length_eraseIdx_le _ _) ?_;rw[List.length_take];omega
theorem b2l {l:List Sh} {k i:Nat} {x:Sh} (h:x∈U4 l k i):x∈l:=List.mem_of_mem_take (List.mem_of_mem_eraseIdx h)
theorem a6P (f:Fd) (n:Nat) (hn:n<=8) (h1l:f.slots.length=n) (h2l:f.good.length=n) (hd:∀s∈f.slots,s.data.length=16) (hp:f.parity.data.length=16) (a1 a2:Option Nat) (c1 c2 k:Nat):FP 146 [.agg (fdL a1 c1 a2 c2 n f.parity f.whole).toArray,iI k] [c9 234 23 a1 n c1 (m7 f.slots),c9 4 1 a2 n c2 (H6 f.good)]
  (λv As=>v= .tuple #[enV (R.mend f k), .bool (R.mendB f k)]/\As=[c9 234 23 a1 n c1 (m7 f.slots),c9 4 1 a2 n c2 (H6 f.good)]):=by
 refine FE [0,0] Tryz.func146 λX F hX=>?_;refine J.q λbb=>?_;refine J.turn1 [] rfl (As:=[c9 234 23 none 0 0 (m7 (U4 f.slots k 0))]) (λh s=>Sep.one ⟨rfl,rfl,rfl⟩) rfl ?_;refine J.q λ_=>?_;refine J.l (α:=(Nat×Option Nat×Nat)) (λz=>z.1<=n/\∀j<z.1,j=k\/f.good.getD j false=true) (λz=>[si 12 z.1,si 11 n,sv 10 (slv a1 n c1),si 1 k,⟨2,pp (bb 0),4, .tt⟩,⟨4,pp (bb 1),5, .tt⟩,sv 5 (.bool false),sv 6 (slv z.2.1 (U4 f.slots k z.1).length z.2.2)]) [5] (λz=>[c9 234 23 z.2.1 (U4 f.slots k z.1).length z.2.2 (m7 (U4 f.slots k z.1))]) (λz=>n-z.1) ((0,none,0)) (⟨Nat.zero_le _,by omega⟩) λz hI=>?_;obtain⟨i,a3,c3⟩:=z;dsimp only at hI ⊢;have hol:=b2m f.slots k i;refine J.qd (λ_ h1=>?_) λ_ h1=>?_
 ·simp only[decide_eq_true_eq,Int.ofNat_lt]at h1;refine J.know (λh' s=>i9 (c:=(a1,c1)) (by omega) (s.get (i:=1) rfl)) λhg=>?_;obtain⟨g1,rfl⟩:=hg;refine J.know (λh' s=>i9 (c:=(a2,c2)) (by omega) (s.get (i:=2) rfl)) λhg=>?_;obtain⟨g2,rfl⟩:=hg;obtain⟨s,hs⟩:∃s,f.slots[i]? =some s:=⟨_,List.getElem?_eq_getElem (by omega)⟩;have hgd:f.good[i]? =some (f.good.getD i false):=by rw[List.getD_eq_getElem?_getD,List.getElem?_eq_getElem (by omega),Option.getD_some]
  refine J.q λ_=>?_;refine J.v (shV s) rfl rfl (λhg a w he hw=>?_) ?_
  ·exact q9 tk rfl rfl he rfl rfl rfl (hw.get (i:=1) rfl) (by rw[show 0+(i:Int).toNat*23=i*23 from by omega];exact V8 hs) rfl
  refine J.qd (λ_ h2=>?_) λ_ h2=>?_
  ·simp only[beq_iff_eq,Int.natCast_inj]at h2;subst h2;rw[<- b4G f.slots i (by omega)];refine J.q λ_=>?_;refine J.nS ((i+1,a3,c3)) (⟨by dsimp only;omega,λj hj=>by
    rcases Nat.lt_succ_iff_lt_or_eq.1 hj with h | h
    ·exact hI.2 j h
    ·exact .inl h⟩) (by dsimp only;omega) [0,1,2,3,4,5] rfl rfl
  simp only[beq_eq_false_iff_ne,ne_eq,Int.natCast_inj]at h2;refine J.q λ_=>?_;refine J.v (.bool (f.good.getD i false)) rfl rfl (λhg a w he hw=>?_) ?_
  ·exact j9 tk rfl rfl he rfl rfl rfl (hw.get (i:=2) rfl) (by rw[show 0+(i:Int).toNat*1=i from by omega];exact W0 hgd)
  refine J.qd (λ_ h3=>?_) λ_ h3=>?_
  ·simp only[Bool.not_eq_true']at h3;refine J.qr [1,2] λ_=>?_;have hr:R.rest f k=false:=by
    unfold R.rest;rw[List.all_eq_false];exact⟨i,by rw[List.mem_range];omega,by rw[h3];simpa using h2⟩
   simp only[R.mend,R.mendB,hr,Bool.false_and];exact⟨rfl,rfl⟩
  ·simp only[Bool.not_eq_false']at h3;have hsn:=b4F f.slots k i s hs h2;have hsl:(U4 f.slots k i).length+1=(U4 f.slots k (i+1)).length:=by rw[hsn];simp
   refine J.q λ_=>?_;refine J.ap 5 7 0 ((x9 _ s).symm.trans (congrArg m7 hsn.symm)) λa4 c4=>?_;rw[hsl];refine J.q λ_=>?_;refine J.nS ((i+1,a4,c4)) (⟨by dsimp only;omega,λj hj=>by
    rcases Nat.lt_succ_iff_lt_or_eq.1 hj with h | h
    ·exact hI.2 j h
    ·exact .inr (h▸h3)⟩) (by dsimp only;omega) [0,1,2,3,4,5] rfl rfl
 ·simp only[decide_eq_false_iff_not,Int.ofNat_lt]at h1;obtain rfl:i=n:=by omega
  have hr:R.rest f k=true:=by
   unfold R.rest;rw[List.all_eq_true];intro j hj;rcases hI.2 j (by simp at hj;omega)with h | h
   ·simp[h]
   ·rw[h];simp
  have ho:U4 f.slots k i=f.slots.eraseIdx k:=by unfold U4;rw[List.take_of_length_le (by omega)]
  refine J.qd (λ_ h4=>?_) λ_ h4=>?_
  ·simp only[Bool.not_eq_true']at h4;refine J.qr [1,2] λ_=>?_;simp only[R.mend,R.mendB,h4,Bool.and_false,Bool.false_and];exact⟨rfl,rfl⟩
  ·simp only[Bool.not_eq_false']at h4;refine J.qp (b1n f.parity hp a3 (U4 f.slots k i).length c3 (U4 f.slots k i) rfl (by omega) (λs hs=>hd s (b2l hs))) [5] λ_=>?_;refine J.qr [1,2] λ_=>?_;simp only[R.mend,R.mendB,hr,h4,Bool.and_self,Bool.true_and,if_true,<- ho];exact⟨rfl,rfl⟩
theorem a4d:∀m,m<256->∀k,k<8->0<=L.at_ (m:Nat) (k:Nat)->L.count (L.without (m:Nat) (L.at_ (m:Nat) (k:Nat)))=L.count (m:Nat)-1:=by decide+kernel
theorem b6D {m b r s:Int} (h:0<=G.die m b r s):0<=s/\s<G.slots m:=by
 unfold G.die at h;split at h
 ·omega
 ·rename_i hp;have hp0:0<=G.parity m b r:=by omega
  have hs:0<=s/\s<(L.count (L.without m (G.parity m b r)):Int):=by
   by_cases hh:s<0\/(L.count (L.without m (G.parity m b r)):Int)<=s
   ·rw[L.at_ge _ _ hh]at h;omega
   ·omega
  unfold G.parity at hp0 hs;split at hp0
  ·omega
  ·rename_i hc;rw[if_neg hc]at hs;have hm:0<=m/\m<256:=by
    by_cases hh:0<=m/\m<256
    ·exact hh
    ·have:=L.count_no m hh;omega
   obtain⟨M,rfl⟩:=Int.eq_ofNat_of_zero_le hm.1;have hcl:=L.count_le (M:Int);have hq:0<=(b+r) % (L.count (M:Int):Int)/\(b+r) % (L.count (M:Int):Int)<L.count (M:Int):=⟨Int.emod_nonneg _ (by omega),Int.emod_lt_of_pos _ (by omega)⟩;obtain⟨q,hq2⟩:=Int.eq_ofNat_of_zero_le hq.1;rw[hq2]at hs hp0 hq;rw[a4d M (by omega) q (by omega) hp0]at hs;unfold G.slots;rw[if_neg (by omega)];omega
theorem S9 {N:Nand} (hN:N.Ok) (b r m:Int):(∀s∈(R.look N b r m).slots,s.data.length=16)/\(R.look N b r m).parity.data.length=16:=by
 refine⟨λs hs=>?_,a4O hN _ _ _⟩;simp only[R.look,R.ones,List.map_map,List.mem_map]at hs;obtain⟨k,_,rfl⟩:=hs;exact a4O hN _ _ _
theorem a5N (p:Nat) (N:Nand) (hN:N.Ok) (hR:N.Room) (b r s m:Int) (h0: -1000000<=s) (h1:s<=1000000):FP 95 [pp p, .agg #[iI b,iI r,iI s],iI m] [i4 p N]
  (Ps (.tuple #[enV (R.read N b r s m).1,iI (R.read N b r s m).2]) [i4 p N]):=by
 have hbd:=hN.bd;refine FE [2,0,0] Tryz.func95 λX F hX=>?_;refine J.q λbb=>?_;refine J.join (α:=Unit) (λ_=>[⟨30, .bool (decide (G.die m b r s<0)|| !y7 N.dies N.blocks N.pages 0 b r),0, .tt⟩,⟨0,pp p,2, .tt⟩,si 2 m,⟨4,pp (bb 0),3, .tt⟩,⟨6,pp (bb 1),4, .tt⟩]) (λ_=>[.hp F,i4 p N, .pt (bb 0) 159 [iI b,iI r,iI s], .pt (bb 1) 155 (enL En.zero)]) (λhj=>?_) (λ_=>?_)
 ·refine J.p (.of [0,4,9,12,17,20,25,30,32,36,40,48,53,56,61,64,46,70,72,76]) [] [2] λ_=>?_;refine J.qp (a9n m b r s h0 h1) [] λ_=>?_;refine J.q λ_=>?_;refine J.gcase hX rfl rfl rfl ⟨rfl,trivial⟩ (λhb=>?_) (λhb=>?_)
  ·have hb2:decide (G.die m b r s<0)=false:=by rwa [Bool.not_eq_true']at hb
   rw[hb2]at hj ⊢;refine J.qp (R9 p N) [1] λ_=>?_;refine J.qp (a7y N.dies N.blocks N.pages 0 b r (by omega) (by omega) (by omega)) [] λ_=>?_;refine J.q λ_=>?_;exact J.goto [0,1,2,3] (hj ()) ⟨rfl,rfl,rfl,rfl,rfl,trivial⟩ rfl rfl
  ·have hb2:decide (G.die m b r s<0)=true:=by rwa [Bool.not_eq_false']at hb
   rw[hb2]at hj ⊢;refine J.q λ_=>?_;refine J.gcase hX rfl rfl rfl ⟨rfl,trivial⟩ (λhb=>by simp at hb) (λhb=>?_);refine J.q λ_=>?_;refine J.vT (.bool false) rfl rfl (λhg a w he hw=>by simp[G.on]at hg) ?_;refine J.q λ_=>?_;exact J.goto [0,1,2,3] (hj ()) ⟨rfl,rfl,rfl,rfl,rfl,trivial⟩ rfl rfl
 refine J.qd (λ_ h2=>?_) λ_ h2=>?_
 ·refine J.qr [1] λ_=>?_;have:G.die m b r s<0\/y7 N.dies N.blocks N.pages 0 b r=false:=by simpa using h2
  rw[R.read,if_pos this];exact⟨rfl,rfl⟩
 have hc:¬(G.die m b r s<0\/y7 N.dies N.blocks N.pages 0 b r=false):=by simpa using h2
 have hd:=b6D (m:=m) (b:=b) (r:=r) (s:=s) (by omega);have hsb:=I1 m;refine J.qp (a0N p N) [1] λ_=>?_;refine J.qd (λ_ h3=>?_) λ_ h3=>?_
 ·refine J.qr [1] λ_=>?_;have:N.off=true:=by simpa using h3
  rw[R.read,if_neg hc,if_pos this];exact⟨rfl,rfl⟩
 have hoff:¬N.off=true:=by simpa using h3
 obtain⟨k,rfl⟩:=Int.eq_ofNat_of_zero_le hd.1;have hlen:=D4 N b r m;have hdat:=S9 hN b r m;have hkn:k<(G.slots m).toNat:=by omega
 refine J.qc (b1U p N hN hR b r m) [1] λ_=>?_;rintro v As ⟨a1,c1,a2,c2,rfl,rfl⟩;refine⟨_,rfl,trivial,?_⟩;refine J.know (λh' s=>i9 (c:=(a1,c1)) (by omega) (s.get (i:=4) rfl)) λhg=>?_;obtain⟨g1,rfl⟩:=hg;refine J.know (λh' s=>i9 (c:=(a2,c2)) (by omega) (s.get (i:=5) rfl)) λhg=>?_;obtain⟨g2,rfl⟩:=hg;have hgd:(R.look N b r m).good[k]? =some ((R.look N b r m).good.getD k false):=by rw[List.getD_eq_getElem?_getD,List.getElem?_eq_getElem (by omega),Option.getD_some]
 have hsd:(R.look N b r m).slots[k]? =some ((R.look N b r m).slots.getD k Sh.zero):=by rw[List.getD_eq_getElem?_getD,List.getElem?_eq_getElem (by omega),Option.getD_some]
 have hr:R.read N b r k m=if(R.look N b r m).good.getD k false then(((R.look N b r m).slots.getD k Sh.zero).en,0)else if R.mendB (R.look N b r m) k then(R.mend (R.look N b r m) k,0)else(En.zero,10):=by
  rw[R.read,if_neg hc,if_neg hoff,Int.toNat_natCast]
 refine J.q λ_=>?_;refine J.v (.bool ((R.look N b r m).good.getD k false)) rfl rfl (λhg a w he hw=>?_) ?_
 ·exact j9 tk rfl rfl he rfl rfl rfl (hw.get (i:=5) rfl) (by rw[show 0+(k:Int).toNat*1=k from by omega];exact W0 hgd)
 refine J.qd (λ_ h4=>?_) λ_ h4=>?_
 ·refine J.q λ_=>?_;refine J.v (shV ((R.look N b r m).slots.getD k Sh.zero)) rfl rfl (λhg a w he hw=>?_) ?_
  ·exact q9 tk rfl rfl he rfl rfl rfl (hw.get (i:=4) rfl) (by rw[show 0+(k:Int).toNat*23=k*23 from by omega];exact V8 hsd) rfl
  refine J.qp (a5M ((R.look N b r m).slots.getD k Sh.zero)) [] λ_=>?_;refine J.qr [1] λ_=>?_;rw[hr,if_pos h4];exact⟨rfl,rfl⟩
 refine J.qp (a6P (R.look N b r m) (G.slots m).toNat (by omega) hlen.1 hlen.2 hdat.1 hdat.2 (some g1) (some g2) c1 c2 k) [4,5] λ_=>?_;refine J.qd (λ_ h5=>?_) λ_ h5=>?_
 ·refine J.qr [1] λ_=>?_;rw[hr,if_neg (by rw[h4];exact Bool.false_ne_true),if_pos h5];exact⟨rfl,rfl⟩
 ·refine J.qr [1] λ_=>?_;rw[hr,if_neg (by rw[h4];exact Bool.false_ne_true),if_neg (by rw[h5];exact Bool.false_ne_true)];exact⟨rfl,rfl⟩
def fnL (x:Fnd):List Value:=[iI x.en.lpn,iI x.en.seq,iI x.en.role,byC x.en.data 0,byC x.en.data 1,byC x.en.data 2,byC x.en.data 3,byC x.en.data 4,byC x.en.data 5,byC x.en.data 6,byC x.en.data 7,byC x.en.data 8,byC x.en.data 9,byC x.en.data 10,byC x.en.data 11,byC x.en.data 12,byC x.en.data 13,byC x.en.data 14,byC x.en.data 15,
 iI x.block,iI x.row,iI x.slot,iI x.mask, .bool x.whole, .bool x.mended]
def j5 (l:List Fnd):List Value:=l.flatMap fnL
theorem a6b (x:Fnd):(fnL x).length=25:=rfl
theorem C7 (l:List Fnd):(j5 l).length=l.length*25:=by
 induction l with
 | nil=>rfl
 | cons x l ih=>simp only[j5,List.flatMap_cons,List.length_append,List.length_cons]at ih ⊢;rw[ih,a6b];omega
theorem Z5 (l:List Fnd) (x:Fnd):j5 (l++[x])=j5 l++fnL x:=by simp[j5]
theorem Q0:∀{l:List Fnd} {k:Nat} {x:Fnd},l[k]? =some x->((j5 l).drop (k*25)).take 25=fnL x
 | [],_,_,h=>by simp at h
 | y::l,0,x,h=>by
  simp at h;subst h;rw[Nat.zero_mul,List.drop_zero];exact List.take_left' (a6b y)
 | y::l,k+1,x,h=>by
  have:=Q0 (l:=l) (k:=k) (x:=x) (by simpa using h);rw[show(k+1)*25=25+k*25 from by omega,<- List.drop_drop];simp only[j5,List.flatMap_cons];rw[List.drop_left' (a6b y)];exact this
theorem a6i (x:Int):∀l:List Int,(o0 x l).length<=l.length
 | []=>Nat.le_refl _
 | y::l=>by
  unfold o0;split
  ·have h:=a6i y l;exact Nat.le_trans h (by simp)
  ·have h:=a6i y l;simpa using h
theorem a7E:∀l:List Int,(n8 l).length<=l.length
 | []=>Nat.le_refl _
 | x::l=>by have h:=a6i x l;simpa[n8]using h
theorem a4P (N:Nand) (b r:Int):(M.masks N b r).length<=N.dies:=by
 unfold M.masks;refine Nat.le_trans (a7E _) ?_;rw[J9];refine Nat.le_trans (List.length_filterMap_le _ _) ?_;simp[M.rowN]
def a0M (N:Nand) (b r:Int) (i:Nat):List Fnd:=((M.masks N b r).take i).flatMap (R.allM N b r)
def R3 (N:Nand) (b r mk:Int) (i j:Nat):List Fnd:=a0M N b r i++(List.range j).filterMap (R.fnd (R.look N b r mk) b r mk)
theorem b3L (N:Nand) (b r m:Int):(R.allM N b r m).length<=7:=by
 unfold R.allM;refine Nat.le_trans (List.length_filterMap_le _ _) ?_;rw[List.length_range,(D4 N b r m).1];have:=I1 m;omega
theorem a3k (N:Nand) (b r:Int) (i:Nat) (h:N.dies<=6):(a0M N b r i).length<=42:=by
 have h1:∀l:List Int,(l.flatMap (R.allM N b r)).length<=7*l.length:=by
  intro l
  induction l with
  | nil=>simp
  | cons x l ih=>rw[List.flatMap_cons,List.length_append,List.length_cons];have:=b3L N b r x;omega
 have h2:=h1 ((M.masks N b r).take i);have h3:=a4P N b r;have h4:((M.masks N b r).take i).length<=6:=by rw[List.length_take];omega
 unfold a0M;omega
theorem b2j (N:Nand) (b r mk:Int) (i j:Nat) (h:N.dies<=6) (hj:j<=7):(R3 N b r mk i j).length<=49:=by
 have h1:=a3k N b r i h;have h2:=List.length_filterMap_le (R.fnd (R.look N b r mk) b r mk) (List.range j);rw[List.length_range]at h2;unfold R3;rw[List.length_append];omega
theorem b0b (N:Nand) (b r mk:Int) (i:Nat):R3 N b r mk i 0=a0M N b r i:=by simp[R3]
theorem b0c (N:Nand) (b r mk:Int) (i j:Nat):R3 N b r mk i (j+1)=R3 N b r mk i j++(R.fnd (R.look N b r mk) b r mk j).toList:=by
 unfold R3;rw[List.range_succ,List.filterMap_append,List.append_assoc];congr 2
theorem b2k (N:Nand) (b r mk:Int) (i:Nat) (h:(M.masks N b r)[i]? =some mk):R3 N b r mk i (G.slots mk).toNat=a0M N b r (i+1):=by
 unfold R3 a0M;rw[List.take_add_one,h,Option.toList_some,List.flatMap_append];congr 1;rw[List.flatMap_cons,List.flatMap_nil,List.append_nil,R.allM,(D4 N b r mk).1]
theorem b5G (p:Nat) (N:Nand) (hN:N.Ok) (hR:N.Room) (b r:Int):FP 119 [pp p,iI b,iI r] [i4 p N]
  (λv As=>∃a c,v=slv a (R.all N b r).length c/\As=[i4 p N,c9 202 25 a (R.all N b r).length c (j5 (R.all N b r))]):=by
 have hbd:=hN.bd;have hml:=a4P N b r;refine FE [2,0,0] Tryz.func119 λX F hX=>?_;refine J.qc (a9i p N hN hR b r) [1] λ_=>?_;rintro v As ⟨am,cm,rfl,rfl⟩;refine⟨_,rfl,trivial,?_⟩;refine J.turn1 [] rfl (As:=[c9 202 25 none 0 0 (j5 (a0M N b r 0))]) (λh s=>Sep.one ⟨rfl,rfl,rfl⟩) rfl ?_;refine J.q λ_=>?_;refine J.l (α:=(Nat×Option Nat×Nat)) (λz=>z.1<=(M.masks N b r).length) (λz=>[si 20 z.1,⟨19,iI (M.masks N b r).length,0, .tt⟩,sv 18 (slv am (M.masks N b r).length cm),sv 7 (slv z.2.1 (a0M N b r z.1).length z.2.2),⟨0,pp p,2, .tt⟩,si 1 b,si 2 r]) [3] (λz=>[c9 202 25 z.2.1 (a0M N b r z.1).length z.2.2 (j5 (a0M N b r z.1))]) (λz=>(M.masks N b r).length-z.1) ((0,none,0)) (Nat.zero_le _) λz hI=>?_;obtain⟨i,ao,co⟩:=z;dsimp only at hI ⊢;refine J.qd (λ_ h1=>?_) λ_ h1=>?_
 ·simp only[decide_eq_true_eq,Int.ofNat_lt]at h1;refine J.know (λh' s=>i9 (c:=(am,cm)) (by omega) (s.get (i:=2) rfl)) λhg=>?_;obtain⟨gm,rfl⟩:=hg;obtain⟨mk,hmk⟩:∃mk,(M.masks N b r)[i]? =some mk:=⟨_,List.getElem?_eq_getElem h1⟩;refine J.q λ_=>?_;refine J.v (iI mk) rfl rfl (λhg a w he hw=>?_) ?_
  ·exact j9 tk rfl rfl he rfl rfl rfl (hw.get (i:=2) rfl) (by rw[show 0+(i:Int).toNat*1=i from by omega];exact a3P hmk)
  have hsb:=I1 mk;have hlen:=D4 N b r mk;have hdat:=S9 hN b r mk;refine J.q λb7=>?_;refine J.cb (b1U p N hN hR b r mk) [1] ?_;rintro v As ⟨a1,c1,a2,c2,rfl,rfl⟩;refine⟨_,rfl,trivial,?_⟩;have hfnd:∀j,R.fnd (R.look N b r mk) b r mk j=if R.okAt (R.look N b r mk) j&&(R.enAt (R.look N b r mk) j).role !=3 then some ⟨R.enAt (R.look N b r mk) j,b,r,j,mk,(R.look N b r mk).whole,!((R.look N b r mk).good.getD j false)⟩else none:=λj=>rfl
  have hout:=b0c N b r mk i;have hz:=b0b N b r mk i;have hall:=b2k N b r mk i hmk;have hol:∀j,j<=7->(R3 N b r mk i j).length<=49:=λj hj=>b2j N b r mk i j (by omega) hj;have hnb:(G.slots mk).toNat<=7:=by omega
  rw[<- hz];generalize hf:R.look N b r mk=f at hlen hdat hfnd hout;generalize hn:(G.slots mk).toNat=n at hlen hall hnb;refine J.q λbbf=>?_;refine J.l (α:=(Nat×Option Nat×Nat)) (λz=>z.1<=n) (λz=>[si 32 z.1,si 31 n,sv 30 (slv a1 n c1),⟨10,pp (bbf 0),7, .tt⟩,si 9 mk,si 20 i,⟨19,iI (M.masks N b r).length,0, .tt⟩,sv 18 (slv (some gm) (M.masks N b r).length cm),sv 7 (slv z.2.1 (R3 N b r mk i z.1).length z.2.2),⟨0,pp p,2, .tt⟩,si 1 b,si 2 r]) [3] (λz=>[c9 202 25 z.2.1 (R3 N b r mk i z.1).length z.2.2 (j5 (R3 N b r mk i z.1))]) (λz=>n-z.1) ((0,ao,co)) (Nat.zero_le _) λz hI=>?_;obtain⟨j,ao,co⟩:=z;dsimp only at hI ⊢;refine J.qd (λ_ h2=>?_) λ_ h2=>?_
  ·simp only[decide_eq_true_eq,Int.ofNat_lt]at h2;refine J.know (λh' s=>i9 (c:=(a1,c1)) (by omega) (s.get (i:=4) rfl)) λhg=>?_;obtain⟨g1,rfl⟩:=hg;refine J.know (λh' s=>i9 (c:=(a2,c2)) (by omega) (s.get (i:=5) rfl)) λhg=>?_;obtain⟨g2,rfl⟩:=hg;obtain⟨s,hs⟩:∃s,f.slots[j]? =some s:=⟨_,List.getElem?_eq_getElem (by omega)⟩;obtain⟨gk,hgd⟩:∃g,f.good[j]? =some g:=⟨_,List.getElem?_eq_getElem (by omega)⟩;have hgk:f.good.getD j false=gk:=by rw[List.getD_eq_getElem?_getD,hgd,Option.getD_some]
   have hsk:f.slots.getD j Sh.zero=s:=by rw[List.getD_eq_getElem?_getD,hs,Option.getD_some]
   refine J.q λ_=>?_;refine J.v (shV s) rfl rfl (λhg a w he hw=>?_) ?_
   ·exact q9 tk rfl rfl he rfl rfl rfl (hw.get (i:=4) rfl) (by rw[show 0+(j:Int).toNat*23=j*23 from by omega];exact V8 hs) rfl
   obtain⟨bb,hbb⟩:∃x,bbf 0=x:=⟨_,rfl⟩;rw[hbb];refine J.p (.take false 0 (.take true 2 (.take false 3 (.take true 4 (.take true 5 (.take false 6 (.alt false 1 ((.of [30,34,36])) (.alt false 7 ((.of [6,34,36])) .non)))))))) [9] [5,6,7] λ_=>?_;refine J.join (α:=Nat) (λx=>[sv 14 (.bool gk),⟨13,pp x,8, .tt⟩,si 11 j,si 32 j,si 31 n,sv 30 (slv (some g1) n c1),⟨10,pp bb,7, .tt⟩,si 9 mk,si 20 i,⟨19,iI (M.masks N b r).length,0, .tt⟩,sv 18 (slv (some gm) (M.masks N b r).length cm),sv 7 (slv ao (R3 N b r mk i j).length co),⟨0,pp p,2, .tt⟩,si 1 b,si 2 r]) (λx=>[.hp F,i4 p N,c9 3 1 (some gm) (M.masks N b r).length cm (f8 (M.masks N b r)),c9 202 25 ao (R3 N b r mk i j).length co (j5 (R3 N b r mk i j)),c9 234 23 (some g1) n c1 (m7 f.slots),c9 4 1 (some g2) n c2 (H6 f.good), .pt bb 236 (fdL (some g1) c1 (some g2) c2 n f.parity f.whole), .pt x 155 (enL s.en)]) (λhj=>?_) (λx=>?_)
   ·skip
    refine J.qn 5 λ_=>?_;refine J.vT (.bool gk) rfl rfl (λ_ a w he hC=>j9 tk rfl rfl he rfl rfl rfl (hC rfl _ (i6 (i:=5) rfl)) (by rw[show 0+(j:Int).toNat*1=j from by omega];exact W0 hgd)) ?_;refine J.alts ?_ ?_
    ·skip
     refine J.qp (a5M s) [] λ_=>?_;refine J.qn 1 λb7=>?_;refine J.qn 3 λ_=>?_;exact J.goto [0,1,2,3,4,5,6,8] (hj (b7 0)) ⟨rfl,rfl,rfl,rfl,rfl,rfl,rfl,rfl,rfl,rfl,rfl,rfl,rfl,rfl,rfl,trivial⟩ rfl rfl
    ·skip
     refine J.qn 1 λb7=>?_;refine J.qp (a5M s) [] λ_=>?_;refine J.qn 3 λ_=>?_;exact J.goto [0,1,2,3,4,5,6,8] (hj (b7 0)) ⟨rfl,rfl,rfl,rfl,rfl,rfl,rfl,rfl,rfl,rfl,rfl,rfl,rfl,rfl,rfl,trivial⟩ rfl rfl
   refine J.q λ_=>?_;refine J.join (α:=Unit) (λ_=>[sv 14 (.bool (R.okAt f j)),⟨13,pp x,8, .tt⟩,si 11 j,si 32 j,si 31 n,sv 30 (slv (some g1) n c1),⟨10,pp bb,7, .tt⟩,si 9 mk,si 20 i,⟨19,iI (M.masks N b r).length,0, .tt⟩,sv 18 (slv (some gm) (M.masks N b r).length cm),sv 7 (slv ao (R3 N b r mk i j).length co),⟨0,pp p,2, .tt⟩,si 1 b,si 2 r]) (λ_=>[.hp F,i4 p N,c9 3 1 (some gm) (M.masks N b r).length cm (f8 (M.masks N b r)),c9 202 25 ao (R3 N b r mk i j).length co (j5 (R3 N b r mk i j)),c9 234 23 (some g1) n c1 (m7 f.slots),c9 4 1 (some g2) n c2 (H6 f.good), .pt bb 236 (fdL (some g1) c1 (some g2) c2 n f.parity f.whole), .pt x 155 (enL (R.enAt f j))]) (λhj=>?_) (λ_=>?_)
   ·refine J.qd (λ_ h3=>?_) λ_ h3=>?_
    ·simp only[Bool.not_eq_true']at h3;subst h3;refine J.qp (a6P f n (by omega) hlen.1 hlen.2 hdat.1 hdat.2 (some g1) (some g2) c1 c2 j) [4,5] λ_=>?_;rw[show R.okAt f j=R.mendB f j from by rw[R.okAt,hgk];rfl,show R.enAt f j=R.mend f j from by rw[R.enAt,hgk];rfl]at hj;refine J.qn 6 λ_=>?_;exact J.goto [0,1,2,3,4,5,6,7] (hj ()) ⟨rfl,rfl,rfl,rfl,rfl,rfl,rfl,rfl,rfl,rfl,rfl,rfl,rfl,rfl,rfl,trivial⟩ rfl rfl
    ·simp only[Bool.not_eq_false']at h3;subst h3;rw[show R.okAt f j=true from by rw[R.okAt,hgk];rfl,show R.enAt f j=s.en from by rw[R.enAt,hgk,if_pos rfl,hsk]]at hj;refine J.qn 1 λ_=>?_;exact J.goto [0,1,2,3,4,5,6,7] (hj ()) ⟨rfl,rfl,rfl,rfl,rfl,rfl,rfl,rfl,rfl,rfl,rfl,rfl,rfl,rfl,rfl,trivial⟩ rfl rfl
   have hf1:=hfnd j;have ho1:=hout j;have hol1:=hol j (by omega);generalize R.okAt f j=ok at hf1;generalize R.enAt f j=e at hf1;refine J.qd (λ_ h4=>?_) λ_ h4=>?_
   ·rw[if_pos h4,hgk]at hf1;rw[hf1,Option.toList_some]at ho1;have hsl:(R3 N b r mk i j).length+1=(R3 N b r mk i (j+1)).length:=by rw[ho1,List.length_append];rfl
    refine J.pn 14 (.of [0,5,8,12,16,20,24,28,33,36,41,44,48,53,56,60,66,70,72]) [18] [5,6,7] λ_ _=>?_;refine J.vT (.bool gk) rfl rfl (λ_ a w he hC=>j9 tk rfl rfl he rfl rfl rfl (hC rfl _ (i6 (i:=5) rfl)) (by rw[show 0+(j:Int).toNat*1=j from by omega];exact W0 hgd)) ?_;refine J.q λ_=>?_;refine J.ap 3 8 0 ((Z5 _ _).symm.trans (congrArg j5 ho1.symm)) λa4 c4=>?_;rw[hsl];refine J.q λ_=>?_;rw[<- hbb];refine J.q λ_=>?_;refine J.n ((j+1,a4,c4)) (by dsimp only;omega) (by dsimp only;omega) [0,1,2,3,4,5,6]
   ·rw[if_neg (by rw[h4];exact Bool.false_ne_true)]at hf1;rw[hf1,Option.toList_none,List.append_nil]at ho1;rw[<- ho1];refine J.q λ_=>?_;rw[<- hbb];refine J.q λ_=>?_;refine J.n ((j+1,ao,co)) (by dsimp only;omega) (by dsimp only;omega) [0,1,2,3,4,5,6]
  ·simp only[decide_eq_false_iff_not,Int.ofNat_lt]at h2;obtain rfl:j=n:=by omega
   rw[hall];refine J.q λ_=>?_;refine J.n ((i+1,ao,co)) (by dsimp only;omega) (by dsimp only;omega) [0,1,2,3]
 ·simp only[decide_eq_false_iff_not,Int.ofNat_lt]at h1;obtain rfl:i=(M.masks N b r).length:=by omega
  have:a0M N b r (M.masks N b r).length=R.all N b r:=by unfold a0M R.all;rw[List.take_length]
  rw[this];refine J.qr [1,3] λ_=>?_;exact⟨ao,co,rfl,rfl⟩
theorem b3k (b r:Int) {mm:Nat}:∀(q:List (Int×Sh)) (N:Nand) (f:Int) (k:Nat),(∀x∈q,x.2.data.length=16)->N.Gd (q.length+k) mm->(R.go b r q N f).1.Gd k mm
 | [],N,f,k,_,h=>by rw[R.go];exact h.less (by simp) (Nat.le_refl _)
 | (d,s)::q,N,f,k,hd,h=>by
  have h1:(N.progN d b r (C8 s)).Gd (q.length+k) mm:=Nand.Gd.prog (h.less (by rw[List.length_cons];omega) (Nat.le_refl _)) d b r _ (X6 s (hd (d,s) (by simp)));have hd':∀x∈q,x.2.data.length=16:=λx hx=>hd x (by simp[hx]);rw[R.go];split
  ·exact b3k b r q _ _ k hd' h1
  ·split
   ·exact h1.less (by omega) (Nat.le_refl _)
   ·exact b3k b r q _ _ k hd' h1
theorem b2P {b r m:Int} {l:List En} (hd:∀s∈l,s.data.length=16):∀x∈R.job b r m l,x.2.data.length=16:=by
 intro x hx;simp only[R.job,List.mem_append,List.mem_map,List.mem_range,List.mem_singleton]at hx;rcases hx with⟨k,hk,rfl⟩ | rfl
 ·refine hd _ ?_;rw[List.getD_eq_getElem?_getD,List.getElem?_eq_getElem hk];exact List.getElem_mem _
 ·exact T5 (λt ht=>by obtain⟨e,he,rfl⟩:=List.mem_map.1 ht;exact hd e he) _ rfl
theorem O6 {b r m:Int} {l:List En} (h:W.parB b r m l=true):(l.length:Int)=G.slots m/\1<=l.length/\l.length<=7/\∀e∈l,W.ok b r m e=true:=by
 simp only[W.parB,Bool.and_eq_true,decide_eq_true_eq,List.all_eq_true]at h;have:=I1 m;refine⟨h.1.1,?_,by omega,h.2⟩;cases l with
 | nil=>simp at h
 | cons x l=>simp
theorem a0y {N:Nand} {b r m:Int} {l:List En} {k mm:Nat} (hd:∀s∈l,s.data.length=16) (h:N.Gd (8+k) mm):(R.write N b r m l).1.Gd k mm:=by
 unfold R.write;split
 ·rename_i hB;have:=O6 hB;exact b3k b r _ _ _ k (b2P hd) (h.less (by rw[a5W];omega) (Nat.le_refl _))
 ·exact h.less (by omega) (Nat.le_refl _)
theorem a5Z (b r:Int):∀(q:List (Int×Sh)) (N:Nand) (f:Int),N.Like (R.go b r q N f).1
 | [],N,f=>by rw[R.go];exact Nand.Like.refl N
 | (d,s)::q,N,f=>by
  rw[R.go];split
  ·exact(Nand.like_prog _ _ _ _ _).trans (a5Z b r q _ _)
  ·split
   ·exact Nand.like_prog _ _ _ _ _
   ·exact(Nand.like_prog _ _ _ _ _).trans (a5Z b r q _ _)
theorem a7R (N:Nand) (b r m:Int) (l:List En):N.Like (R.write N b r m l).1:=by
 unfold R.write;split
 ·exact a5Z b r _ _ _
 ·exact Nand.Like.refl N
end Go.Proofs.YtnffkcabeecopaaGreat
namespace Go.Proofs.YtnffkcabeecopaaGreat
namespace Tl
def clean (t:Tl) (k:Int) (on:Bool):Tl:=t.set k {t.at_ k with used:=!on}
def hold (t:Tl) (k:Int) (on:Bool):Tl:=t.set k {t.at_ k with held:=on}
def die (t:Tl) (d:Int):Tl:=if t.hasDie d=true then⟨t.d,t.b,t.p,t.l,L.with_ t.dead d⟩else t
end Tl
def En.pad:En:=⟨0,0,3,zeros16⟩
structure Dv where
 N:Nand
 t:Tl
 T:Tb
 op:Int
 row:Int
 mask:Int
 next:Int
namespace Dv
def pick (S:Dv):Int:=H3 (λx y=>y8 (S.t.wear x) (S.t.wear y)) (f7 (A5 S.t S.T) S.op S.t.b)
def left (S:Dv):Bool:=decide (S.op>=0)&&decide (S.row<S.N.pages)&&decide (G.slots S.mask>0)
def slots (S:Dv):Int:=if S.left then G.slots S.mask else G.slots (S.t.mask S.pick)
def opened (S:Dv):Dv:={S with t:=S.t.clean S.pick false,op:=S.pick,row:=0,mask:=(S.t.clean S.pick false).mask S.pick}
def lose (f:Int) (S:Dv) (d:Nat):Dv:=
 if L.has f d then
  {S with t:=if S.N.deadAt d then S.t.die d else S.t.bad d S.op,mask:=L.without S.mask d}
 else S
def loses (S:Dv) (f:Int):Dv:=(List.range S.N.dies).foldl (lose f) S
def numAt (l:List En) (next:Int) (k:Nat):En:=if k<l.length then {l.getD k En.zero with seq:=next+k}else En.pad
def num (l:List En) (next:Int) (n:Nat):List En:=(List.range n).map (numAt l next)
def puts (T:Tb) (b r m:Int) (es:List En) (k:Nat):Tb:=(List.range k).foldl (λT (i:Nat)=>T.put (es.getD i En.zero) b r i m) T
def fit (S:Dv) (l:List En):Nat:=min l.length (G.slots S.mask).toNat
def es (S:Dv) (l:List En):List En:=num l S.next (G.slots S.mask).toNat
def wr (S:Dv) (l:List En):Nand×Int×Int:=R.write S.N S.op S.row S.mask (S.es l)
def wrote (S:Dv) (l:List En):Dv:={S with N:=(S.wr l).1,row:=S.row+1,next:=S.next+S.fit l}
def write:Nat->Dv->List En->Dv×Int×Int
 | 0,S,_=>(S,0,0)
 | k+1,S,l=>
  if l.length=0 then(S,0,0)
  else if S.left=false/\S.pick<0 then(S,0,11)
  else
   let S1:=if S.left then S else S.opened
   if S1.next>1099511627775-(S1.fit l:Int)+1 then(S1,0,11)
   else if(S1.wr l).2.2=1 then({S1 with next:=S1.next+S1.fit l,N:=(S1.wr l).1},0,1)
   else if(S1.wr l).2.2=0 then({S1.wrote l with T:=puts S1.T S1.op S1.row S1.mask (S1.es l) (S1.fit l)},S1.fit l,0)
   else if(S1.wr l).2.2=9 then(S1.wrote l,0,9)
   else write k ((S1.wrote l).loses (S1.wr l).2.1) l
def fuel:Nat:=160
def pen (S:Dv) (l:List En):Dv×Int×Int:=write fuel S l
def rd (S:Dv) (i:Int):En×Int:=
 let a:=(Tb.look S.T.at_ i).getD AtV.zero
 let x:=R.read S.N a.block a.row a.slot a.mask
 if x.2=9 then(En.zero,9)
 else if x.2≠0\/x.1.lpn≠i\/x.1.seq≠a.seq then(⟨i,0,4,zeros16⟩,0)
 else(x.1,0)
def rds (S:Dv):List Int->List En×Int
 | []=>([],0)
 | i::l=>if(S.rd i).2≠0 then([],(S.rd i).2)else((S.rd i).1::(rds S l).1,(rds S l).2)
def carryGo:Nat->Dv->List Int->Int->Dv×Int×Int
 | 0,S,_,done=>(S,done,0)
 | k+1,S,l,done=>
  if l.length=0 then(S,done,0)
  else
   let r:=S.rds (l.take (max S.slots 1).toNat)
   if r.2≠0 then(S,done,r.2)
   else
    let w:=S.pen r.1
    if w.2.2≠0 then(w.1,done+w.2.1,w.2.2)
    else carryGo k w.1 (l.drop w.2.1.toNat) (done+w.2.1)
def carry (S:Dv) (b most:Int):Dv×Int×Int:=
 let l:=(S.T.ins b).take (max most 0).toNat
 carryGo l.length S l 0
def eraseD (b m:Int) (x:Nand×Tl×Int) (d:Nat):Nand×Tl×Int:=
 if x.2.2≠0 then x
 else if L.has m d=false then x
 else
  let e:=x.1.eraseE d b
  (x.1.eraseN d b,if e=0 then x.2.1 else if e=9 then x.2.1 else if e=8 then x.2.1.die d else x.2.1.bad d b,if e=9 then 9 else 0)
def eraseB (N:Nand) (t:Tl) (b:Int):Nand×Tl×Int:=(List.range N.dies).foldl (eraseD b (t.mask b)) (N,t,0)
def wores (N:Nand) (t:Tl) (b:Int):Tl:=(List.range N.dies).foldl (λt (d:Nat)=>t.wore b (N.wornAt d b)) t
def eraseT (N:Nand) (t:Tl) (b:Int):Tl:=if(wores N t b).usable b then(wores N t b).clean b true else wores N t b
def erase (N:Nand) (t:Tl) (b:Int):Nand×Tl×Int:=
 let x:=eraseB N t b
 if x.2.2≠0 then x else(x.1,eraseT x.1 x.2.1 b,0)
def clearGo:List Int->Nand->Tl->Nand×Tl×Int
 | [],N,t=>(N,t,0)
 | b::l,N,t=>
  let x:=erase N t b
  if x.2.2≠0 then x else clearGo l x.1 x.2.1
def clearX (N:Nand) (t:Tl) (T:Tb) (o:Int):Nand×Tl×Int:=clearGo (f7 (j3 t T) o t.b) N t
def clear(S:Dv):Dv×Int:=
 let x:=clearX S.N S.t S.T S.op
 ({S with N:=x.1,t:=x.2.1},x.2.2)
def victim (S:Dv):Int:=H3 (λx y=>orI [y8 (S.T.count x) (S.T.count y),y8 (S.t.wear x) (S.t.wear y)]) (f7 (B3 S.t S.T) S.op S.t.b)
def free (S:Dv):Nat:=(f7 (A5 S.t S.T) S.op S.t.b).length
def roomGo:Nat->Dv->Dv×Int
 | 0,S=>(S,0)
 | k+1,S=>
  if(S.free:Int)>4 then(S,0)
  else if S.victim<0\/S.T.count S.victim>=S.t.p*G.slots (S.t.mask S.victim)then(S,0)
  else
   let c:=S.carry S.victim (S.T.count S.victim)
   if c.2.2≠0 then(c.1,c.2.2)
   else
    let d:=c.1.clear
    if d.2≠0 then d else roomGo k d.1
def room (S:Dv):Dv×Int:=if S.clear.2≠0 then S.clear else roomGo S.t.b S.clear.1
def hurts (S:Dv):List Int:=f7 (J4 S.t S.T) (-1) S.t.b
def leftN (S:Dv):Int:=(S.hurts.map S.T.count).sum
def seeDead (N:Nand) (t:Tl):Tl:=(List.range t.d).foldl (λt (d:Nat)=>if N.deadAt d then t.die d else t) t
def seen (S:Dv):Dv:={S with t:=seeDead S.N S.t}
def step (S:Dv) (most:Int):Dv×Int×Int:=
 let r:=S.seen.room
 if r.2≠0 then(r.1,0,r.2)
 else match r.1.hurts with
  | []=>(r.1,0,0)
  | b::_=>r.1.carry b most
def tornGo:Nat->Dv->List En->Dv×Int
 | 0,S,_=>(S,0)
 | k+1,S,l=>
  if l.length=0 then(S,0)
  else
   let r:=S.room
   if r.2≠0 then r
   else
    let w:=r.1.pen l
    if w.2.2≠0 then(w.1,w.2.2)else tornGo k w.1 (l.drop w.2.1.toNat)
def torn (S:Dv) (l:List En):Dv×Int:=tornGo l.length S l
end Dv
end Go.Proofs.YtnffkcabeecopaaGreat
namespace Go.Proofs.YtnffkcabeecopaaGreat
open Go.RowKit
set_option maxRecDepth 100000 in
theorem b6R (w:World):Calls Tryz.prog 318 #[.int .i64 (-1)] w λe w'=>e= .returned (.int .u64 1)/\w=w':=by
 go_enter Tryz.func318,Tryz.ntmps318
 go_wp2
 go_ret
 exact⟨by kernel_rfl,rfl⟩
set_option maxRecDepth 100000 in
theorem b6U (w:World):Calls Tryz.prog 319 #[.int .u64 1] w λe w'=>e= .returned (.int .i64 (-1))/\w=w':=by
 go_enter Tryz.func319,Tryz.ntmps319
 go_wp2
 go_ret
 exact⟨by kernel_rfl,rfl⟩
set_option maxRecDepth 100000 in
theorem b2p (w:World):Calls Tryz.prog 320 #[.int .i64 255, .int .i64 8] w λe w'=>e= .returned (.int .i64 (-1))/\w=w':=by
 go_enter Tryz.func320,Tryz.ntmps320
 go_wp2
 go_ret
 exact⟨by kernel_rfl,rfl⟩
set_option maxRecDepth 100000 in
theorem b2o (w:World):Calls Tryz.prog 320 #[.int .i64 1, .int .i64 0] w λe w'=>e= .returned (.int .i64 0)/\w=w':=by
 go_enter Tryz.func320,Tryz.ntmps320
 go_wp2
 go_ret
 exact⟨by kernel_rfl,rfl⟩
end Go.Proofs.YtnffkcabeecopaaGreat
namespace Go.Proofs.YtnffkcabeecopaaGreat
open Go Go.RowKit
def nk (k:Nat):Nat:=match k with | 0=>0 | _+1=>1
theorem b6N (g:Nat):FP 246 [pp g, .int .u64 2,iI 1] [a1j g ([]++Bt.bits 5 3)]
  (Ps (.bool false) [a1j g ([]++Bt.bits 5 3)]):=by
 refine FE [2,0,0] Tryz.func246 λX F hX=>?_;refine J.qp (a9y 1) [] λ_=>?_;refine J.o (α:=(Option Nat×Nat)) 1 λx=>?_;refine J.qT λ_=>?_;refine J.cl (a6X g ([]++Bt.bits 5 3)) x [1,2] ?_;exact J.qx [1]
theorem b7m (g:Nat) (l:List Bool):FP 322 [pp g] [a1j g l]
  (Ps (iI l.length) [a1j g l]):=by
 refine FE [2] Tryz.func322 λX F hX=>?_;refine J.qF λ_=>?_;refine J.o (α:=(Option Nat×Nat)) 1 λx=>?_;refine J.q λ_=>?_;refine J.cl (a6X g l) x [1,2] ?_;exact J.qx [1]
theorem b6O (g b:Nat):FP 252 [pp g,iI 9] [.pt g 335 [.slice (some ⟨b,0,none⟩) 1 1,iI 4]]
  (Ps (.tuple #[.int .u64 0, .bool false]) [.pt g 335 [.slice (some ⟨b,0,none⟩) 1 1,iI 4]]):=by
 refine FE [2,0] Tryz.func252 λX F hX=>?_;refine J.qp (a9y 9) [] λ_=>?_;refine J.qp (a8E g (some ⟨b,0,none⟩) 1 1 4 (by decide) (by decide)) [1] λ_=>?_;refine J.qT λ_=>?_;exact J.qx [1]
theorem b6P (g b:Nat):FP 252 [pp g,iI 4] [.pt g 335 [.slice (some ⟨b,0,none⟩) 1 1,iI 0], .pt b 5 [.int .u8 165]]
  (Ps (.tuple #[.int .u64 10, .bool true]) [.pt g 335 [.slice (some ⟨b,0,none⟩) 1 1,iI 4], .pt b 5 [.int .u8 165]]):=by
 have:=b3I g (.pt b 5 [.int .u8 165]) (some ⟨b,0,none⟩) 1 1 [165] (W4 b _ _ 1 1 rfl) rfl (by decide) 0 4 (by decide) (by decide) (by decide);rw[show((Bt.numAt [165] 0 4:Nat):Int)=10 from by decide+kernel]at this;exact this
theorem b7s:FP 249 [.slice none 0 0] [] (Ps (.int .u32 4294967295) []):=by
 refine FE [0] Tryz.func249 λX F hX=>?_;refine J.q λ_=>?_;refine J.l (α:=Nat) (λk=>k<=0) (λk=>[si 8 0,si 7 0,⟨3, .int .u32 4294967295,0, .tt⟩]) [] (λk=>[]) (λk=>0) (0) (Nat.zero_le _) λk hI=>?_;refine J.qF λ_=>?_;exact J.qx []
theorem b6t:FP 271 [.int .u32 0, .int .u8 128] [] (Ps (.int .u32 (K.step 0 128:Nat)) []):=Fn.of_same (a4W 0 128 (by decide) (by decide))
theorem b6V:FP 318 [iI (-1)] [] (Ps (.int .u64 1) []):=Fn.of_same b6R
theorem b6W:FP 319 [.int .u64 1] [] (Ps (iI (-1)) []):=Fn.of_same b6U
theorem a9E:FP 320 [iI 255,iI 8] [] (Ps (iI (-1)) []):=Fn.of_same b2p
theorem a9D:FP 320 [iI 1,iI 0] [] (Ps (iI 0) []):=Fn.of_same b2o
theorem b5P:FP 321 [.int .u32 1,iI 33] [] (Ps (.int .u32 2) []):=by
 refine FE [0,0] Tryz.func321 λX F hX=>?_;refine J.p (.of [0,4,8,12,16,20,24,28,32]) [7,8] [] λ_=>?_;exact J.qx []
theorem b2M:FP 316 [] [] (Ps (.bool true) []):=by
 refine FE [] Tryz.func316 λX F hX=>?_;refine J.q λb1=>?_;refine J.turn1 [] rfl (As:=[c9 5 1 none 0 0 []]) (λh s=>Sep.one ⟨rfl,rfl,rfl⟩) rfl ?_;refine J.cl (a6X (b1 0) []) (none,0) [1,2] ?_;refine J.qp (a9z (b1 0) 5 3 [] (by decide) (by decide) (by decide) (by decide)) [1] λ_=>?_;refine J.qp (b6N (b1 0)) [1] λ_=>?_;refine J.q λb2=>?_;refine J.cb (b3H (some ⟨b2 0,0,none⟩) 1 1) [] ?_;rintro v As ⟨g,rfl,rfl⟩;refine⟨_,rfl,trivial,?_⟩;refine J.qp (b6P g (b2 0)) [4,3] λ_=>?_;refine J.qp (b6O g (b2 0)) [4] λ_=>?_;refine J.qc (a6p (b1 0) ([]++Bt.bits 5 3) (by decide)) [1] λ_=>?_;rintro v As ⟨a2,c2,rfl,rfl⟩;refine⟨_,rfl,trivial,?_⟩;rw[show((([]:List Bool)++Bt.bits 5 3).length+7)/8=1 from rfl];refine J.know (λh' s=>i9 (c:=(a2,c2)) (by decide) (s.get (i:=5) rfl)) λhg=>?_;obtain⟨g2,rfl⟩:=hg;refine J.qp (b6V) [] λ_=>?_;refine J.qp (b6W) [] λ_=>?_;refine J.qp (a9E) [] λ_=>?_;refine J.qp (a9D) [] λ_=>?_;refine J.qp (b5P) [] λ_=>?_;refine J.qp (b7m (b1 0) ([]++Bt.bits 5 3)) [1] λ_=>?_;refine J.q λ_=>?_;refine J.v (.int .u8 160) rfl rfl (λhg a w he hw=>?_) ?_
 ·exact j9 tk rfl rfl he hg rfl rfl (hw.get (i:=5) rfl) (by kernel_rfl)
 refine J.qp (a8E g (some ⟨b2 0,0,none⟩) 1 1 4 (by decide) (by decide)) [4] λ_=>?_;refine J.qp (b7s) [] λ_=>?_;refine J.qp (b6t) [] λ_=>?_;refine J.qp (a7l 3) [] λ_=>?_;refine J.qp (b6s 6 0 (by decide) (by decide)) [] λ_=>?_;refine J.qp (b2G 6 2) [] λ_=>?_;refine J.qp (a0T 6) [] λ_=>?_;refine J.qr [] λ_=>?_;exact⟨by kernel_rfl,rfl⟩
theorem b2N:FP 312 [] [] (Ps (.bool true) []):=by
 refine FE [] Tryz.func312 λX F hX=>?_;refine J.qp (b2M) [] λ_=>?_;exact J.qx []
theorem a1B (d b p:Nat) (h:y6 d b p=true):FP 71 [.agg #[iI d,iI b,iI p]] [] (Ps (iI ((((b:Int)-5)*p*((d:Int)-2)+1).tdiv 2)) []):=by
 have hbd:(3<=d/\d<=6)/\(8<=b/\b<=16)/\(2<=p/\p<=8):=by simp[y6]at h;omega
 have h1:0<=((b:Int)-5)*p/\((b:Int)-5)*p<=88:=by
  refine⟨Int.mul_nonneg (by omega) (by omega),?_⟩;have:((b:Int)-5)*p<=11*8:=Int.mul_le_mul (by omega) (by omega) (by omega) (by omega);omega
 have h2:0<=((b:Int)-5)*p*((d:Int)-2)/\((b:Int)-5)*p*((d:Int)-2)<=352:=by
  refine⟨Int.mul_nonneg h1.1 (by omega),?_⟩;have:((b:Int)-5)*p*((d:Int)-2)<=88*4:=Int.mul_le_mul h1.2 (by omega) (by omega) (by omega);omega
 have h3: -1<=(((b:Int)-5)*p*((d:Int)-2)+1).tdiv 2/\(((b:Int)-5)*p*((d:Int)-2)+1).tdiv 2<=1000:=by
  generalize((b:Int)-5)*p*((d:Int)-2)=x at h2;rw[Int.tdiv_eq_ediv_of_nonneg (by omega)];omega
 refine FE [0] Tryz.func71 λX F hX=>?_;refine J.qp (a2e d b p) [] λ_=>?_;rw[h];refine J.qF λ_=>?_;exact J.qx []
theorem b2J:FP 300 [] [] (Ps (.bool true) []):=by
 refine FE [] Tryz.func300 λX F hX=>?_;refine J.qp (b2N) [] λ_=>?_;refine J.qp (a2e 3 8 2) [] λ_=>?_;rw[show y6 3 8 2=true from rfl];refine J.qp (a2e 0 0 0) [] λ_=>?_;rw[show y6 0 0 0=false from rfl];refine J.qp (a7y 3 8 2 2 7 1 (by decide) (by decide) (by decide)) [] λ_=>?_;rw[show y7 3 8 2 2 7 1=true from rfl];refine J.qp (a7y 3 8 2 3 0 0 (by decide) (by decide) (by decide)) [] λ_=>?_;rw[show y7 3 8 2 3 0 0=false from rfl];refine J.qp (L6 7 1 1) [] λ_=>?_;rw[show G.parity 7 1 1=2 from by kernel_rfl];refine J.qp (K6 7) [] λ_=>?_;rw[show G.slots 7=2 from by kernel_rfl];refine J.qp (a9n 7 0 0 0 (by decide) (by decide)) [] λ_=>?_;rw[show G.die 7 0 0 0=1 from by kernel_rfl];refine J.qp (b3n 7 0 0 2) [] λ_=>?_;rw[show G.slot 7 0 0 2=1 from by kernel_rfl];refine J.qp (b3n 7 0 0 0) [] λ_=>?_;rw[show G.slot 7 0 0 0= -1 from by kernel_rfl];refine J.qp (a1B 3 8 2 rfl) [] λ_=>?_;refine J.qr [] λ_=>?_;exact⟨by kernel_rfl,rfl⟩
theorem a7o:FP 292 [] [] (Ps (.bool true) []):=by
 refine FE [] Tryz.func292 λX F hX=>?_;refine J.qp (b2J) [] λ_=>?_;exact J.qx []
def ft (a k d n x:Int):List Value:=[iI a,iI k,iI d,iI 0,iI 0,iI n,iI x]
theorem b6a:FP 102 [.agg #[iI 3,iI 8,iI 2], .agg (ft 3 4 2 0 0).toArray] [] (Ps (.bool true) []):=by
 refine FE [0,0] Tryz.func102 λX F hX=>?_;refine J.qT λ_=>?_;refine J.qp (a7y 3 8 2 2 0 0 (by decide) (by decide) (by decide)) [] λ_=>?_;exact J.qx []
theorem b5Z:FP 102 [.agg #[iI 3,iI 8,iI 2], .agg (ft (-1) 0 0 0 0).toArray] [] (Ps (.bool false) []):=by
 refine FE [0,0] Tryz.func102 λX F hX=>?_;refine J.qT λ_=>?_;refine J.q λ_=>?_;refine J.v (.bool false) rfl rfl (λhg a w he hw=>absurd hg (by decide)) ?_;exact J.qx []
theorem b4u (a:Option Addr) (c:Nat) (d:Value):FP 206 [.slice a 1 c,iI 0,iI 1,d] [] (Ps (.tuple #[]) []):=by
 refine FE [0,0,0,0] Tryz.func206 λX F hX=>?_;refine J.q λ_=>?_;refine J.l (α:=Nat) (λk=>True) (λk=>[si 8 1,si 2 1]) [] (λk=>[]) (λk=>0) (0) (trivial) λk hI=>?_;refine J.qF λ_=>?_;refine J.q λ_=>?_;refine J.f [] ?_;exact⟨rfl,rfl⟩
theorem b1V (a:Option Addr) (c:Nat) (d:Value):FP 152 [.slice a 1 c,iI 1,d] [] (Ps (.tuple #[]) []):=by
 refine FE [0,0,0] Tryz.func152 λX F hX=>?_;refine J.q λ_=>?_;refine J.l (α:=Nat) (λk=>True) (λk=>[si 8 20,si 6 20,si 7 0,sv 0 (.slice a 1 c),si 1 1,sv 2 d]) [] (λk=>[]) (λk=>0) (0) (trivial) λk hI=>?_;refine J.qF λ_=>?_;refine J.qp (b4u a c d) [] λ_=>?_;refine J.q λ_=>?_;refine J.l (α:=Nat) (λk=>True) (λk=>[si 6 20,si 1 1]) [] (λk=>[]) (λk=>0) (0) (trivial) λk hI=>?_;refine J.qF λ_=>?_;refine J.q λ_=>?_;refine J.f [] ?_;exact⟨rfl,rfl⟩
theorem a5O (a:Option Addr) (c:Nat) (d:Value):FP 103 [.slice a 1 c,d] [] (Ps (.tuple #[]) []):=by
 refine FE [0,0] Tryz.func103 λX F hX=>?_;refine J.qp (b1V a c d) [] λ_=>?_;refine J.q λ_=>?_;refine J.f [] ?_;exact⟨rfl,rfl⟩
def fk (k:Nat):List Value:=match k with | 0=>[] | _=>ft 3 4 2 0 0
theorem b7h (g:Nat):FP 62 [.agg #[iI 3,iI 8,iI 2], .slice (some ⟨g,0,none⟩) 2 2] [.pt g 34 (ft 3 4 2 0 0++ft (-1) 0 0 0 0)]
  (λv As=>∃p a c,v=pp p/\As=[.pt p 176 [slv a 1 c],c9 34 7 a 1 c (ft 3 4 2 0 0)]):=by
 refine FE [0,2] Tryz.func62 λX F hX=>?_;refine J.q λbb=>?_;refine J.turn1 [] rfl (As:=[c9 34 7 none 0 0 (fk 0)]) (λh s=>Sep.one ⟨rfl,rfl,rfl⟩) rfl ?_;refine J.q λ_=>?_;refine J.l (α:=(Nat×Option Nat×Nat)) (λz=>z.1<=2) (λz=>[si 12 z.1,si 11 2,⟨10, .slice (some ⟨g,0,none⟩) 2 2,2, .tt⟩,⟨2,pp (bb 0),3, .tt⟩,⟨5,pp (bb 1),4, .tt⟩]) [3,4] (λz=>[.pt (bb 1) 176 [slv z.2.1 (nk z.1) z.2.2],c9 34 7 z.2.1 (nk z.1) z.2.2 (fk z.1)]) (λz=>2-z.1) ((0,none,0)) (Nat.zero_le _) λz hI=>?_;obtain⟨k,a,c⟩:=z;dsimp only at hI ⊢;rcases(by omega:k=0\/k=1\/k=2)with rfl | rfl | rfl
 ·refine J.qT λ_=>?_;refine J.q λ_=>?_;refine J.v (.agg (ft 3 4 2 0 0).toArray) rfl rfl (λhg a w he hw=>j7 tk rfl rfl he rfl rfl rfl (hw.get (i:=1) rfl) rfl rfl) ?_;refine J.qp (b6a) [] λ_=>?_;refine J.qT λ_=>?_;refine J.pq (.of [0,4,8,12,17,21,26,30,32,36,43]) [8,9,10] [3,5] λ_ _=>?_;refine J.append hX tk 4 6 0 rfl rfl rfl rfl rfl rfl rfl rfl rfl rfl rfl rfl rfl rfl rfl rfl (by decide) (by decide) (λ_=>rfl) λa2 c2=>⟨_,rfl,⟨rfl,rfl,trivial⟩,?_⟩;refine J.q λ_=>?_;refine J.n ((1,a2,c2)) (by dsimp only;omega) (by dsimp only;omega) [0,1,2,3,4]
 ·refine J.qT λ_=>?_;refine J.q λ_=>?_;refine J.v (.agg (ft (-1) 0 0 0 0).toArray) rfl rfl (λhg a w he hw=>j7 tk rfl rfl he rfl rfl rfl (hw.get (i:=1) rfl) rfl rfl) ?_;refine J.qp (b5Z) [] λ_=>?_;refine J.qF λ_=>?_;refine J.q λ_=>?_;refine J.n ((2,a,c)) (by dsimp only;omega) (by dsimp only;omega) [0,1,2,3,4]
 ·refine J.qF λ_=>?_;refine J.qp (a5O (oad a) c (.func (.func 104) #[] #[])) [] λ_=>?_;refine J.qr [3,4] λ_=>?_;exact⟨bb 1,a,c,rfl,rfl⟩
theorem b6b (p:Nat) (a:Option Addr) (n c:Nat):FP 293 [pp p] [.pt p 176 [.slice a n c]] (Ps (iI n) [.pt p 176 [.slice a n c]]):=by
 refine FE [2] Tryz.func293 λX F hX=>?_;refine J.qF λ_=>?_;exact J.qx [1]
theorem b6c (g:Nat):FP 294 [.slice (some ⟨g,0,none⟩) 1 1] [.pt g 34 (ft 0 0 2 0 0)] (Ps (iI 4) []):=by
 refine FE [2] Tryz.func294 λX F hX=>?_;refine J.q λ_=>?_;refine J.l (α:=Nat) (λk=>k<=1) (λk=>[si 8 k,si 7 1,⟨6, .slice (some ⟨g,0,none⟩) 1 1,2, .tt⟩,si 3 (4*k)]) [] (λk=>[]) (λk=>1-k) (0) (Nat.zero_le _) λk hI=>?_;rcases(by omega:k=0\/k=1)with rfl | rfl
 ·refine J.qT λ_=>?_;refine J.q λ_=>?_;refine J.v (.agg (ft 0 0 2 0 0).toArray) rfl rfl (λhg a w he hw=>j7 tk rfl rfl he rfl rfl rfl (hw.get (i:=1) rfl) rfl rfl) ?_;refine J.qp (a5V 0 2) [] λ_=>?_;refine J.q λ_=>?_;refine J.n (1) (by omega) (by omega) [0,1]
 ·refine J.qF λ_=>?_;exact J.qx []
def lgN (d b p:Nat):Nat:=((b-5)*p*(d-2)+1)/2
theorem b2A (d b p:Nat) (hd:2<=d) (hb:5<=b):(((b:Int)-5)*p*((d:Int)-2)+1).tdiv 2=(lgN d b p:Int):=by
 have e1:(b:Int)-5=((b-5:Nat):Int):=by omega
 have e2:(d:Int)-2=((d-2:Nat):Int):=by omega
 rw[e1,e2,<- Int.natCast_mul,<- Int.natCast_mul,show(((b-5)*p*(d-2):Nat):Int)+1=(((b-5)*p*(d-2)+1:Nat):Int)from by omega,Int.tdiv_eq_ediv_of_nonneg (by omega)];unfold lgN;omega
theorem a3R:∀(l:List En) (r:List Value) (k:Nat) (x:En),k<l.length->(d6 l++r).take (k*19)++enL x++(d6 l++r).drop (k*19+19)=d6 (l.set k x)++r
 | [],_,_,_,h=>by simp at h
 | y::l,r,0,x,h=>by simp[d6,enL]
 | y::l,r,k+1,x,h=>by
  have:=a3R l r k x (by simpa using h);have hy:(enL y).length=19:=rfl;have e1:d6 (y::l)++r=enL y++(d6 l++r):=by simp[d6]
  have e2:d6 ((y::l).set (k+1) x)++r=enL y++(d6 (l.set k x)++r):=by simp[d6]
  rw[e1,e2,<- this,show(k+1)*19=(enL y).length+k*19 from by omega,List.take_length_add_append,show(enL y).length+k*19+19=(enL y).length+(k*19+19)from by omega,<- List.drop_drop,List.drop_left' rfl];simp only[List.append_assoc]
theorem D9:∀l:List En,(d6 l).length=l.length*19
 | []=>rfl
 | x::l=>by
  have:=D9 l;have e1:d6 (x::l)=enL x++d6 l:=by simp[d6]
  have hy:(enL x).length=19:=rfl;rw[e1,List.length_append,this,hy,List.length_cons];omega
def a4m (p:En->Bool) (l:List En):Int:=match l.findIdx? p with
 | some k=>k
 | none=> -1
theorem a4Z {p:En->Bool} {l:List En} {k:Nat} {x:En} (h:l[k]? =some x) (h0:∀i<k,p (l.getD i En.zero)=false) (hp:p x=true):l.findIdx? p=some k:=by
 rw[List.findIdx?_eq_some_iff_getElem];obtain⟨h1,h2⟩:=List.getElem?_eq_some_iff.1 h;refine⟨h1,by rw[h2];exact hp,λj hj=>?_⟩;have:=h0 j hj;rw[List.getD_eq_getElem?_getD,List.getElem?_eq_getElem (by omega),Option.getD_some]at this;simp[this]
theorem a5a {p:En->Bool} {l:List En} (h0:∀i<l.length,p (l.getD i En.zero)=false):l.findIdx? p=none:=by
 rw[List.findIdx?_eq_none_iff];intro x hx;obtain⟨i,hi,rfl⟩:=List.mem_iff_getElem.1 hx;have:=h0 i hi
 rwa [List.getD_eq_getElem?_getD,List.getElem?_eq_getElem hi,Option.getD_some]at this
theorem b3b (p:En->Bool) (l:List En):decide (a4m p l>=0)=l.any p:=by
 unfold a4m;cases h:l.findIdx? p with
 | none=>
  rw[List.findIdx?_eq_none_iff]at h;have:l.any p=false:=by rw[List.any_eq_false];exactλx hx=>by simp[h x hx]
  rw[this];rfl
 | some k=>
  rw[List.findIdx?_eq_some_iff_getElem]at h;obtain⟨h1,h2,_⟩:=h;have:l.any p=true:=List.any_eq_true.2 ⟨l[k],List.getElem_mem _,h2⟩;rw[this];simp
theorem a6v (c:Nat) (cs:List Value) (p:En->Bool) (A:Atom) (hcal:n9 Tryz.prog c=true) (l:List En) (hf:∀x∈l,Fn Tryz.prog c (enV x::cs) [A] (λv As=>v= .bool (p x)/\As=[A]))
  (a:Option Nat) (n cap:Nat) (hl:l.length=n) (hn:n<=4611686018427387904):FP 141 [slv a n cap,fnC c cs] [c9 155 19 a n cap (d6 l),A]
  (λv As=>v=iI (a4m p l)/\As=[c9 155 19 a n cap (d6 l),A]):=by
 refine FE [0,0] Tryz.func141 λX F hX=>?_;refine J.q λ_=>?_;refine J.l (α:=Nat) (λk=>k<=n/\∀i<k,p (l.getD i En.zero)=false) (λk=>[si 8 k,si 7 n,sv 0 (slv a n cap),⟨1,fnC c cs,0, .tt⟩]) [] (λk=>[]) (λk=>n-k) (0) (⟨by omega,by omega⟩) λk hI=>?_;refine J.qd (λ_ h1=>?_) λ_ h1=>?_
 ·simp only[decide_eq_true_eq,Int.ofNat_lt]at h1;cases a with
  | none=>
   refine J.know (λh' s=>(s.get (i:=1) rfl).2.1) λhn0=>?_;omega
  | some g=>
   have hk:l[k]? =some (l.getD k En.zero):=by rw[List.getD_eq_getElem?_getD,List.getElem?_eq_getElem (by omega),Option.getD_some]
   refine J.q λ_=>?_;refine J.v (enV (l.getD k En.zero)) rfl rfl (λhg a w he hs=>?_) ?_
   ·exact q9 tk rfl rfl he rfl rfl rfl (hs.get (i:=1) rfl) (by rw[show 0+(k:Int).toNat*19=k*19 from by omega];have:=E7 l [] k _ hk;rwa [List.append_nil]at this) rfl
   refine J.q λ_=>?_;refine J.call hX hcal (hf (l.getD k En.zero) (List.mem_of_getElem? hk)) [2] 0 rfl rfl rfl rfl (by(repeat' (first | exact Conj.nil | refine Conj.cons ?_ ?_ | omega | exact hq0 | (simpa using hq0) | (exactλh=>h) | exact rfl | (intro hq;have hq0:=hq;try simp only[Bool.and_eq_true,Bool.or_eq_true,decide_eq_true_eq,Bool.not_eq_true',decide_eq_false_iff_not]at hq) | (simp;done) | (simp;omega) | decide))) rfl rfl (λ_=>rfl) ?_;refine cpq ⟨_,rfl,trivial,?_⟩;refine J.qd (λ_ h2=>?_) λ_ h2=>?_
   ·refine J.qr [1,2] λ_=>?_;exact⟨by rw[a4m,a4Z hk hI.2 h2],rfl⟩
   ·refine J.q λ_=>?_;refine J.nx (k+1) (⟨by omega,λi hi=>by
     rcases Nat.lt_succ_iff_lt_or_eq.1 hi with h3 | h3
     ·exact hI.2 i h3
     ·rw[h3];exact h2⟩) (by omega) (λ_ s=>s)
 ·simp only[decide_eq_false_iff_not,Int.ofNat_lt]at h1;refine J.qr [1,2] λ_=>?_;exact⟨by rw[a4m,a5a (λi hi=>hI.2 i (by omega))],rfl⟩
theorem a3S (l:List En):∀u∈d6 l,u.oneCell'=true:=by
 intro u hu;simp only[d6,List.mem_flatMap]at hu;obtain⟨s,_,hu⟩:=hu;simp only[enL,List.mem_cons,List.not_mem_nil,or_false]at hu;rcases hu with rfl | rfl | rfl | rfl | rfl | rfl | rfl | rfl | rfl | rfl | rfl | rfl | rfl | rfl | rfl | rfl | rfl | rfl | rfl<;>rfl
def DelE (p:En->Bool) (l m:List En) (i j:Nat):Prop:=m.length=l.length/\i<j/\j<=l.length/\m.drop j=l.drop j/\m.take i++(l.drop j).filter (λx=>!p x)=l.filter (λx=>!p x)
theorem DelE.start {p:En->Bool} {l:List En} {k:Nat} (h:l.findIdx? p=some k):DelE p l l k (k+1):=by
 rw[List.findIdx?_eq_some_iff_getElem]at h;obtain⟨h1,h2,h3⟩:=h;refine⟨rfl,by omega,by omega,rfl,?_⟩;have e:l=l.take k++l[k]::l.drop (k+1):=by rw[<- List.drop_eq_getElem_cons h1,List.take_append_drop]
 have e2:(l.take k).filter (λx=>!p x)=l.take k:=by
  rw[List.filter_eq_self];intro x hx;obtain⟨i,hi,rfl⟩:=List.mem_iff_getElem.1 hx;rw[List.getElem_take];have:=h3 i (by simp at hi;omega);simpa using this
 conv=>rhs;rw[e]
 rw[List.filter_append,e2,List.filter_cons_of_neg (by simp[h2])]
theorem DelE.skip {p:En->Bool} {l m:List En} {i j:Nat} (h:DelE p l m i j) (hj:j<l.length) (hp:p (m.getD j En.zero)=true):DelE p l m i (j+1):=by
 obtain⟨h1,h2,h3,h4,h5⟩:=h;have e1:m[j]? =l[j]?:=by have:=congrArg (λz=>z[0]?) h4;simpa using this
 have hx:l[j]=m.getD j En.zero:=by rw[List.getD_eq_getElem?_getD,e1,List.getElem?_eq_getElem hj,Option.getD_some]
 refine⟨h1,by omega,by omega,?_,?_⟩
 ·have:=congrArg (List.drop 1) h4;simpa[List.drop_drop]using this
 ·rw[<- h5,List.drop_eq_getElem_cons hj,List.filter_cons_of_neg (by rw[hx,hp];simp)]
theorem DelE.keep {p:En->Bool} {l m:List En} {i j:Nat} (h:DelE p l m i j) (hj:j<l.length) (hp:p (m.getD j En.zero)=false):DelE p l (m.set i (m.getD j En.zero)) (i+1) (j+1):=by
 obtain⟨h1,h2,h3,h4,h5⟩:=h;have e1:m[j]? =l[j]?:=by have:=congrArg (λz=>z[0]?) h4;simpa using this
 have hx:l[j]=m.getD j En.zero:=by rw[List.getD_eq_getElem?_getD,e1,List.getElem?_eq_getElem hj,Option.getD_some]
 refine⟨by simp[h1],by omega,by omega,?_,?_⟩
 ·rw[List.drop_set_of_lt (by omega)];have:=congrArg (List.drop 1) h4;simpa[List.drop_drop]using this
 ·rw[<- h5,List.drop_eq_getElem_cons hj,List.filter_cons_of_pos (by rw[hx,hp];simp),hx,List.take_set,List.take_add_one,List.getElem?_eq_getElem (by omega)];rw[List.set_append_right _ _ (by simp;omega)];simp[List.length_take,Nat.min_eq_left (show i<=m.length by omega)]
theorem a4s (c:Nat) (cs:List Value) (p:En->Bool) (A:Atom) (hcal:n9 Tryz.prog c=true) (hf:∀x,Fn Tryz.prog c (enV x::cs) [A] (λv As=>v= .bool (p x)/\As=[A]))
  (a:Option Nat) (n cap:Nat) (l:List En) (hl:l.length=n) (hn:n<=4611686018427387904):FP 161 [slv a n cap,fnC c cs] [c9 155 19 a n cap (d6 l),A]
  (λv As=>∃l',l'=l.filter (λx=>!p x)/\v=slv a l'.length cap/\As=[c9 155 19 a l'.length cap (d6 l'),A]):=by
 refine FE [0,0] Tryz.func161 λX F hX=>?_;refine J.qp (a6v c cs p A hcal l (λx _=>hf x) a n cap hl hn) [1,2] λ_=>?_;rw[a4m];cases hx:l.findIdx? p with
 | none=>
  dsimp only;refine J.qT λ_=>?_;refine J.qr [1,2] λ_=>?_;have:l.filter (λx=>!p x)=l:=by
   rw[List.filter_eq_self];intro x hm;rw[List.findIdx?_eq_none_iff]at hx;simp[hx x hm]
  exact⟨l,this.symm,by rw[hl],by rw[hl];rfl⟩
 | some k=>
  dsimp only;refine J.qd (λ_ h0=>?_) λ_ h0=>?_
  ·simp only[beq_iff_eq]at h0;omega
  have hk:k<n:=by rw[List.findIdx?_eq_some_iff_getElem]at hx;obtain⟨h1,_⟩:=hx;omega
  cases a with
  | none=>
   refine J.know (λh' s=>(s.get (i:=1) rfl).2.1) λhn0=>?_;omega
  | some g=>
   refine J.openOwn 1 rfl rfl (λ_=>rfl) λr q1 q2 q3 q4=>?_;refine J.q λ_=>?_;rw[show(k:Int)+1=((k+1:Nat):Int)from by omega];refine J.q λ_=>?_;refine J.l (α:=(Nat×Nat×List En)) (λx=>DelE p l x.2.2 x.1 x.2.1) (λx=>[si 6 x.2.1,si 5 x.1,sv 0 (slv (some g) n cap),⟨1,fnC c cs,0, .tt⟩]) [1] (λx=>[.pt g 155 (d6 x.2.2++r)]) (λx=>n-x.2.1) ((k,k+1,l)) (DelE.start hx) λx hI=>?_;obtain⟨i,j,m⟩:=x;dsimp only at hI ⊢;have hml:m.length=n:=hI.1.trans hl;have hij:i<j:=hI.2.1;have hjn:j<=n:=by have:=hI.2.2.1;omega
   refine J.qd (λ_ h1=>?_) λ_ h1=>?_
   ·simp only[decide_eq_true_eq,Int.ofNat_lt]at h1;have hget:m[j]? =some (m.getD j En.zero):=by rw[List.getD_eq_getElem?_getD,List.getElem?_eq_getElem (by omega),Option.getD_some]
    refine J.q λ_=>?_;refine J.v (enV (m.getD j En.zero)) rfl rfl (λhg a w he hs=>?_) ?_
    ·exact j7 tk rfl rfl he rfl rfl rfl (hs.get (i:=1) rfl) (by rw[show 0+(j:Int).toNat*19=j*19 from by omega];exact E7 m r _ _ hget) rfl
    refine J.q λ_=>?_;refine J.call hX hcal (hf (m.getD j En.zero)) [2] 0 rfl rfl rfl rfl (by(repeat' (first | exact Conj.nil | refine Conj.cons ?_ ?_ | omega | exact hq0 | (simpa using hq0) | (exactλh=>h) | exact rfl | (intro hq;have hq0:=hq;try simp only[Bool.and_eq_true,Bool.or_eq_true,decide_eq_true_eq,Bool.not_eq_true',decide_eq_false_iff_not]at hq) | (simp;done) | (simp;omega) | decide))) rfl rfl (λ_=>rfl) ?_;refine cpq ⟨_,rfl,trivial,?_⟩;refine J.qd (λ_ h2=>?_) λ_ h2=>?_
    ·simp only[Bool.not_eq_true']at h2;refine J.q λ_=>?_;refine J.storeN hX tk 1 rfl rfl rfl rfl rfl rfl rfl rfl rfl rfl rfl rfl rfl ?_ (d6 (m.set i (m.getD j En.zero))++r) ?_ rfl (λ_=>rfl) ⟨trivial,?_⟩
     ·rw[List.length_append,D9];show 0+(i:Int).toNat*19+19<=_;omega
     ·rw[show 0+(i:Int).toNat*19=i*19 from by omega];exact a3R m r i _ (by omega)
     refine J.q λ_=>?_;refine J.n ((i+1,j+1,m.set i (m.getD j En.zero))) (hI.keep (by omega) h2) (by dsimp only;omega) [0,1,2]
    ·simp only[Bool.not_eq_false']at h2;refine J.q λ_=>?_;refine J.n ((i,j+1,m)) (hI.skip (by omega) h2) (by dsimp only;omega) [0,1,2]
   ·simp only[decide_eq_false_iff_not,Int.ofNat_lt]at h1;obtain rfl:j=n:=by omega
    have hfil:m.take i=l.filter (λx=>!p x):=by
     have h5:=hI.2.2.2.2;rw[List.drop_of_length_le (by omega)]at h5;simpa using h5
    refine J.q λ_=>?_;refine J.clear hX tk 1 rfl rfl rfl rfl rfl rfl rfl rfl rfl rfl rfl ?_ (λ_=>rfl) (λ_=>rfl) λcs' z1 z2=>⟨trivial,?_⟩
    ·rw[List.length_append,D9];rw[D9]at q4;show 0+(i:Int).toNat*19+(j-(i:Int).toNat)*19<=_;have:(i:Int).toNat=i:=by omega
     rw[this];omega
    have hilen:(l.filter (λx=>!p x)).length=i:=by rw[<- hfil,List.length_take];omega
    refine J.closeOwn (e:=155) (size:=19) (n:=i) (cap:=cap) (xs:=d6 (l.filter (λx=>!p x))) 1 rfl rfl (by rw[D9,hilen]) (by omega) q3 (by rw[z1,List.length_append,D9,hml];rw[D9,hl]at q4;exact q4) ?_ rfl ?_
    ·have z3:(0+(i:Int).toNat*19)=i*19:=by omega
     rw[z3]at z2;rw[z2,<- hfil];have e:d6 m=d6 (m.take i)++d6 (m.drop i):=by
      conv=>lhs;rw[<- List.take_append_drop i m]
      simp only[d6,List.flatMap_append]
     rw[e,List.append_assoc,List.take_left' (by rw[D9,List.length_take,Nat.min_eq_left (by omega)])]
    refine J.qr [1,2] λ_=>?_;exact⟨_,rfl,by rw[hilen];rfl,by rw[hilen];rfl⟩
theorem b3A {E:Env} {n:Nat} {ac:Act} {w:World} {o:Oper} {x y:Operand} {k1 k2 t1 t2:Nat} {g1 g2:G} {a:Option Addr} {m c h:Nat} {kk:IntKind} {hI:Int} (hop:o.op= .slice 132 x none (some y) none) (hx:ev E x=some ⟨k1, .slice a m c,t1,g1⟩) (hy:ev E y=some ⟨k2, .int kk hI,t2,g2⟩) (he:EnvOK n E ac) (v1:g1.on=true) (v2:g2.on=true) (hh:hI=(h:Int)) (hc:h<=c):
  (execOp ac.eval o).run Tryz.prog w= .ok (.value (.slice a h c)) w:=by
 subst hh;have e1:=i5 he hx;have e2:=i5 he hy;simp only[Slot.val,v1,v2]at e1 e2;obtain⟨d,f,zv,ok⟩:=i3 (tk.get (t:=132) rfl);obtain⟨fe,rfl,g1,g2⟩:=ok.slice rfl;have h0:∀ad:Addr,ad.add 0=ad:=λad=>by unfold Addr.add;rw[if_pos rfl]
 cases a with
 | none=>
  simp only[execOp,hop,Option.map_some,Option.map_none,e1,e2,Instr.sliceAt,Instr.slice,Instr.sliceBounds,Instr.sliceBound,asIntOf,Sem.run_bind,Sem.run_pure,Result.andThen_ok,d7 ok.hd,m6 g1,g2];simp[hc,h0]
 | some ad=>
  simp only[execOp,hop,Option.map_some,Option.map_none,e1,e2,Instr.sliceAt,Instr.slice,Instr.sliceBounds,Instr.sliceBound,asIntOf,Sem.run_bind,Sem.run_pure,Result.andThen_ok,d7 ok.hd,m6 g1,g2];simp[hc,h0]
theorem I9 {e size:Nat} {a:Option Nat} {n cap:Nat} {xs:List Value} {h:Hl} (s:J5 e size a n cap xs h):n<=cap:=by
 obtain⟨_,s⟩:=s;cases a with
 | none=>obtain⟨rfl,rfl⟩:=s;exact Nat.le_refl _
 | some g=>obtain⟨_,_,h,_⟩:=s;exact h
theorem V9 (l:List En):∀k,(d6 l).take (k*19)=d6 (l.take k):=by
 induction l with
 | nil=>intro k;simp[d6]
 | cons x l ih=>
  intro k;cases k with
  | zero=>simp[d6]
  | succ k=>
   have e1:d6 (x::l)=enL x++d6 l:=by simp[d6]
   have e2:d6 (x::l.take k)=enL x++d6 (l.take k):=by simp[d6]
   rw[e1,List.take_succ_cons,e2,<- ih k,show(k+1)*19=(enL x).length+k*19 from by show _=19+k*19;omega,List.take_length_add_append]
theorem I4 (l:List En) (e:En):d6 l++enL e=d6 (l++[e]):=by simp[d6]
theorem b1k (a:Option Nat) (N cap cap2 k:Nat) (l:List En) (hl:l.length=N) (hk:k<=N) (hn:N<=1000000):FP 155 [slv a k cap2] [c9 155 19 a N cap (d6 l)]
  (λv As=>∃a' c',v=slv a' k c'/\As=[c9 155 19 a N cap (d6 l),c9 155 19 a' k c' (d6 (l.take k))]):=by
 refine FE [0] Tryz.func155 λX F hX=>?_;cases a with
 | none=>
  refine J.know (λh' s=>(s.get (i:=1) rfl).2) λhn0=>?_;obtain⟨rfl,rfl⟩:=hn0;obtain rfl:k=0:=by omega
  have:l=[]:=List.eq_nil_of_length_eq_zero hl;subst this;refine J.qT λ_=>?_;refine J.turn1 [] rfl (As:=[c9 155 19 none 0 0 (d6 [])]) (λh s=>Sep.one ⟨rfl,rfl,rfl⟩) rfl ?_;refine J.qr [1,2] λ_=>?_;exact⟨none,0,rfl,rfl⟩
 | some g=>
  refine J.qF λ_=>?_;refine J.qn 5 λbb=>?_;refine J.closeOwn (e:=155) (size:=19) (n:=0) (cap:=0) (xs:=[]) 2 rfl rfl rfl (Nat.le_refl _) (Nat.zero_le _) rfl rfl rfl ?_;refine J.q λ_=>?_;have hRd:Rd (c9 155 19 (some g) N cap (d6 l)) (some ⟨g,0,none⟩) 19 k (d6 (l.take k)):=by
   have:=(D0 155 19 (some g) N cap (d6 l)).take k hk
   rwa [V9]at this
  refine J.appendR hX tk (a:=some (bb 0)) (n:=0) (cap:=0) (xs:=[]) (oo:=0) (Ay:=c9 155 19 (some g) N cap (d6 l)) 2 1 0 rfl rfl rfl rfl rfl rfl rfl rfl rfl rfl hRd rfl rfl rfl rfl (a3S _) ?_ ?_ (λ_=>rfl) λa' c'=>⟨_,rfl,trivial,?_⟩
  ·simp only[maxLen];omega
  ·omega
  rw[Nat.zero_add k,List.nil_append];refine J.qr [1,2] λ_=>?_;exact⟨a',c',rfl,rfl⟩
theorem b1g (c:Nat) (cs:List Value) (p:En->Bool) (A B:Atom) (hcal:n9 Tryz.prog c=true) (l:List En) (hf:∀x∈l,Fn Tryz.prog c (enV x::cs) [A] (Ps (.bool (p x)) [A]))
  (a:Option Addr) (n cap:Nat) (hB:Rd B a 19 n (d6 l)) (hl:l.length=n) (hn:n<=4611686018427387904):FP 141 [.slice a n cap,fnC c cs] [B,A]
  (Ps (iI (a4m p l)) [B,A]):=by
 refine FE [0,0] Tryz.func141 λX F hX=>?_;refine J.q λ_=>?_;refine J.l (α:=Nat) (λk=>k<=n/\∀i<k,p (l.getD i En.zero)=false) (λk=>[si 8 k,si 7 n,sv 0 (.slice a n cap),⟨1,fnC c cs,0, .tt⟩]) [] (λk=>[]) (λk=>n-k) (0) (⟨by omega,by omega⟩) λk hI=>?_;refine J.qd (λ_ h1=>?_) λ_ h1=>?_
 ·simp only[decide_eq_true_eq,Int.ofNat_lt]at h1;refine J.know (p:=∃g o,a=some ⟨g,o,none⟩) (λh' s=>Rd.addr (hB _ (s.get (i:=1) rfl)) (by omega)) λhk=>?_;obtain⟨g,o,rfl⟩:=hk;have hk:l[k]? =some (l.getD k En.zero):=by rw[List.getD_eq_getElem?_getD,List.getElem?_eq_getElem (by omega),Option.getD_some]
  refine J.q λ_=>?_;refine J.v (enV (l.getD k En.zero)) rfl rfl (λhg a w he hs=>?_) ?_
  ·exact Z9 tk rfl rfl he rfl rfl rfl (hB _ (hs.get (i:=1) rfl)) (by omega) (j:=k*19) (by omega) (by have:=E7 l [] k _ hk;rwa [List.append_nil]at this) rfl
  refine J.q λ_=>?_;refine J.call hX hcal (hf (l.getD k En.zero) (List.mem_of_getElem? hk)) [2] 0 rfl rfl rfl rfl (by(repeat' (first | exact Conj.nil | refine Conj.cons ?_ ?_ | omega | exact hq0 | (simpa using hq0) | (exactλh=>h) | exact rfl | (intro hq;have hq0:=hq;try simp only[Bool.and_eq_true,Bool.or_eq_true,decide_eq_true_eq,Bool.not_eq_true',decide_eq_false_iff_not]at hq) | (simp;done) | (simp;omega) | decide))) rfl rfl (λ_=>rfl) ?_;refine cpq ⟨_,rfl,trivial,?_⟩;refine J.qd (λ_ h2=>?_) λ_ h2=>?_
  ·refine J.qr [1,2] λ_=>?_;exact⟨by rw[a4m,a4Z hk hI.2 h2],rfl⟩
  ·refine J.q λ_=>?_;refine J.nx (k+1) (⟨by omega,λi hi=>by
    rcases Nat.lt_succ_iff_lt_or_eq.1 hi with h3 | h3
    ·exact hI.2 i h3
    ·rw[h3];exact h2⟩) (by omega) (λ_ s=>s)
 ·simp only[decide_eq_false_iff_not,Int.ofNat_lt]at h1;refine J.qr [1,2] λ_=>?_;exact⟨by rw[a4m,a5a (λi hi=>hI.2 i (by omega))],rfl⟩
theorem a6y (c:Nat) (cs:List Value) (p:En->Bool) (A B:Atom) (hcal:n9 Tryz.prog c=true) (l:List En) (hf:∀x∈l,Fn Tryz.prog c (enV x::cs) [A] (Ps (.bool (p x)) [A]))
  (a:Option Addr) (n cap:Nat) (hB:Rd B a 19 n (d6 l)) (hl:l.length=n) (hn:n<=4611686018427387904):FP 163 [.slice a n cap,fnC c cs] [B,A]
  (Ps (.bool (l.any p)) [B,A]):=by
 refine FE [0,0] Tryz.func163 λX F hX=>?_;refine J.qp (b1g c cs p A B hcal l hf a n cap hB hl hn) [1,2] λ_=>?_;refine J.qr [1,2] λ_=>?_;exact⟨by rw[<- b3b],rfl⟩
def R1 (d:Nat) (L:List En):Atom:=exA λx:Option Nat×Nat=>[.pt d 182 [slv x.1 L.length x.2],c9 155 19 x.1 L.length x.2 (d6 L)]
theorem b5M:FP 81 [] [] (λv As=>∃d,v=pp d/\As=[R1 d []]):=by
 refine FE [] Tryz.func81 λX F hX=>?_;refine J.q λbs=>?_;refine J.turn1 [] rfl (As:=[c9 155 19 none 0 0 (d6 [])]) (λh s=>Sep.one ⟨rfl,rfl,rfl⟩) rfl ?_;refine J.cl (λx:Option Nat×Nat=>[.pt (bs 0) 182 [slv x.1 ([]:List En).length x.2],c9 155 19 x.1 ([]:List En).length x.2 (d6 [])]) (none,0) [1,2] ?_;refine J.qr [1] λ_=>?_;exact⟨bs 0,rfl,rfl⟩
theorem a9v (d:Nat) (L:List En):FP 68 [pp d] [R1 d L] (Ps (iI L.length) [R1 d L]):=by
 refine FE [2] Tryz.func68 λX F hX=>?_;refine J.o (α:=(Option Nat×Nat)) 1 λx=>?_;refine J.qF λ_=>?_;refine J.q λ_=>?_;refine J.cl (λx:Option Nat×Nat=>[.pt d 182 [slv x.1 L.length x.2],c9 155 19 x.1 L.length x.2 (d6 L)]) x [1,2] ?_;exact J.qx [1]
theorem b6F (b:Nat) (e x:En):FP 200 [enV x,pp b] [.pt b 155 (enL e)] (Ps (.bool (x.lpn==e.lpn)) [.pt b 155 (enL e)]):=by
 refine FE [0,2] Tryz.func200 λX F hX=>?_;exact J.qx [1]
def I2 (L:List En) (e:En):List En:=(L.filter λx=>!(x.lpn==e.lpn))++[e]
theorem a9u (d:Nat) (L:List En) (hL:L.length<=100000) (e:En):FP 140 [pp d,enV e] [R1 d L] (Ps (.tuple #[]) [R1 d (I2 L e)]):=by
 refine FE [2,0] Tryz.func140 λX F hX=>?_;refine J.o (α:=(Option Nat×Nat)) 1 λx=>?_;obtain⟨a,c⟩:=x;refine J.q λbb=>?_;refine J.cF ?_;refine J.qc (a4s 200 [pp (bb 0)] (λx=>x.lpn==e.lpn) (.pt (bb 0) 155 (enL e)) (by kernel_rfl) (λx=>b6F (bb 0) e x) a L.length c L rfl (by omega)) [2,3] λ_=>?_;rintro v As ⟨l',hl',rfl,rfl⟩;refine⟨_,rfl,trivial,?_⟩;have hll:l'.length<=L.length:=by rw[hl'];exact List.length_filter_le _ _
 have hput:I2 L e=l'++[e]:=by unfold I2;rw[hl']
 refine J.pq (.of [0,4,8,12,17,21,26,30,32,36,43]) [8,9,10] [1,3] λ_ _=>?_;refine J.ap 2 4 0 (I4 l' e) λa2 c2=>?_;refine J.q λ_=>?_;rw[show l'.length+1=(I2 L e).length from by rw[hput];simp,<- hput];refine J.cl (λx:Option Nat×Nat=>[.pt d 182 [slv x.1 (I2 L e).length x.2],c9 155 19 x.1 (I2 L e).length x.2 (d6 (I2 L e))]) (a2,c2) [1,2] ?_;refine J.q λ_=>?_;refine J.f [1] ?_;exact⟨rfl,rfl⟩
theorem b6G (b:Nat) (k:Int) (x:En):FP 142 [enV x,pp b] [.pt b 3 [iI k]] (Ps (.bool (x.lpn==k)) [.pt b 3 [iI k]]):=by
 refine FE [0,2] Tryz.func142 λX F hX=>?_;exact J.qx [1]
def T7 (L:List En) (k:Int):En×Bool:=match L.find? (λx=>x.lpn==k)with
 | some e=>(e,true)
 | none=>(En.zero,false)
theorem b3q {p:En->Bool} {l:List En} {k:Nat} (h:l.findIdx? p=some k):l.find? p=some (l.getD k En.zero)/\l[k]? =some (l.getD k En.zero):=by
 rw[List.findIdx?_eq_some_iff_getElem]at h;obtain⟨h1,h2,h3⟩:=h;have e:l[k]? =some (l.getD k En.zero):=by rw[List.getD_eq_getElem?_getD,List.getElem?_eq_getElem h1,Option.getD_some]
 refine⟨?_,e⟩;have e2:l.getD k En.zero=l[k]:=by rw[List.getElem?_eq_getElem h1]at e;injection e with e;exact e.symm
 rw[List.find?_eq_some_iff_getElem,e2];exact⟨h2,k,h1,rfl,λj hj=>by simpa using h3 j hj⟩
theorem b5N (d:Nat) (L:List En) (hL:L.length<=100000) (k:Int):FP 93 [pp d,iI k] [R1 d L] (Ps (.tuple #[enV (T7 L k).1, .bool (T7 L k).2]) [R1 d L]):=by
 refine FE [2,0] Tryz.func93 λX F hX=>?_;refine J.o (α:=(Option Nat×Nat)) 1 λx=>?_;obtain⟨a,c⟩:=x;refine J.q λbb=>?_;refine J.cF ?_;refine J.q λ_=>?_;refine J.ca hX (by kernel_rfl) (a6v 142 [pp (bb 0)] (λx=>x.lpn==k) (.pt (bb 0) 3 [iI k]) (by kernel_rfl) L (λx _=>b6G (bb 0) k x) a L.length c rfl (by omega)) [2,3] 0 rfl rfl rfl rfl rfl rfl (λ_=>rfl) ?_;refine cpq ⟨_,rfl,trivial,?_⟩;rw[a4m];cases hx:L.findIdx? (λx=>x.lpn==k)with
 | none=>
  dsimp only;refine J.qT λ_=>?_;refine J.cl (λx:Option Nat×Nat=>[.pt d 182 [slv x.1 L.length x.2],c9 155 19 x.1 L.length x.2 (d6 L)]) (a,c) [1,2] ?_;refine J.qr [1] λ_=>?_;have:T7 L k=(En.zero,false):=by
   unfold T7;rw[List.find?_eq_none.2 (λx hm=>by rw[List.findIdx?_eq_none_iff]at hx;simp[hx x hm])]
  rw[this];exact⟨rfl,rfl⟩
 | some i=>
  dsimp only;obtain⟨f1,f2⟩:=b3q hx;have hi:i<L.length:=(List.getElem?_eq_some_iff.1 f2).1;refine J.qd (λ_ h0=>?_) λ_ h0=>?_
  ·simp only[decide_eq_true_eq]at h0;omega
  cases a with
  | none=>
   refine J.know (λh' s=>(s.get (i:=2) rfl).2.1) λhn0=>?_;omega
  | some g=>
   refine J.q λ_=>?_;refine J.v (enV (L.getD i En.zero)) rfl rfl (λhg a w he hs=>?_) ?_
   ·exact q9 tk rfl rfl he rfl rfl rfl (hs.get (i:=2) rfl) (by rw[show 0+(i:Int).toNat*19=i*19 from by omega];have:=E7 L [] i _ f2;rwa [List.append_nil]at this) rfl
   refine J.cl (λx:Option Nat×Nat=>[.pt d 182 [slv x.1 L.length x.2],c9 155 19 x.1 L.length x.2 (d6 L)]) (some g,c) [1,2] ?_;refine J.qr [1] λ_=>?_;have:T7 L k=(L.getD i En.zero,true):=by
    unfold T7;rw[f1]
   rw[this];exact⟨rfl,rfl⟩
def dkN (L:List En) (n:Int):Nat:=min n.toNat L.length
theorem a9w (d:Nat) (L:List En) (hL:L.length<=100000) (n:Int):FP 108 [pp d,iI n] [R1 d L] (λv As=>∃a' c',v=slv a' (dkN L n) c'/\As=[R1 d L,c9 155 19 a' (dkN L n) c' (d6 (L.take (dkN L n)))]):=by
 refine FE [2,0] Tryz.func108 λX F hX=>?_;refine J.o (α:=(Option Nat×Nat)) 1 λx=>?_;obtain⟨a,c⟩:=x;refine J.qF λ_=>?_;refine J.know (λh' s=>I9 (s.get (i:=2) rfl)) λhcap=>?_;dsimp only at hcap;have hmin:(if(L.length:Int)<(if(0:Int)>n then 0 else n)then(L.length:Int)else(if(0:Int)>n then 0 else n))=(dkN L n:Int):=by
  unfold dkN
  by_cases h:(0:Int)>n
  ·simp only[if_pos h];rw[if_neg (by omega)];omega
  ·simp only[if_neg h];split<;>omega
 have hk:dkN L n<=L.length:=Nat.min_le_right _ _;refine J.pn 12 (.of [0,4,8,13,16,20,24,28,32,37,40,44,48,54,56]) [14] [1,2] λ_ _=>?_;refine J.vT (slv a (dkN L n) c) rfl rfl (λhg aa w he hC=>?_) ?_
 ·exact b3A rfl rfl rfl he rfl rfl hmin (by omega)
 refine J.qc (b1k a L.length c c (dkN L n) L rfl hk (by omega)) [2] λ_=>?_;rintro v As ⟨a',c',rfl,rfl⟩;refine⟨_,rfl,⟨rfl,rfl,trivial⟩,?_⟩;refine J.q λ_=>?_;refine J.cl (λx:Option Nat×Nat=>[.pt d 182 [slv x.1 L.length x.2],c9 155 19 x.1 L.length x.2 (d6 L)]) (a,c) [1,2] ?_;refine J.qr [1,3] λ_=>?_;exact⟨a',c',rfl,rfl⟩
theorem b5r (b be:Nat) (x e:En):FP 164 [enV e,pp b] [.pt b 155 (enL x)] (Ps (.bool (e.lpn==x.lpn&&e.seq==x.seq)) [.pt b 155 (enL x)]):=by
 refine FE [0,2] Tryz.func164 λX F hX=>?_;exact J.qx [1]
theorem b5s (b:Nat) (B:Atom) (al:Option Addr) (nl cl:Nat) (l:List En) (hB:Rd B al 19 nl (d6 l)) (hl:l.length=nl) (hn:nl<=4611686018427387904) (x:En):FP 162 [enV x,pp b] [.pt b 132 [.slice al nl cl],B] (λv As=>v= .bool (l.any λe=>e.lpn==x.lpn&&e.seq==x.seq)/\As=[.pt b 132 [.slice al nl cl],B]):=by
 refine FE [0,2] Tryz.func162 λX F hX=>?_;refine J.q λbb=>?_;refine J.ca hX (by kernel_rfl) (a6y 164 [pp (bb 0)] (λe=>e.lpn==x.lpn&&e.seq==x.seq) (.pt (bb 0) 155 (enL x)) B (by kernel_rfl) l (λe _=>b5r (bb 0) 0 x e) al nl cl hB hl hn) [2,3] 0 rfl rfl rfl rfl rfl rfl (λ_=>rfl) ?_;refine cpq ⟨_,rfl,trivial,?_⟩;exact J.qx [1,2]
def J1 (L l:List En):List En:=L.filter λx=>!(l.any λe=>e.lpn==x.lpn&&e.seq==x.seq)
theorem b3z (d:Nat) (L:List En) (hL:L.length<=100000) (B:Atom) (al:Option Addr) (nl cl:Nat) (l:List En) (hB:Rd B al 19 nl (d6 l)) (hl:l.length=nl) (hn:nl<=4611686018427387904):FP 110 [pp d, .slice al nl cl] [R1 d L,B] (Ps (iI ((L.length:Int)-(J1 L l).length)) [R1 d (J1 L l),B]):=by
 refine FE [2,0] Tryz.func110 λX F hX=>?_;refine J.o (α:=(Option Nat×Nat)) 1 λx=>?_;obtain⟨a,c⟩:=x;refine J.q λbb=>?_;refine J.cF ?_;refine J.q λ_=>?_;refine J.turn1 [4,2] rfl (As:=[.hp (HP.of [.pt (bb 0) 132 [.slice al nl cl],B])]) (λh s=>Sep.hpOf.2 s) rfl ?_;refine J.q λ_=>?_;refine J.ca hX (by kernel_rfl) (a4s 162 [pp (bb 0)] (λx=>l.any λe=>e.lpn==x.lpn&&e.seq==x.seq) _ (by kernel_rfl) (λx=>Fn.pack (b5s (bb 0) B al nl cl l hB hl hn x)) a L.length c L rfl (by omega)) [3,4] 0 rfl rfl rfl rfl rfl rfl (λ_=>rfl) ?_;rintro v As ⟨l',hl',rfl,rfl⟩;refine⟨_,rfl,trivial,?_⟩;have hll:l'.length<=L.length:=by rw[hl'];exact List.length_filter_le _ _
 have hdn:J1 L l=l':=hl'.symm;refine J.q λ_=>?_;refine J.turn1 [4] rfl (As:=[.pt (bb 0) 132 [.slice al nl cl],B]) (λh s=>Sep.hpOf.1 s) rfl ?_;refine J.cl (λx:Option Nat×Nat=>[.pt d 182 [slv x.1 l'.length x.2],c9 155 19 x.1 l'.length x.2 (d6 l')]) (a,c) [1,3] ?_;refine J.qr [1,5] λ_=>?_;rw[hdn];exact⟨rfl,rfl⟩
def a1K (e:En):Prop:=(0<=e.lpn/\e.lpn<=65535)/\(0<=e.seq/\e.seq<=1099511627775)
theorem b2w {s:Sh} (h:S.may s=true):a1K s.en:=by
 simp only[S.may,S.numbers,S.inB,Bool.and_eq_true,decide_eq_true_eq]at h;exact⟨h.1.2.1.2,h.1.2.1.1⟩
theorem b5i {p:List UInt8} {s:Sh} (h:S.get p=some s):S.may s=true:=by
 unfold S.get at h;split at h
 ·rename_i hh;injection h with h;subst h;exact hh.1
 ·cases h
theorem b2y {N:Nand} {x y z:Int} (h:(M.look N x y z).2=1):S.may (M.look N x y z).1=true:=by
 unfold M.look at h ⊢;dsimp only at h ⊢;split
 ·rename_i h0;rw[if_pos h0]at h;split
  ·rename_i h1;rw[if_pos h1]at h;simp at h
  ·rename_i h1;simp only[not_or]at h1;have hg:S.getE (N.readV x y z)=0:=by simpa using h1.1
   unfold S.getE at hg;cases hs:S.get (N.readV x y z)with
   | none=>rw[hs]at hg;simp at hg
   | some s=>simp only[S.getV,hs,Option.getD_some];exact b5i hs
 ·rename_i h0;rw[if_neg h0]at h;split at h
  ·simp at h
  ·split at h<;>simp at h
theorem b7l {b r m:Int} {e:En} (h:W.ok b r m e=true):a1K e:=b2w (s:=W.sh b r m e) h
theorem a1C {N:Nand} {b r:Int} {f:Fnd} (h:f∈R.all N b r):f.block=b/\f.row=r/\a1K f.en:=by
 unfold R.all at h;rw[List.mem_flatMap]at h;obtain⟨m,_,h⟩:=h;unfold R.allM at h;rw[List.mem_filterMap]at h;obtain⟨k,hk,h⟩:=h;rw[List.mem_range]at hk;unfold R.fnd at h;split at h
 ·rename_i hc;injection h with h;subst h;refine⟨rfl,rfl,?_⟩;simp only[Bool.and_eq_true]at hc;obtain⟨h1,_⟩:=hc;dsimp only;unfold R.enAt;unfold R.okAt at h1;split
  ·rename_i hg;have hlen:k<(R.ones N b r m (G.slots m).toNat).length:=by simpa[R.look]using hk
   have e1:(R.look N b r m).good.getD k false=((R.ones N b r m (G.slots m).toNat)[k]).2:=by simp[R.look,hlen]
   have e2:(R.look N b r m).slots.getD k Sh.zero=((R.ones N b r m (G.slots m).toNat)[k]).1:=by simp[R.look,hlen]
   rw[e1]at hg;rw[e2];simp only[R.ones,List.getElem_map,R.one,Bool.and_eq_true,beq_iff_eq]at hg ⊢;exact b2w (b2y hg.1)
  ·rename_i hg;rw[Bool.not_eq_true]at hg;rw[hg,Bool.false_or]at h1;unfold R.mendB at h1;simp only[Bool.and_eq_true]at h1;have hb:=h1.2;unfold R.mend;rw[if_pos (by rw[Bool.and_eq_true];exact h1.1),W.back,if_pos hb];unfold W.backB at hb;simp only[Bool.and_eq_true]at hb;exact b7l hb.2
 ·cases h
theorem a9B (N:Nand) (hN:N.Ok):(V.all N).length<=6000:=by
 have hbd:=hN.bd;have h0:∀b r,(R.all N b r).length<=42:=λb r=>by
  have:=a3k N b r (M.masks N b r).length (by omega);unfold a0M at this
  rwa [List.take_length]at this
 have h1:∀(l:List Nat) (b:Int),(l.flatMap λr=>R.all N b (r:Nat)).length<=42*l.length:=by
  intro l b
  induction l with
  | nil=>simp
  | cons x l ih=>rw[List.flatMap_cons,List.length_append,List.length_cons];have:=h0 b x;omega
 have h2:∀l:List Nat,(l.flatMap λb=>(List.range N.pages).flatMap λr=>R.all N (b:Nat) (r:Nat)).length<=336*l.length:=by
  intro l
  induction l with
  | nil=>simp
  | cons x l ih=>
   rw[List.flatMap_cons,List.length_append,List.length_cons];have:=h1 (List.range N.pages) x;rw[List.length_range]at this;omega
 have:=h2 (List.range N.blocks);rw[List.length_range]at this;unfold V.all;omega
theorem a8I {N:Nand} {f:Fnd} (h:f∈V.all N):(∃r:Nat,f.row=(r:Int)/\r<N.pages)/\a1K f.en:=by
 unfold V.all at h;rw[List.mem_flatMap]at h;obtain⟨b,_,h⟩:=h;rw[List.mem_flatMap]at h;obtain⟨r,hr,h⟩:=h;have:=a1C h;exact⟨⟨r,this.2.1,List.mem_range.1 hr⟩,this.2.2⟩
abbrev fdV (x:Fnd):Value:= .agg (fnL x).toArray
def Fnd.zero:Fnd:=⟨En.zero,0,0,0,0,false,false⟩
theorem a6E (a b:Fnd):FP 213 [fdV a,fdV b] [] (Ps (.bool (V.behind a b)) []):=by
 refine FE [0,0] Tryz.func213 λX F hX=>?_;refine J.qd (λ_ h1=>?_) λ_ h1=>?_
 ·refine J.qr [] λ_=>?_;simp only[bne_iff_ne,ne_eq]at h1;exact⟨by rw[V.behind,if_pos h1],rfl⟩
 ·simp only[bne_eq_false_iff_eq]at h1;refine J.run hX tk 400 (λb3=>rfl) (λb3=>?_) (λb3=>?_)
  ·(repeat' (first | exact Conj.nil | refine Conj.cons ?_ ?_ | exact rfl | exact hq | (rw[hq];rfl) | (rw[(Bool.not_eq_true' _).mp hq]) | intro hq | omega | (simp;done) | (simp_all;done)))
  refine J.qr [] λ_=>?_;exact⟨by rw[V.behind,if_neg (by simp[h1])],rfl⟩
theorem a1m {l:List Fnd} {k:Nat} {x:Fnd} (h:l[k]? =some x):V.tops (l.take (k+1))=V.topsStep (V.tops (l.take k)) x:=by
 unfold V.tops;rw[List.take_add_one,h,Option.toList_some,List.foldl_append];rfl
theorem a5y (o:List Fnd) (x:Fnd):(V.topsStep o x).length<=o.length+1:=by
 cases o with
 | nil=>simp[V.topsStep]
 | cons h t=>
  simp only[V.topsStep];split
  ·simp
  ·split<;>simp
theorem a2J (l:List Fnd):(V.tops l).length<=l.length:=by
 have:∀k,k<=l.length->(V.tops (l.take k)).length<=k:=by
  intro k
  induction k with
  | zero=>intro _;simp[V.tops]
  | succ k ih=>
   intro hk;rw[a1m (List.getElem?_eq_getElem (by omega))];have:=a5y (V.tops (l.take k)) l[k];have:=ih (by omega);omega
 have:=this l.length (Nat.le_refl _)
 rwa [List.take_length]at this
theorem b1p (a:Option Nat) (n cap:Nat) (l:List Fnd) (hl:l.length=n) (hn:n<=100000):FP 175 [slv a n cap] [c9 202 25 a n cap (j5 l)]
  (λv As=>∃a' c',v=slv a' (V.tops l).length c'/\As=[c9 202 25 a n cap (j5 l),c9 202 25 a' (V.tops l).length c' (j5 (V.tops l))]):=by
 refine FE [0] Tryz.func175 λX F hX=>?_;refine J.turn1 [] rfl (As:=[c9 202 25 none 0 0 (j5 [])]) (λh s=>Sep.one ⟨rfl,rfl,rfl⟩) rfl ?_;refine J.q λ_=>?_;refine J.l (α:=(Nat×Option Nat×Nat×List Fnd)) (λz=>z.1<=n/\V.tops (l.take z.1)=z.2.2.2) (λz=>[si 8 z.1,si 7 n,sv 6 (slv a n cap),sv 3 (slv z.2.1 z.2.2.2.length z.2.2.1)]) [2] (λz=>[c9 202 25 z.2.1 z.2.2.2.length z.2.2.1 (j5 z.2.2.2)]) (λz=>n-z.1) ((0,none,0,[])) (⟨Nat.zero_le _,rfl⟩) λz hI=>?_;obtain⟨k,a1,c1,out⟩:=z;dsimp only at hI ⊢;obtain⟨hI,hto⟩:=hI;refine J.qd (λ_ h1=>?_) λ_ h1=>?_
 ·simp only[decide_eq_true_eq,Int.ofNat_lt]at h1;cases a with
  | none=>
   refine J.know (λh' s=>(s.get (i:=1) rfl).2.1) λhn0=>?_;omega
  | some g=>
  obtain⟨x,hx⟩:∃x,l[k]? =some x:=⟨_,List.getElem?_eq_getElem (by omega)⟩;have hts:=a1m hx;have hlen:=a2J (l.take k);rw[List.length_take,hto]at hlen;rw[hto]at hts;refine J.q λ_=>?_;refine J.v (fdV x) rfl rfl (λhg a w he hs=>?_) ?_
  ·exact q9 tk rfl rfl he rfl rfl rfl (hs.get (i:=1) rfl) (by rw[show 0+(k:Int).toNat*25=k*25 from by omega];exact Q0 hx) rfl
  rcases out with _ | ⟨y,o⟩
  ·skip
   refine J.pn 5 (.of [0,4,8,12,16,20,25,29,34,36,40]) [] [1,2,3] λ_ _=>?_;refine J.vT (pp g) rfl rfl (λhg a w he hC=>absurd hg (by simp[G.on])) ?_;refine J.q λ_=>?_;refine J.vT (fdV x) rfl rfl (λhg a w he hC=>absurd hg (by simp[G.on])) ?_;refine J.q λ_=>?_;refine J.val hX (.bool true) 0 rfl rfl (λhg a w he hC=>absurd hg (by simp[G.on])) rfl stq ?_;refine J.qT λ_=>?_;refine J.q λbs=>?_;refine J.cO 202 25 1 1 (j5 [x]) 4 ?_;have hs:V.tops (l.take (k+1))=[x]:=by rw[hts];rfl
   refine J.slot (k:=3) (s':=⟨3,slv (some (bs 0)) [x].length 1,0, .tt⟩) rfl rfl rfl ?_;refine J.q λ_=>?_;refine J.n ((k+1,some (bs 0),1,[x])) (⟨by dsimp only;omega,hs⟩) (by dsimp only;omega) [0,1,4]
  ·refine J.know (λh' s=>i9 (c:=(a1,c1)) (by simp) (s.get (i:=2) rfl)) λhg=>?_;obtain⟨ga,rfl⟩:=hg;refine J.pq (.of [0,4,8,12,16,20,25,29,34,36,40]) [] [1,2,3] λ_ _=>?_;refine J.vT (fdV y) rfl rfl (λhg a w he hC=>?_) ?_
   ·exact q9 tk rfl rfl he hg rfl rfl (hC rfl _ (i6 (i:=2) rfl)) rfl rfl
   have hnz:(((y::o).length:Int)==0)=false:=by rw[beq_eq_false_iff_ne,List.length_cons];omega
   rw[hnz];refine J.qp (a6E y x) [] λ_=>?_;refine J.qd (λ_ h2=>?_) λ_ h2=>?_
   ·refine J.q λbs=>?_;refine J.cO 202 25 1 1 (j5 [x]) 4 ?_;have hs:V.tops (l.take (k+1))=[x]:=by rw[hts];rw[V.topsStep,if_pos (by simpa using h2)]
    refine J.slot (k:=3) (s':=⟨3,slv (some (bs 0)) [x].length 1,0, .tt⟩) rfl rfl rfl ?_;refine J.q λ_=>?_;refine J.n ((k+1,some (bs 0),1,[x])) (⟨by dsimp only;omega,hs⟩) (by dsimp only;omega) [0,1,4]
   ·refine J.pq (.of [1,4,8,13,19,20,24]) [4,5,6] [1,2,3] λ_ _=>?_;refine J.vT (fdV y) rfl rfl (λhg a w he hC=>?_) ?_
    ·exact q9 tk rfl rfl he hg rfl rfl (hC rfl _ (i6 (i:=2) rfl)) rfl rfl
    refine J.qp (a6E x y) [] λ_=>?_;refine J.qd (λ_ h3=>?_) λ_ h3=>?_
    ·refine J.q λ_=>?_;have hs:V.tops (l.take (k+1))=y::o++[x]:=by rw[hts,V.topsStep,if_neg (by simpa using h2),if_neg (by simpa using h3)]
     refine J.append hX tk 2 4 0 rfl rfl rfl rfl rfl rfl rfl rfl rfl rfl rfl rfl rfl rfl rfl rfl ?_ ?_ (λ_=>rfl) λa3 c3=>⟨_,(congrArg (λz=>B1 _ 2 (c9 _ _ _ _ _ z)) (Z5 (y::o) x).symm).trans rfl,trivial,?_⟩
     ·simp only[maxLen];omega
     ·omega
     rw[show(y::o).length+1=(y::o++[x]).length from by simp];refine J.q λ_=>?_;refine J.n ((k+1,a3,c3,y::o++[x])) (⟨by dsimp only;omega,hs⟩) (by dsimp only;omega) [0,1,2]
    ·have hs:V.tops (l.take (k+1))=y::o:=by rw[hts,V.topsStep,if_neg (by simpa using h2),if_pos (by simpa using h3)]
     refine J.q λ_=>?_;refine J.n ((k+1,some ga,c1,y::o)) (⟨by dsimp only;omega,hs⟩) (by dsimp only;omega) [0,1,2]
 ·simp only[decide_eq_false_iff_not,Int.ofNat_lt]at h1;obtain rfl:k=n:=by omega
  rw[List.take_of_length_le (by omega)]at hto;subst hto;refine J.qr [1,2] λ_=>?_;exact⟨a1,c1,rfl,rfl⟩
end Go.Proofs.YtnffkcabeecopaaGreat
