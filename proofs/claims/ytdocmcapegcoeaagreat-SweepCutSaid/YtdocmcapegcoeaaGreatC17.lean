/- Helpers, proved here. No condition. -/
import Derived.Test.YtdocmcapegcoeaaGreatC06
import Derived.Test.YtdocmcapegcoeaaGreatC08
import Derived.Test.YtdocmcapegcoeaaGreatC12
import Derived.Test.YtdocmcapegcoeaaGreatC15
import Derived.Test.YtdocmcapegcoeaaGreatC16
set_option maxRecDepth 20000
set_option linter.all false
namespace Go.Proofs.YtdocmcapegcoeaaGreat
open Go Go.RowKit
theorem pn_max (a b:Int):(if b>a then b else a)=max a b:=by split<;>omega
def PenA (p n t l:Nat) (S:Dv):Atom:= .pt p 96 [.pointer (some ⟨n,0,none⟩), .pointer (some ⟨t,0,none⟩), .pointer (some ⟨l,0,none⟩), .int .i64 S.op, .int .i64 S.row, .int .i64 S.mask, .int .i64 S.next]
def DvP (p n t l:Nat) (S:Dv):List Atom:=[PenA p n t l S,NandA n S.N,TlA t S.t,TbA l S.T]
theorem pn_New (n t l:Nat) (next:Int) (h: -9223372036854775808<=next/\next<=9223372036854775807) (N:Nand) (tl:Tl) (T:Tb):Fn Tryz.prog 52 [.pointer (some ⟨n,0,none⟩), .pointer (some ⟨t,0,none⟩), .pointer (some ⟨l,0,none⟩), .int .i64 next] [] (λv As=>∃p,v= .pointer (some ⟨p,0,none⟩)/\As=[PenA p n t l ⟨N,tl,T,-1,0,0,max next 1⟩]):=by
 refine Fn.enter [0,0,0,0] Tryz.func52 rfl rfl rfl λX F hX=>?_;refine J.q hX λbb=>?_;rw[pn_max];refine J.q hX λ_=>?_;refine J.ru hX [1] ?_;exact⟨bb 0,rfl,rfl⟩
theorem pn_Open (p n t l:Nat) (S:Dv):Fn Tryz.prog 18 [.pointer (some ⟨p,0,none⟩)] [PenA p n t l S] (λv As=>v= .int .i64 S.op/\As=[PenA p n t l S]):=by
 refine Fn.enter [2] Tryz.func18 rfl rfl rfl λX F hX=>?_;refine J.q hX λ_=>?_;refine J.cF ?_;refine J.q hX λ_=>?_;exact J.ru hX [1] ⟨rfl,rfl⟩
theorem pn_left (p n t l:Nat) (S:Dv):Fn Tryz.prog 53 [.pointer (some ⟨p,0,none⟩)] (DvP p n t l S) (λv As=>v= .bool S.left/\As=DvP p n t l S):=by
 refine Fn.enter [2] Tryz.func53 rfl rfl rfl λX F hX=>?_;refine J.q hX λ_=>?_;refine J.plan (.of [0,4,8,13,16,20,24,28,32,37,40,44,48,53,58,60,64,68,72,76,80,84,89,94,96,100,104]) [26] [1,2,3,4] (by rw[hX.hP];kernel_rfl) (by kernel_rfl) ?_;refine J.qn hX 6 λ_=>?_;cases h1:decide (S.op>=0)with
 | false=>
  refine J.q hX λ_=>?_;refine J.val hX (.agg #[.int .i64 0, .int .i64 0, .int .i64 0]) 0 rfl rfl (λhg a w he hs=>absurd hg (by simp[G.on])) rfl (by first | exact trivial | (repeat' (first | exact trivial | refine⟨rfl,?_⟩))) ?_;refine J.q hX λ_=>?_;refine J.val hX (.int .i64 0) 0 rfl rfl (λhg a w he hs=>absurd hg (by simp[G.on])) rfl (by first | exact trivial | (repeat' (first | exact trivial | refine⟨rfl,?_⟩))) ?_;refine J.q hX λ_=>?_;refine J.ru hX [1,2,3,4] ?_;exact⟨by unfold Dv.left;rw[h1];rfl,rfl⟩
 | true=>
  refine J.q hX λ_=>?_;refine J.cb hX (n_Geo n S.N) [2] ?_;refine cpq ⟨_,rfl,(by first | exact trivial | (repeat' (first | exact trivial | refine⟨rfl,?_⟩))),?_⟩;refine J.qn hX 2 λ_=>?_;cases h2:decide (S.row<(S.N.pages:Int))with
  | false=>
   refine J.q hX λ_=>?_;refine J.val hX (.int .i64 0) 0 rfl rfl (λhg a w he hs=>absurd hg (by simp[G.on])) rfl (by first | exact trivial | (repeat' (first | exact trivial | refine⟨rfl,?_⟩))) ?_;refine J.q hX λ_=>?_;refine J.ru hX [1,2,3,4] ?_;exact⟨by unfold Dv.left;rw[h1,h2];rfl,rfl⟩
  | true=>
   refine J.q hX λ_=>?_;refine J.cb hX (g_Slots S.mask) [] ?_;refine cpq ⟨_,rfl,(by first | exact trivial | (repeat' (first | exact trivial | refine⟨rfl,?_⟩))),?_⟩;refine J.q hX λ_=>?_;refine J.ru hX [1,2,3,4] ?_;exact⟨by unfold Dv.left;rw[h1,h2],rfl⟩
theorem pn_Slots (p n t l:Nat) (S:Dv) (hb:S.t.b<=1000) (hl:S.t.l.length=S.t.b):Fn Tryz.prog 19 [.pointer (some ⟨p,0,none⟩)] (DvP p n t l S) (λv As=>v= .int .i64 S.slots/\As=DvP p n t l S):=by
 refine Fn.enter [2] Tryz.func19 rfl rfl rfl λX F hX=>?_;refine J.q hX λ_=>?_;refine J.cF ?_;refine J.q hX λ_=>?_;refine J.cb hX (pn_left p n t l S) [1,2,3,4] ?_;refine cpq ⟨_,rfl,trivial,?_⟩;refine J.q hX λ_=>?_;refine J.cond rfl (λh1=>?_) (λh1=>?_)
 ·refine J.q hX λ_=>?_;refine J.cb hX (g_Slots S.mask) [] ?_;refine cpq ⟨_,rfl,trivial,?_⟩;refine J.q hX λ_=>?_;refine J.ru hX [1,2,3,4] ?_;exact⟨by unfold Dv.slots;rw[if_pos h1],rfl⟩
 refine J.q hX λ_=>?_;refine J.plan (.of [0,4,8,13,16,20,24,29,32,36,40,45,48,52,56,61,66,70,74,76]) [19] [1,2,3,4] (by rw[hX.hP];kernel_rfl) (by kernel_rfl) ?_;refine J.q hX λ_=>?_;refine J.cb hX (p_Open t S.t hb hl l S.T S.op) [3,4] ?_;refine cpq ⟨_,rfl,(by first | exact trivial | (repeat' (first | exact trivial | refine⟨rfl,?_⟩))),?_⟩;refine J.q hX λ_=>?_;refine J.cb hX (tl_Mask t S.t hb hl S.pick) [3] ?_;refine cpq ⟨_,rfl,(by first | exact trivial | (repeat' (first | exact trivial | refine⟨rfl,?_⟩))),?_⟩;refine J.q hX λ_=>?_;refine J.cb hX (g_Slots (S.t.mask S.pick)) [] ?_;refine cpq ⟨_,rfl,(by first | exact trivial | (repeat' (first | exact trivial | refine⟨rfl,?_⟩))),?_⟩;refine J.q hX λ_=>?_;refine J.ru hX [1,2,3,4] ?_;exact⟨by unfold Dv.slots;rw[if_neg (by rw[h1];decide)],rfl⟩
theorem pn_opens (p n t l:Nat) (S:Dv) (hb:S.t.b<=1000) (hl:S.t.l.length=S.t.b):Fn Tryz.prog 56 [.pointer (some ⟨p,0,none⟩)] (DvP p n t l S) (λv As=>v= .int .i64 (if S.pick<0 then 11 else 0)/\As=DvP p n t l (if S.pick<0 then S else S.opened)):=by
 refine Fn.enter [2] Tryz.func56 rfl rfl rfl λX F hX=>?_;refine J.q hX λ_=>?_;refine J.plan (.of [0,4,8,13,16,20,24,29,32,36,40,45,51,52]) [12,13] [1,2,3,4] (by rw[hX.hP];kernel_rfl) (by kernel_rfl) ?_;refine J.q hX λ_=>?_;refine J.cb hX (p_Open t S.t hb hl l S.T S.op) [3,4] ?_;refine cpq ⟨_,rfl,(by first | exact trivial | (repeat' (first | exact trivial | refine⟨rfl,?_⟩))),?_⟩;refine J.q hX λ_=>?_;refine J.cond rfl (λh1=>?_) (λh1=>?_)
 ·simp only[decide_eq_true_eq]at h1;have h1:S.pick<0:=h1;refine J.q hX λ_=>?_;refine J.ru hX [1,2,3,4] ?_;rw[if_pos h1,if_pos h1];exact⟨rfl,rfl⟩
 simp only[decide_eq_false_iff_not]at h1;have h1:¬S.pick<0:=h1;refine J.q hX λ_=>?_;refine J.cb hX (tl_Clean t S.t hb hl S.pick false) [3] ?_;refine cpq ⟨_,rfl,trivial,?_⟩;refine J.q hX λ_=>?_;refine J.cb hX (tl_Mask t (S.t.clean S.pick false) (by unfold Tl.clean;rw[Tl.set_b];exact hb) (by unfold Tl.clean;rw[Tl.set_len,Tl.set_b];exact hl) S.pick) [3] ?_;refine cpq ⟨_,rfl,trivial,?_⟩;refine J.q hX λ_=>?_;refine J.ru hX [1,2,3,4] ?_;rw[if_neg h1,if_neg h1];exact⟨rfl,rfl⟩
theorem pn_loses (p n t l:Nat) (S:Dv) (hN:S.N.Ok) (hF:S.t.Fit S.N) (f:Int):Fn Tryz.prog 60 [.pointer (some ⟨p,0,none⟩), .int .i64 f] (DvP p n t l S) (λv As=>v= .tuple #[]/\As=DvP p n t l (S.loses f)):=by
 have hbd:=hN.bd16;refine Fn.enter [2,0] Tryz.func60 rfl rfl rfl λX F hX=>?_;refine J.q hX λ_=>?_;refine J.cb hX (n_Geo n S.N) [2] ?_;refine cpq ⟨_,rfl,trivial,?_⟩;refine J.q hX λ_=>?_;refine J.lo (α:=(Nat×Dv)) (λz=>z.1<=S.N.dies/\z.2=(List.range z.1).foldl (Dv.lose f) S) (λz=>[⟨11, .int .i64 z.1,0, .tt⟩,⟨10, .int .i64 S.N.dies,0, .tt⟩,⟨0, .pointer (some ⟨p,0,none⟩),2, .tt⟩,⟨1, .int .i64 f,0, .tt⟩]) [1,2,3,4] (λz=>DvP p n t l z.2) (λz=>S.N.dies-z.1) ((0,S)) (⟨Nat.zero_le _,rfl⟩) rfl ?_ (λ_=>rfl) λz hI=>?_
 ·rfl
 obtain⟨k,Q⟩:=z;dsimp only at hI ⊢;obtain⟨hk,hQ⟩:=hI;obtain⟨q1,q2,q3,q4,q5,q6,q7⟩:=Dv.foldl_lose f (List.range k) S hF;rw[<- hQ]at q1 q2 q3 q4 q5 q6 q7;have hlb:Q.t.l.length=Q.t.b:=q6.len;have hbb:Q.t.b<=1000:=by have:=q6.b;omega
 refine J.q hX λ_=>?_;refine J.cond rfl (λh1=>?_) (λh1=>?_)
 ·simp only[decide_eq_true_eq,Int.ofNat_lt]at h1;have hs:(List.range (k+1)).foldl (Dv.lose f) S=Dv.lose f Q k:=by rw[List.range_succ,List.foldl_append,<- hQ];rfl
  refine J.q hX λ_=>?_;refine J.cb hX (l_Has f k) [] ?_;refine cpq ⟨_,rfl,trivial,?_⟩;refine J.q hX λ_=>?_;refine J.cond rfl (λh2=>?_) (λh2=>?_)
  ·simp only[Bool.not_eq_true']at h2;have hz:Dv.lose f Q k=Q:=by unfold Dv.lose;rw[if_neg (by rw[h2];decide)]
   refine J.q hX λ_=>?_;refine J.nS ((k+1,Q)) (⟨by dsimp only;omega,by dsimp only;rw[hs,hz]⟩) (by dsimp only;omega) [0,1,2,3,4] rfl rfl
  simp only[Bool.not_eq_false']at h2;refine J.q hX λ_=>?_;refine J.cb hX (n_Dead n Q.N (by rw[q1];exact hN) k) [2] ?_;refine cpq ⟨_,rfl,trivial,?_⟩;refine J.q hX λ_=>?_;refine J.cond rfl (λh3=>?_) (λh3=>?_)
  ·have hz:Dv.lose f Q k={Q with t:=Q.t.die k,mask:=L.without Q.mask k}:=by unfold Dv.lose;rw[if_pos h2,if_pos h3]
   refine J.q hX λ_=>?_;refine J.cb hX (tl_Dead t Q.t k) [3] ?_;refine cpq ⟨_,rfl,trivial,?_⟩;refine J.q hX λ_=>?_;refine J.cb hX (l_Without Q.mask k) [] ?_;refine cpq ⟨_,rfl,trivial,?_⟩;refine J.q hX λ_=>?_;refine J.nS ((k+1,{Q with t:=Q.t.die k,mask:=L.without Q.mask k})) (⟨by dsimp only;omega,by dsimp only;rw[hs,hz]⟩) (by dsimp only;omega) [0,1,2,3,4] rfl rfl
  ·have hz:Dv.lose f Q k={Q with t:=Q.t.bad k Q.op,mask:=L.without Q.mask k}:=by unfold Dv.lose;rw[if_pos h2,if_neg (by rw[h3];decide)]
   refine J.q hX λ_=>?_;refine J.plan (.of [0,4,8,13,16,20,24,28,33,38]) [] [1,2,4] (by rw[hX.hP];kernel_rfl) (by kernel_rfl) ?_;refine J.q hX λ_=>?_;refine J.cb hX (tl_Bad t Q.t hbb hlb k Q.op) [3] ?_;refine cpq ⟨_,rfl,(by first | exact trivial | (repeat' (first | exact trivial | refine⟨rfl,?_⟩))),?_⟩;refine J.q hX λ_=>?_;refine J.cb hX (l_Without Q.mask k) [] ?_;refine cpq ⟨_,rfl,trivial,?_⟩;refine J.q hX λ_=>?_;refine J.nS ((k+1,{Q with t:=Q.t.bad k Q.op,mask:=L.without Q.mask k})) (⟨by dsimp only;omega,by dsimp only;rw[hs,hz]⟩) (by dsimp only;omega) [0,1,2,3,4] rfl rfl
 ·simp only[decide_eq_false_iff_not,Int.ofNat_lt]at h1;obtain rfl:k=S.N.dies:=by omega
  refine J.q hX λ_=>?_;refine J.fi hX tk [1,2,3,4] rfl rfl rfl ?_;exact⟨rfl,by rw[hQ];rfl⟩
theorem cellsE_set:∀(l:List En) (r:List Value) (k:Nat) (x:En),k<l.length->(cellsE l++r).take (k*19)++enL x++(cellsE l++r).drop (k*19+19)=cellsE (l.set k x)++r
 | [],_,_,_,h=>by simp at h
 | y::l,r,0,x,h=>by simp[cellsE,enL]
 | y::l,r,k+1,x,h=>by
  have:=cellsE_set l r k x (by simpa using h);have hy:(enL y).length=19:=rfl;have e1:cellsE (y::l)++r=enL y++(cellsE l++r):=by simp[cellsE]
  have e2:cellsE ((y::l).set (k+1) x)++r=enL y++(cellsE (l.set k x)++r):=by simp[cellsE]
  rw[e1,e2,<- this,show(k+1)*19=(enL y).length+k*19 from by omega,List.take_length_add_append,show(enL y).length+k*19+19=(enL y).length+(k*19+19)from by omega,<- List.drop_drop,List.drop_left' rfl];simp only[List.append_assoc]
theorem cellsE_len:∀l:List En,(cellsE l).length=l.length*19
 | []=>rfl
 | x::l=>by
  have:=cellsE_len l;have e1:cellsE (x::l)=enL x++cellsE l:=by simp[cellsE]
  have hy:(enL x).length=19:=rfl;rw[e1,List.length_append,this,hy,List.length_cons];omega
def idxE (p:En->Bool) (l:List En):Int:=match l.findIdx? p with
 | some k=>k
 | none=> -1
theorem idxE_step {p:En->Bool} {l:List En} {k:Nat} {x:En} (h:l[k]? =some x) (h0:∀i<k,p (l.getD i En.zero)=false) (hp:p x=true):l.findIdx? p=some k:=by
 rw[List.findIdx?_eq_some_iff_getElem];obtain⟨h1,h2⟩:=List.getElem?_eq_some_iff.1 h;refine⟨h1,by rw[h2];exact hp,λj hj=>?_⟩;have:=h0 j hj;rw[List.getD_eq_getElem?_getD,List.getElem?_eq_getElem (by omega),Option.getD_some]at this;simp[this]
theorem idxE_none {p:En->Bool} {l:List En} (h0:∀i<l.length,p (l.getD i En.zero)=false):l.findIdx? p=none:=by
 rw[List.findIdx?_eq_none_iff];intro x hx;obtain⟨i,hi,rfl⟩:=List.mem_iff_getElem.1 hx;have:=h0 i hi
 rwa [List.getD_eq_getElem?_getD,List.getElem?_eq_getElem hi,Option.getD_some]at this
theorem idxE_any (p:En->Bool) (l:List En):decide (idxE p l>=0)=l.any p:=by
 unfold idxE;cases h:l.findIdx? p with
 | none=>
  rw[List.findIdx?_eq_none_iff]at h;have:l.any p=false:=by rw[List.any_eq_false];exactλx hx=>by simp[h x hx]
  rw[this];rfl
 | some k=>
  rw[List.findIdx?_eq_some_iff_getElem]at h;obtain⟨h1,h2,_⟩:=h;have:l.any p=true:=List.any_eq_true.2 ⟨l[k],List.getElem_mem _,h2⟩;rw[this];simp
theorem x_IndexE (c:Nat) (cs:List Value) (p:En->Bool) (A:Atom) (hcal:callable Tryz.prog c=true) (l:List En) (hf:∀x∈l,Fn Tryz.prog c (enV x::cs) [A] (λv As=>v= .bool (p x)/\As=[A]))
  (a:Option Nat) (n cap:Nat) (hl:l.length=n) (hn:n<=4611686018427387904):Fn Tryz.prog 179 [slv a n cap,fnC c cs] [ownA 38 19 a n cap (cellsE l),A]
  (λv As=>v= .int .i64 (idxE p l)/\As=[ownA 38 19 a n cap (cellsE l),A]):=by
 refine Fn.enter [0,0] Tryz.func179 rfl rfl rfl λX F hX=>?_;refine J.q hX λ_=>?_;refine J.lo (α:=Nat) (λk=>k<=n/\∀i<k,p (l.getD i En.zero)=false) (λk=>[⟨8, .int .i64 k,0, .tt⟩,⟨7, .int .i64 n,0, .tt⟩,⟨0,slv a n cap,0, .tt⟩,⟨1,fnC c cs,0, .tt⟩]) [] (λk=>[]) (λk=>n-k) (0) (⟨by omega,by omega⟩) rfl ?_ (λ_=>rfl) λk hI=>?_
 ·rfl
 refine J.q hX λ_=>?_;refine J.cond rfl (λh1=>?_) (λh1=>?_)
 ·simp only[decide_eq_true_eq,Int.ofNat_lt]at h1;cases a with
  | none=>
   refine J.know (λh' s=>(s.get (i:=1) rfl).2.1) λhn0=>?_;omega
  | some g=>
   have hk:l[k]? =some (l.getD k En.zero):=by rw[List.getD_eq_getElem?_getD,List.getElem?_eq_getElem (by omega),Option.getD_some]
   refine J.q hX λ_=>?_;refine J.val hX (enV (l.getD k En.zero)) 0 rfl rfl (λhg a w he hs=>?_) rfl trivial ?_
   ·exact ownN_run tk rfl rfl he rfl rfl rfl (hs.get (i:=1) rfl) (by rw[show 0+(k:Int).toNat*19=k*19 from by omega];have:=cellsE_at l [] k _ hk;rwa [List.append_nil]at this) rfl
   refine J.q hX λ_=>?_;refine J.call hX hcal (hf (l.getD k En.zero) (List.mem_of_getElem? hk)) [2] 0 rfl rfl rfl rfl (by(repeat' (first | exact Conj.nil | refine Conj.cons ?_ ?_ | omega | exact hq0 | (simpa using hq0) | (exactλh=>h) | exact rfl | (intro hq;have hq0:=hq;try simp only[Bool.and_eq_true,Bool.or_eq_true,decide_eq_true_eq,Bool.not_eq_true',decide_eq_false_iff_not]at hq) | (simp;done) | (simp;omega) | decide))) rfl rfl (λ_=>rfl) ?_;refine cpq ⟨_,rfl,trivial,?_⟩;refine J.q hX λ_=>?_;refine J.cond rfl (λh2=>?_) (λh2=>?_)
   ·refine J.q hX λ_=>?_;refine J.ru hX [1,2] ?_;exact⟨by rw[idxE,idxE_step hk hI.2 h2],rfl⟩
   ·refine J.q hX λ_=>?_;refine J.nx (k+1) (⟨by omega,λi hi=>by
     rcases Nat.lt_succ_iff_lt_or_eq.1 hi with h3 | h3
     ·exact hI.2 i h3
     ·rw[h3];exact h2⟩) (by omega) (λ_ s=>s)
 ·simp only[decide_eq_false_iff_not,Int.ofNat_lt]at h1;refine J.q hX λ_=>?_;refine J.ru hX [1,2] ?_;exact⟨by rw[idxE,idxE_none (λi hi=>hI.2 i (by omega))],rfl⟩
theorem cellsE_one (l:List En):∀u∈cellsE l,u.oneCell'=true:=by
 intro u hu;simp only[cellsE,List.mem_flatMap]at hu;obtain⟨s,_,hu⟩:=hu;simp only[enL,List.mem_cons,List.not_mem_nil,or_false]at hu;rcases hu with rfl | rfl | rfl | rfl | rfl | rfl | rfl | rfl | rfl | rfl | rfl | rfl | rfl | rfl | rfl | rfl | rfl | rfl | rfl<;>rfl
def DelE (p:En->Bool) (l m:List En) (i j:Nat):Prop:=m.length=l.length/\i<j/\j<=l.length/\m.drop j=l.drop j/\m.take i++(l.drop j).filter (λx=>!p x)=l.filter (λx=>!p x)
theorem DelE.start {p:En->Bool} {l:List En} {k:Nat} (h:l.findIdx? p=some k):DelE p l l k (k+1):=by
 rw[List.findIdx?_eq_some_iff_getElem]at h;obtain⟨h1,h2,h3⟩:=h;refine⟨rfl,by omega,by omega,rfl,?_⟩;have e:l=l.take k++l[k]::l.drop (k+1):=by rw[<- List.drop_eq_getElem_cons h1,List.take_append_drop]
 have e2:(l.take k).filter (λx=>!p x)=l.take k:=by
  rw[List.filter_eq_self];intro x hx;obtain⟨i,hi,rfl⟩:=List.mem_iff_getElem.1 hx;rw[List.getElem_take];have:=h3 i (by simp at hi;omega);simpa using this
 conv=>rhs;rw[e]
 rw[List.filter_append,e2,List.filter_cons_of_neg (by simp[h2])]
theorem DelE.skip {p:En->Bool} {l m:List En} {i j:Nat} (h:DelE p l m i j) (hj:j<l.length) (hp:p (m.getD j En.zero)=true):DelE p l m i (j+1):=by
 obtain⟨h1,h2,h3,h4,h5⟩:=h;have e1:m[j]? =l[j]?:=by have:=congrArg (λz=>z[0]?) h4;simpa using this
 have hx:l[j]=m.getD j En.zero:=by rw[List.getD_eq_getElem?_getD,e1,List.getElem?_eq_getElem hj,Option.getD_some]
 refine⟨h1,by omega,by omega,?_,?_⟩
 ·have:=congrArg (List.drop 1) h4;simpa[List.drop_drop]using this
 ·rw[<- h5,List.drop_eq_getElem_cons hj,List.filter_cons_of_neg (by rw[hx,hp];simp)]
theorem DelE.keep {p:En->Bool} {l m:List En} {i j:Nat} (h:DelE p l m i j) (hj:j<l.length) (hp:p (m.getD j En.zero)=false):DelE p l (m.set i (m.getD j En.zero)) (i+1) (j+1):=by
 obtain⟨h1,h2,h3,h4,h5⟩:=h;have e1:m[j]? =l[j]?:=by have:=congrArg (λz=>z[0]?) h4;simpa using this
 have hx:l[j]=m.getD j En.zero:=by rw[List.getD_eq_getElem?_getD,e1,List.getElem?_eq_getElem hj,Option.getD_some]
 refine⟨by simp[h1],by omega,by omega,?_,?_⟩
 ·rw[List.drop_set_of_lt (by omega)];have:=congrArg (List.drop 1) h4;simpa[List.drop_drop]using this
 ·rw[<- h5,List.drop_eq_getElem_cons hj,List.filter_cons_of_pos (by rw[hx,hp];simp),hx,List.take_set,List.take_add_one,List.getElem?_eq_getElem (by omega)];rw[List.set_append_right _ _ (by simp;omega)];simp[List.length_take,Nat.min_eq_left (show i<=m.length by omega)]
theorem x_DeleteE (c:Nat) (cs:List Value) (p:En->Bool) (A:Atom) (hcal:callable Tryz.prog c=true) (hf:∀x,Fn Tryz.prog c (enV x::cs) [A] (λv As=>v= .bool (p x)/\As=[A]))
  (a:Option Nat) (n cap:Nat) (l:List En) (hl:l.length=n) (hn:n<=4611686018427387904):Fn Tryz.prog 176 [slv a n cap,fnC c cs] [ownA 38 19 a n cap (cellsE l),A]
  (λv As=>∃l',l'=l.filter (λx=>!p x)/\v=slv a l'.length cap/\As=[ownA 38 19 a l'.length cap (cellsE l'),A]):=by
 refine Fn.enter [0,0] Tryz.func176 rfl rfl rfl λX F hX=>?_;refine J.q hX λ_=>?_;refine J.cb hX (x_IndexE c cs p A hcal l (λx _=>hf x) a n cap hl hn) [1,2] ?_;refine cpq ⟨_,rfl,trivial,?_⟩;rw[idxE];cases hx:l.findIdx? p with
 | none=>
  dsimp only;refine J.q hX λ_=>?_;refine J.cT ?_;refine J.q hX λ_=>?_;refine J.ru hX [1,2] ?_;have:l.filter (λx=>!p x)=l:=by
   rw[List.filter_eq_self];intro x hm;rw[List.findIdx?_eq_none_iff]at hx;simp[hx x hm]
  exact⟨l,this.symm,by rw[hl],by rw[hl];rfl⟩
 | some k=>
  dsimp only;refine J.q hX λ_=>?_;refine J.cond rfl (λh0=>?_) (λh0=>?_)
  ·simp only[beq_iff_eq]at h0;omega
  have hk:k<n:=by rw[List.findIdx?_eq_some_iff_getElem]at hx;obtain⟨h1,_⟩:=hx;omega
  cases a with
  | none=>
   refine J.know (λh' s=>(s.get (i:=1) rfl).2.1) λhn0=>?_;omega
  | some g=>
   refine J.openOwn 1 rfl rfl (λ_=>rfl) λr q1 q2 q3 q4=>?_;refine J.q hX λ_=>?_;rw[show(k:Int)+1=((k+1:Nat):Int)from by omega];refine J.q hX λ_=>?_;refine J.lo (α:=(Nat×Nat×List En)) (λx=>DelE p l x.2.2 x.1 x.2.1) (λx=>[⟨6, .int .i64 x.2.1,0, .tt⟩,⟨5, .int .i64 x.1,0, .tt⟩,⟨0,slv (some g) n cap,0, .tt⟩,⟨1,fnC c cs,0, .tt⟩]) [1] (λx=>[.pt g 38 (cellsE x.2.2++r)]) (λx=>n-x.2.1) ((k,k+1,l)) (DelE.start hx) rfl ?_ (λ_=>rfl) λx hI=>?_
   ·rfl
   obtain⟨i,j,m⟩:=x;dsimp only at hI ⊢;have hml:m.length=n:=hI.1.trans hl;have hij:i<j:=hI.2.1;have hjn:j<=n:=by have:=hI.2.2.1;omega
   refine J.q hX λ_=>?_;refine J.cond rfl (λh1=>?_) (λh1=>?_)
   ·simp only[decide_eq_true_eq,Int.ofNat_lt]at h1;have hget:m[j]? =some (m.getD j En.zero):=by rw[List.getD_eq_getElem?_getD,List.getElem?_eq_getElem (by omega),Option.getD_some]
    refine J.q hX λ_=>?_;refine J.val hX (enV (m.getD j En.zero)) 0 rfl rfl (λhg a w he hs=>?_) rfl trivial ?_
    ·exact loadN_run tk rfl rfl he rfl rfl rfl (hs.get (i:=1) rfl) (by rw[show 0+(j:Int).toNat*19=j*19 from by omega];exact cellsE_at m r _ _ hget) rfl
    refine J.q hX λ_=>?_;refine J.call hX hcal (hf (m.getD j En.zero)) [2] 0 rfl rfl rfl rfl (by(repeat' (first | exact Conj.nil | refine Conj.cons ?_ ?_ | omega | exact hq0 | (simpa using hq0) | (exactλh=>h) | exact rfl | (intro hq;have hq0:=hq;try simp only[Bool.and_eq_true,Bool.or_eq_true,decide_eq_true_eq,Bool.not_eq_true',decide_eq_false_iff_not]at hq) | (simp;done) | (simp;omega) | decide))) rfl rfl (λ_=>rfl) ?_;refine cpq ⟨_,rfl,trivial,?_⟩;refine J.q hX λ_=>?_;refine J.cond rfl (λh2=>?_) (λh2=>?_)
    ·simp only[Bool.not_eq_true']at h2;refine J.q hX λ_=>?_;refine J.storeN hX tk 1 rfl rfl rfl rfl rfl rfl rfl rfl rfl rfl rfl rfl rfl ?_ (cellsE (m.set i (m.getD j En.zero))++r) ?_ rfl (λ_=>rfl) ⟨trivial,?_⟩
     ·rw[List.length_append,cellsE_len];show 0+(i:Int).toNat*19+19<=_;omega
     ·rw[show 0+(i:Int).toNat*19=i*19 from by omega];exact cellsE_set m r i _ (by omega)
     refine J.q hX λ_=>?_;refine J.nS ((i+1,j+1,m.set i (m.getD j En.zero))) (hI.keep (by omega) h2) (by dsimp only;omega) [0,1,2] rfl rfl
    ·simp only[Bool.not_eq_false']at h2;refine J.q hX λ_=>?_;refine J.nS ((i,j+1,m)) (hI.skip (by omega) h2) (by dsimp only;omega) [0,1,2] rfl rfl
   ·simp only[decide_eq_false_iff_not,Int.ofNat_lt]at h1;obtain rfl:j=n:=by omega
    have hfil:m.take i=l.filter (λx=>!p x):=by
     have h5:=hI.2.2.2.2;rw[List.drop_of_length_le (by omega)]at h5;simpa using h5
    refine J.q hX λ_=>?_;refine J.clear hX tk 1 rfl rfl rfl rfl rfl rfl rfl rfl rfl rfl rfl ?_ (λ_=>rfl) (λ_=>rfl) λcs' z1 z2=>⟨trivial,?_⟩
    ·rw[List.length_append,cellsE_len];rw[cellsE_len]at q4;show 0+(i:Int).toNat*19+(j-(i:Int).toNat)*19<=_;have:(i:Int).toNat=i:=by omega
     rw[this];omega
    have hilen:(l.filter (λx=>!p x)).length=i:=by rw[<- hfil,List.length_take];omega
    refine J.closeOwn (e:=38) (size:=19) (n:=i) (cap:=cap) (xs:=cellsE (l.filter (λx=>!p x))) 1 rfl rfl (by rw[cellsE_len,hilen]) (by omega) q3 (by rw[z1,List.length_append,cellsE_len,hml];rw[cellsE_len,hl]at q4;exact q4) ?_ rfl ?_
    ·have z3:(0+(i:Int).toNat*19)=i*19:=by omega
     rw[z3]at z2;rw[z2,<- hfil];have e:cellsE m=cellsE (m.take i)++cellsE (m.drop i):=by
      conv=>lhs;rw[<- List.take_append_drop i m]
      simp only[cellsE,List.flatMap_append]
     rw[e,List.append_assoc,List.take_left' (by rw[cellsE_len,List.length_take,Nat.min_eq_left (by omega)])]
    refine J.q hX λ_=>?_;refine J.ru hX [1,2] ?_;exact⟨_,rfl,by rw[hilen];rfl,by rw[hilen];rfl⟩
theorem cutE_run {E:Env} {n:Nat} {ac:Act} {w:World} {o:Oper} {x y:Operand} {k1 k2 t1 t2:Nat} {g1 g2:G} {a:Option Addr} {m c h:Nat} {kk:IntKind} {hI:Int} (hop:o.op= .slice 34 x none (some y) none) (hx:ev E x=some ⟨k1, .slice a m c,t1,g1⟩) (hy:ev E y=some ⟨k2, .int kk hI,t2,g2⟩) (he:EnvOK n E ac) (v1:g1.on=true) (v2:g2.on=true) (hh:hI=(h:Int)) (hc:h<=c):
  (execOp ac.eval o).run Tryz.prog w= .ok (.value (.slice a h c)) w:=by
 subst hh;have e1:=ev_spec he hx;have e2:=ev_spec he hy;simp only[Slot.val,v1,v2]at e1 e2;obtain⟨d,f,zv,ok⟩:=tiOf_spec (tk.get (t:=34) rfl);obtain⟨fe,rfl,g1,g2⟩:=ok.slice rfl;have h0:∀ad:Addr,ad.add 0=ad:=λad=>by unfold Addr.add;rw[if_pos rfl]
 cases a with
 | none=>
  simp only[execOp,hop,Option.map_some,Option.map_none,e1,e2,Instr.sliceAt,Instr.slice,Instr.sliceBounds,Instr.sliceBound,asIntOf,Sem.run_bind,Sem.run_pure,Result.andThen_ok,underlying_run ok.hd,sizeOf_run g1,g2];simp[hc,h0]
 | some ad=>
  simp only[execOp,hop,Option.map_some,Option.map_none,e1,e2,Instr.sliceAt,Instr.slice,Instr.sliceBounds,Instr.sliceBound,asIntOf,Sem.run_bind,Sem.run_pure,Result.andThen_ok,underlying_run ok.hd,sizeOf_run g1,g2];simp[hc,h0]
theorem ownP_cap {e size:Nat} {a:Option Nat} {n cap:Nat} {xs:List Value} {h:Hl} (s:ownP e size a n cap xs h):n<=cap:=by
 obtain⟨_,s⟩:=s;cases a with
 | none=>obtain⟨rfl,rfl⟩:=s;exact Nat.le_refl _
 | some g=>obtain⟨_,_,h,_⟩:=s;exact h
theorem cellsE_take' (l:List En):∀k,(cellsE l).take (k*19)=cellsE (l.take k):=by
 induction l with
 | nil=>intro k;simp[cellsE]
 | cons x l ih=>
  intro k;cases k with
  | zero=>simp[cellsE]
  | succ k=>
   have e1:cellsE (x::l)=enL x++cellsE l:=by simp[cellsE]
   have e2:cellsE (x::l.take k)=enL x++cellsE (l.take k):=by simp[cellsE]
   rw[e1,List.take_succ_cons,e2,<- ih k,show(k+1)*19=(enL x).length+k*19 from by show _=19+k*19;omega,List.take_length_add_append]
theorem cellsE_snoc (l:List En) (e:En):cellsE l++enL e=cellsE (l++[e]):=by simp[cellsE]
theorem x_CloneP (a:Option Nat) (N cap cap2 k:Nat) (l:List En) (hl:l.length=N) (hk:k<=N) (hn:N<=1000000):Fn Tryz.prog 178 [slv a k cap2] [ownA 38 19 a N cap (cellsE l)]
  (λv As=>∃a' c',v=slv a' k c'/\As=[ownA 38 19 a N cap (cellsE l),ownA 38 19 a' k c' (cellsE (l.take k))]):=by
 refine Fn.enter [0] Tryz.func178 rfl rfl rfl λX F hX=>?_;cases a with
 | none=>
  refine J.know (λh' s=>(s.get (i:=1) rfl).2) λhn0=>?_;obtain⟨rfl,rfl⟩:=hn0;obtain rfl:k=0:=by omega
  have:l=[]:=List.eq_nil_of_length_eq_zero hl;subst this;refine J.q hX λ_=>?_;refine J.cT ?_;refine J.turn1 [] rfl (As:=[ownA 38 19 none 0 0 (cellsE [])]) (λh s=>Sep.one ⟨rfl,rfl,rfl⟩) rfl ?_;refine J.q hX λ_=>?_;refine J.ru hX [1,2] ?_;exact⟨none,0,rfl,rfl⟩
 | some g=>
  refine J.q hX λ_=>?_;refine J.cF ?_;refine J.qn hX 5 λbb=>?_;refine J.closeOwn (e:=38) (size:=19) (n:=0) (cap:=0) (xs:=[]) 2 rfl rfl rfl (Nat.le_refl _) (Nat.zero_le _) rfl rfl rfl ?_;refine J.q hX λ_=>?_;have hRd:Rd (ownA 38 19 (some g) N cap (cellsE l)) (some ⟨g,0,none⟩) 19 k (cellsE (l.take k)):=by
   have:=(own_rd 38 19 (some g) N cap (cellsE l)).take k hk
   rwa [cellsE_take']at this
  refine J.appendR hX tk (a:=some (bb 0)) (n:=0) (cap:=0) (xs:=[]) (oo:=0) (Ay:=ownA 38 19 (some g) N cap (cellsE l)) 2 1 0 rfl rfl rfl rfl rfl rfl rfl rfl rfl rfl hRd rfl rfl rfl rfl (cellsE_one _) ?_ ?_ (λ_=>rfl) λa' c'=>⟨_,rfl,trivial,?_⟩
  ·simp only[maxLen];omega
  ·omega
  rw[Nat.zero_add k,List.nil_append];refine J.q hX λ_=>?_;refine J.ru hX [1,2] ?_;exact⟨a',c',rfl,rfl⟩
theorem x_IndexR (c:Nat) (cs:List Value) (p:En->Bool) (A B:Atom) (hcal:callable Tryz.prog c=true) (l:List En) (hf:∀x∈l,Fn Tryz.prog c (enV x::cs) [A] (λv As=>v= .bool (p x)/\As=[A]))
  (a:Option Addr) (n cap:Nat) (hB:Rd B a 19 n (cellsE l)) (hl:l.length=n) (hn:n<=4611686018427387904):Fn Tryz.prog 179 [.slice a n cap,fnC c cs] [B,A]
  (λv As=>v= .int .i64 (idxE p l)/\As=[B,A]):=by
 refine Fn.enter [0,0] Tryz.func179 rfl rfl rfl λX F hX=>?_;refine J.q hX λ_=>?_;refine J.lo (α:=Nat) (λk=>k<=n/\∀i<k,p (l.getD i En.zero)=false) (λk=>[⟨8, .int .i64 k,0, .tt⟩,⟨7, .int .i64 n,0, .tt⟩,⟨0, .slice a n cap,0, .tt⟩,⟨1,fnC c cs,0, .tt⟩]) [] (λk=>[]) (λk=>n-k) (0) (⟨by omega,by omega⟩) rfl ?_ (λ_=>rfl) λk hI=>?_
 ·rfl
 refine J.q hX λ_=>?_;refine J.cond rfl (λh1=>?_) (λh1=>?_)
 ·simp only[decide_eq_true_eq,Int.ofNat_lt]at h1;refine J.know (p:=∃g o,a=some ⟨g,o,none⟩) (λh' s=>Rd.addr (hB _ (s.get (i:=1) rfl)) (by omega)) λhk=>?_;obtain⟨g,o,rfl⟩:=hk;have hk:l[k]? =some (l.getD k En.zero):=by rw[List.getD_eq_getElem?_getD,List.getElem?_eq_getElem (by omega),Option.getD_some]
  refine J.q hX λ_=>?_;refine J.val hX (enV (l.getD k En.zero)) 0 rfl rfl (λhg a w he hs=>?_) rfl trivial ?_
  ·exact rdN_run tk rfl rfl he rfl rfl rfl (hB _ (hs.get (i:=1) rfl)) (by omega) (j:=k*19) (by omega) (by have:=cellsE_at l [] k _ hk;rwa [List.append_nil]at this) rfl
  refine J.q hX λ_=>?_;refine J.call hX hcal (hf (l.getD k En.zero) (List.mem_of_getElem? hk)) [2] 0 rfl rfl rfl rfl (by(repeat' (first | exact Conj.nil | refine Conj.cons ?_ ?_ | omega | exact hq0 | (simpa using hq0) | (exactλh=>h) | exact rfl | (intro hq;have hq0:=hq;try simp only[Bool.and_eq_true,Bool.or_eq_true,decide_eq_true_eq,Bool.not_eq_true',decide_eq_false_iff_not]at hq) | (simp;done) | (simp;omega) | decide))) rfl rfl (λ_=>rfl) ?_;refine cpq ⟨_,rfl,trivial,?_⟩;refine J.q hX λ_=>?_;refine J.cond rfl (λh2=>?_) (λh2=>?_)
  ·refine J.q hX λ_=>?_;refine J.ru hX [1,2] ?_;exact⟨by rw[idxE,idxE_step hk hI.2 h2],rfl⟩
  ·refine J.q hX λ_=>?_;refine J.nx (k+1) (⟨by omega,λi hi=>by
    rcases Nat.lt_succ_iff_lt_or_eq.1 hi with h3 | h3
    ·exact hI.2 i h3
    ·rw[h3];exact h2⟩) (by omega) (λ_ s=>s)
 ·simp only[decide_eq_false_iff_not,Int.ofNat_lt]at h1;refine J.q hX λ_=>?_;refine J.ru hX [1,2] ?_;exact⟨by rw[idxE,idxE_none (λi hi=>hI.2 i (by omega))],rfl⟩
theorem x_ContainsR (c:Nat) (cs:List Value) (p:En->Bool) (A B:Atom) (hcal:callable Tryz.prog c=true) (l:List En) (hf:∀x∈l,Fn Tryz.prog c (enV x::cs) [A] (λv As=>v= .bool (p x)/\As=[A]))
  (a:Option Addr) (n cap:Nat) (hB:Rd B a 19 n (cellsE l)) (hl:l.length=n) (hn:n<=4611686018427387904):Fn Tryz.prog 184 [.slice a n cap,fnC c cs] [B,A]
  (λv As=>v= .bool (l.any p)/\As=[B,A]):=by
 refine Fn.enter [0,0] Tryz.func184 rfl rfl rfl λX F hX=>?_;refine J.q hX λ_=>?_;refine J.cb hX (x_IndexR c cs p A B hcal l hf a n cap hB hl hn) [1,2] ?_;refine cpq ⟨_,rfl,trivial,?_⟩;refine J.q hX λ_=>?_;refine J.ru hX [1,2] ?_;exact⟨by rw[<- idxE_any],rfl⟩
def DeskA (d:Nat) (L:List En):Atom:=exA λx:Option Nat×Nat=>[.pt d 227 [slv x.1 L.length x.2],ownA 38 19 x.1 L.length x.2 (cellsE L)]
theorem d_New:Fn Tryz.prog 135 [] [] (λv As=>∃d,v= .pointer (some ⟨d,0,none⟩)/\As=[DeskA d []]):=by
 refine Fn.enter [] Tryz.func135 rfl rfl rfl λX F hX=>?_;refine J.q hX λbs=>?_;refine J.turn1 [] rfl (As:=[ownA 38 19 none 0 0 (cellsE [])]) (λh s=>Sep.one ⟨rfl,rfl,rfl⟩) rfl ?_;refine J.close (f:=λx:Option Nat×Nat=>[.pt (bs 0) 227 [slv x.1 ([]:List En).length x.2],ownA 38 19 x.1 ([]:List En).length x.2 (cellsE [])]) (none,0) [1,2] rfl rfl rfl ?_;refine J.q hX λ_=>?_;refine J.ru hX [1] ?_;exact⟨bs 0,rfl,rfl⟩
theorem d_Len (d:Nat) (L:List En):Fn Tryz.prog 142 [.pointer (some ⟨d,0,none⟩)] [DeskA d L] (λv As=>v= .int .i64 L.length/\As=[DeskA d L]):=by
 refine Fn.enter [2] Tryz.func142 rfl rfl rfl λX F hX=>?_;refine J.open_ (α:=(Option Nat×Nat)) 1 rfl rfl (λ_=>rfl) λx=>?_;refine J.q hX λ_=>?_;refine J.cF ?_;refine J.q hX λ_=>?_;refine J.close (f:=λx:Option Nat×Nat=>[.pt d 227 [slv x.1 L.length x.2],ownA 38 19 x.1 L.length x.2 (cellsE L)]) x [1,2] rfl rfl rfl ?_;refine J.q hX λ_=>?_;exact J.ru hX [1] ⟨rfl,rfl⟩
theorem d_Put1 (b:Nat) (e x:En):Fn Tryz.prog 177 [enV x, .pointer (some ⟨b,0,none⟩)] [.pt b 38 (enL e)] (λv As=>v= .bool (x.lpn==e.lpn)/\As=[.pt b 38 (enL e)]):=by
 refine Fn.enter [0,2] Tryz.func177 rfl rfl rfl λX F hX=>?_;refine J.q hX λ_=>?_;exact J.ru hX [1] ⟨rfl,rfl⟩
def dkPut (L:List En) (e:En):List En:=(L.filter λx=>!(x.lpn==e.lpn))++[e]
theorem d_Put (d:Nat) (L:List En) (hL:L.length<=100000) (e:En):Fn Tryz.prog 136 [.pointer (some ⟨d,0,none⟩),enV e] [DeskA d L] (λv As=>v= .tuple #[]/\As=[DeskA d (dkPut L e)]):=by
 refine Fn.enter [2,0] Tryz.func136 rfl rfl rfl λX F hX=>?_;refine J.open_ (α:=(Option Nat×Nat)) 1 rfl rfl (λ_=>rfl) λx=>?_;obtain⟨a,c⟩:=x;refine J.q hX λbb=>?_;refine J.cF ?_;refine J.q hX λ_=>?_;refine J.cb hX (x_DeleteE 177 [.pointer (some ⟨bb 0,0,none⟩)] (λx=>x.lpn==e.lpn) (.pt (bb 0) 38 (enL e)) (by kernel_rfl) (λx=>d_Put1 (bb 0) e x) a L.length c L rfl (by omega)) [2,3] ?_;rintro v As ⟨l',hl',rfl,rfl⟩;refine⟨_,rfl,trivial,?_⟩;have hll:l'.length<=L.length:=by rw[hl'];exact List.length_filter_le _ _
 have hput:dkPut L e=l'++[e]:=by unfold dkPut;rw[hl']
 refine J.q hX λ_=>?_;refine J.plan (.of [0,4,8,12,17,21,26,30,32,36,43]) [8,9,10] [1,3] (by rw[hX.hP];kernel_rfl) (by kernel_rfl) ?_;refine J.q hX λ_=>?_;refine J.append hX tk 2 4 0 rfl rfl rfl rfl rfl rfl rfl rfl rfl rfl rfl rfl rfl rfl rfl rfl ?_ ?_ (λ_=>rfl) λa2 c2=>⟨_,(congrArg (λz=>lset _ 2 (ownA _ _ _ _ _ z)) (cellsE_snoc l' e)).trans rfl,⟨rfl,rfl,trivial⟩,?_⟩
 ·simp only[maxLen];omega
 ·omega
 refine J.q hX λ_=>?_;rw[show l'.length+1=(dkPut L e).length from by rw[hput];simp,<- hput];refine J.close (f:=λx:Option Nat×Nat=>[.pt d 227 [slv x.1 (dkPut L e).length x.2],ownA 38 19 x.1 (dkPut L e).length x.2 (cellsE (dkPut L e))]) (a2,c2) [1,2] rfl rfl rfl ?_;refine J.q hX λ_=>?_;refine J.fi hX tk [1] rfl rfl rfl ?_;exact⟨rfl,rfl⟩
theorem d_Get1 (b:Nat) (k:Int) (x:En):Fn Tryz.prog 180 [enV x, .pointer (some ⟨b,0,none⟩)] [.pt b 3 [.int .i64 k]] (λv As=>v= .bool (x.lpn==k)/\As=[.pt b 3 [.int .i64 k]]):=by
 refine Fn.enter [0,2] Tryz.func180 rfl rfl rfl λX F hX=>?_;refine J.q hX λ_=>?_;exact J.ru hX [1] ⟨rfl,rfl⟩
def dkGet (L:List En) (k:Int):En×Bool:=match L.find? (λx=>x.lpn==k)with
 | some e=>(e,true)
 | none=>(En.zero,false)
theorem find_idx {p:En->Bool} {l:List En} {k:Nat} (h:l.findIdx? p=some k):l.find? p=some (l.getD k En.zero)/\l[k]? =some (l.getD k En.zero):=by
 rw[List.findIdx?_eq_some_iff_getElem]at h;obtain⟨h1,h2,h3⟩:=h;have e:l[k]? =some (l.getD k En.zero):=by rw[List.getD_eq_getElem?_getD,List.getElem?_eq_getElem h1,Option.getD_some]
 refine⟨?_,e⟩;have e2:l.getD k En.zero=l[k]:=by rw[List.getElem?_eq_getElem h1]at e;injection e with e;exact e.symm
 rw[List.find?_eq_some_iff_getElem,e2];exact⟨h2,k,h1,rfl,λj hj=>by simpa using h3 j hj⟩
theorem d_Get (d:Nat) (L:List En) (hL:L.length<=100000) (k:Int):Fn Tryz.prog 138 [.pointer (some ⟨d,0,none⟩), .int .i64 k] [DeskA d L] (λv As=>v= .tuple #[enV (dkGet L k).1, .bool (dkGet L k).2]/\As=[DeskA d L]):=by
 refine Fn.enter [2,0] Tryz.func138 rfl rfl rfl λX F hX=>?_;refine J.open_ (α:=(Option Nat×Nat)) 1 rfl rfl (λ_=>rfl) λx=>?_;obtain⟨a,c⟩:=x;refine J.q hX λbb=>?_;refine J.cF ?_;refine J.q hX λ_=>?_;refine J.ca hX (by kernel_rfl) (x_IndexE 180 [.pointer (some ⟨bb 0,0,none⟩)] (λx=>x.lpn==k) (.pt (bb 0) 3 [.int .i64 k]) (by kernel_rfl) L (λx _=>d_Get1 (bb 0) k x) a L.length c rfl (by omega)) [2,3] 0 rfl rfl rfl rfl rfl rfl (λ_=>rfl) ?_;refine cpq ⟨_,rfl,trivial,?_⟩;rw[idxE];cases hx:L.findIdx? (λx=>x.lpn==k)with
 | none=>
  dsimp only;refine J.q hX λ_=>?_;refine J.cT ?_;refine J.close (f:=λx:Option Nat×Nat=>[.pt d 227 [slv x.1 L.length x.2],ownA 38 19 x.1 L.length x.2 (cellsE L)]) (a,c) [1,2] rfl rfl rfl ?_;refine J.q hX λ_=>?_;refine J.ru hX [1] ?_;have:dkGet L k=(En.zero,false):=by
   unfold dkGet;rw[List.find?_eq_none.2 (λx hm=>by rw[List.findIdx?_eq_none_iff]at hx;simp[hx x hm])]
  rw[this];exact⟨rfl,rfl⟩
 | some i=>
  dsimp only;obtain⟨f1,f2⟩:=find_idx hx;have hi:i<L.length:=(List.getElem?_eq_some_iff.1 f2).1;refine J.q hX λ_=>?_;refine J.cond rfl (λh0=>?_) (λh0=>?_)
  ·simp only[decide_eq_true_eq]at h0;omega
  cases a with
  | none=>
   refine J.know (λh' s=>(s.get (i:=2) rfl).2.1) λhn0=>?_;omega
  | some g=>
   refine J.q hX λ_=>?_;refine J.val hX (enV (L.getD i En.zero)) 0 rfl rfl (λhg a w he hs=>?_) rfl trivial ?_
   ·exact ownN_run tk rfl rfl he rfl rfl rfl (hs.get (i:=2) rfl) (by rw[show 0+(i:Int).toNat*19=i*19 from by omega];have:=cellsE_at L [] i _ f2;rwa [List.append_nil]at this) rfl
   refine J.close (f:=λx:Option Nat×Nat=>[.pt d 227 [slv x.1 L.length x.2],ownA 38 19 x.1 L.length x.2 (cellsE L)]) (some g,c) [1,2] rfl rfl rfl ?_;refine J.q hX λ_=>?_;refine J.ru hX [1] ?_;have:dkGet L k=(L.getD i En.zero,true):=by
    unfold dkGet;rw[f1]
   rw[this];exact⟨rfl,rfl⟩
def dkN (L:List En) (n:Int):Nat:=min n.toNat L.length
theorem d_First (d:Nat) (L:List En) (hL:L.length<=100000) (n:Int):Fn Tryz.prog 137 [.pointer (some ⟨d,0,none⟩), .int .i64 n] [DeskA d L] (λv As=>∃a' c',v=slv a' (dkN L n) c'/\As=[DeskA d L,ownA 38 19 a' (dkN L n) c' (cellsE (L.take (dkN L n)))]):=by
 refine Fn.enter [2,0] Tryz.func137 rfl rfl rfl λX F hX=>?_;refine J.open_ (α:=(Option Nat×Nat)) 1 rfl rfl (λ_=>rfl) λx=>?_;obtain⟨a,c⟩:=x;refine J.q hX λ_=>?_;refine J.cF ?_;refine J.know (λh' s=>ownP_cap (s.get (i:=2) rfl)) λhcap=>?_;dsimp only at hcap;have hmin:(if(L.length:Int)<(if(0:Int)>n then 0 else n)then(L.length:Int)else(if(0:Int)>n then 0 else n))=(dkN L n:Int):=by
  unfold dkN
  by_cases h:(0:Int)>n
  ·simp only[if_pos h];rw[if_neg (by omega)];omega
  ·simp only[if_neg h];split<;>omega
 have hk:dkN L n<=L.length:=Nat.min_le_right _ _;refine J.q hX λ_=>?_;refine J.plan (.of [0,4,8,13,16,20,24,28,32,37,40,44,48,54,56]) [14] [1,2] (by rw[hX.hP];kernel_rfl) (by kernel_rfl) ?_;refine J.qn hX 12 λ_=>?_;refine J.valT hX (slv a (dkN L n) c) 0 rfl rfl (λhg aa w he hC=>?_) rfl ?_
 ·exact cutE_run rfl rfl rfl he rfl rfl hmin (by omega)
 refine J.q hX λ_=>?_;refine J.cb hX (x_CloneP a L.length c c (dkN L n) L rfl hk (by omega)) [2] ?_;rintro v As ⟨a',c',rfl,rfl⟩;refine⟨_,rfl,⟨rfl,rfl,trivial⟩,?_⟩;refine J.q hX λ_=>?_;refine J.close (f:=λx:Option Nat×Nat=>[.pt d 227 [slv x.1 L.length x.2],ownA 38 19 x.1 L.length x.2 (cellsE L)]) (a,c) [1,2] rfl rfl rfl ?_;refine J.q hX λ_=>?_;refine J.ru hX [1,3] ?_;exact⟨a',c',rfl,rfl⟩
theorem d_Done2 (b be:Nat) (x e:En):Fn Tryz.prog 185 [enV e, .pointer (some ⟨b,0,none⟩)] [.pt b 38 (enL x)] (λv As=>v= .bool (e.lpn==x.lpn&&e.seq==x.seq)/\As=[.pt b 38 (enL x)]):=by
 refine Fn.enter [0,2] Tryz.func185 rfl rfl rfl λX F hX=>?_;refine J.q hX λ_=>?_;exact J.ru hX [1] ⟨rfl,rfl⟩
theorem d_Done1 (b:Nat) (B:Atom) (al:Option Addr) (nl cl:Nat) (l:List En) (hB:Rd B al 19 nl (cellsE l)) (hl:l.length=nl) (hn:nl<=4611686018427387904) (x:En):Fn Tryz.prog 183 [enV x, .pointer (some ⟨b,0,none⟩)] [.pt b 34 [.slice al nl cl],B] (λv As=>v= .bool (l.any λe=>e.lpn==x.lpn&&e.seq==x.seq)/\As=[.pt b 34 [.slice al nl cl],B]):=by
 refine Fn.enter [0,2] Tryz.func183 rfl rfl rfl λX F hX=>?_;refine J.q hX λbb=>?_;refine J.ca hX (by kernel_rfl) (x_ContainsR 185 [.pointer (some ⟨bb 0,0,none⟩)] (λe=>e.lpn==x.lpn&&e.seq==x.seq) (.pt (bb 0) 38 (enL x)) B (by kernel_rfl) l (λe _=>d_Done2 (bb 0) 0 x e) al nl cl hB hl hn) [2,3] 0 rfl rfl rfl rfl rfl rfl (λ_=>rfl) ?_;refine cpq ⟨_,rfl,trivial,?_⟩;refine J.q hX λ_=>?_;exact J.ru hX [1,2] ⟨rfl,rfl⟩
def dkDone (L l:List En):List En:=L.filter λx=>!(l.any λe=>e.lpn==x.lpn&&e.seq==x.seq)
theorem d_Done (d:Nat) (L:List En) (hL:L.length<=100000) (B:Atom) (al:Option Addr) (nl cl:Nat) (l:List En) (hB:Rd B al 19 nl (cellsE l)) (hl:l.length=nl) (hn:nl<=4611686018427387904):Fn Tryz.prog 141 [.pointer (some ⟨d,0,none⟩), .slice al nl cl] [DeskA d L,B] (λv As=>v= .int .i64 ((L.length:Int)-(dkDone L l).length)/\As=[DeskA d (dkDone L l),B]):=by
 refine Fn.enter [2,0] Tryz.func141 rfl rfl rfl λX F hX=>?_;refine J.open_ (α:=(Option Nat×Nat)) 1 rfl rfl (λ_=>rfl) λx=>?_;obtain⟨a,c⟩:=x;refine J.q hX λbb=>?_;refine J.cF ?_;refine J.q hX λ_=>?_;refine J.turn1 [4,2] rfl (As:=[.hp (HP.of [.pt (bb 0) 34 [.slice al nl cl],B])]) (λh s=>Sep.hpOf.2 s) rfl ?_;refine J.q hX λ_=>?_;refine J.ca hX (by kernel_rfl) (x_DeleteE 183 [.pointer (some ⟨bb 0,0,none⟩)] (λx=>l.any λe=>e.lpn==x.lpn&&e.seq==x.seq) _ (by kernel_rfl) (λx=>Fn.pack (d_Done1 (bb 0) B al nl cl l hB hl hn x)) a L.length c L rfl (by omega)) [3,4] 0 rfl rfl rfl rfl rfl rfl (λ_=>rfl) ?_;rintro v As ⟨l',hl',rfl,rfl⟩;refine⟨_,rfl,trivial,?_⟩;have hll:l'.length<=L.length:=by rw[hl'];exact List.length_filter_le _ _
 have hdn:dkDone L l=l':=hl'.symm;refine J.q hX λ_=>?_;refine J.turn1 [4] rfl (As:=[.pt (bb 0) 34 [.slice al nl cl],B]) (λh s=>Sep.hpOf.1 s) rfl ?_;refine J.close (f:=λx:Option Nat×Nat=>[.pt d 227 [slv x.1 l'.length x.2],ownA 38 19 x.1 l'.length x.2 (cellsE l')]) (a,c) [1,3] rfl rfl rfl ?_;refine J.q hX λ_=>?_;refine J.ru hX [1,5] ?_;rw[hdn];exact⟨rfl,rfl⟩
theorem num_snoc (l:List En) (next:Int) (k:Nat):Dv.num l next (k+1)=Dv.num l next k++[Dv.numAt l next k]:=by unfold Dv.num;rw[List.range_succ,List.map_append];rfl
theorem pn_numbered (p n t l:Nat) (S:Dv) (A:Atom) (a:Option Addr) (m c:Nat) (es:List En) (hA:Rd A a 19 m (cellsE es)) (hl:es.length=m) (hm:m<=1000000) (hd:∀s∈es,s.data.length=16) (hn:1<=S.next/\S.next<=1099511627776) (sl:Nat) (hsl:sl<=7):
  Fn Tryz.prog 57 [.pointer (some ⟨p,0,none⟩), .slice a m c, .int .i64 sl] [PenA p n t l S,A]
  (λv As=>∃g c',v=slv g sl c'/\As=[PenA p n t l {S with next:=S.next+(min m sl:Nat)},A,ownA 38 19 g sl c' (cellsE (Dv.num es S.next sl))]):=by
 refine Fn.enter [2,0,0] Tryz.func57 rfl rfl rfl λX F hX=>?_;refine J.q hX λ_=>?_;refine J.turn1 [] rfl (As:=[ownA 38 19 none 0 0 (cellsE [])]) (λh s=>Sep.one ⟨rfl,rfl,rfl⟩) rfl ?_;refine J.q hX λ_=>?_;refine J.lo (α:=(Nat×Int×Option Nat×Nat)) (λz=>z.1<=sl/\z.2.1=S.next+(min m z.1:Nat)) (λz=>[⟨11, .int .i64 z.1,0, .tt⟩,⟨10, .int .i64 sl,0, .tt⟩,⟨7,slv z.2.2.1 (Dv.num es S.next z.1).length z.2.2.2,0, .tt⟩,⟨0, .pointer (some ⟨p,0,none⟩),2, .tt⟩,⟨1, .slice a m c,0, .tt⟩]) [1,3] (λz=>[PenA p n t l {S with next:=z.2.1},ownA 38 19 z.2.2.1 (Dv.num es S.next z.1).length z.2.2.2 (cellsE (Dv.num es S.next z.1))]) (λz=>sl-z.1) ((0,S.next,none,0)) (⟨Nat.zero_le _,by simp⟩) rfl ?_ (λ_=>rfl) λz hI=>?_
 ·rfl
 obtain⟨k,nx,ga,ca⟩:=z;dsimp only at hI ⊢;obtain⟨hk,hnx⟩:=hI;have hlen:(Dv.num es S.next k).length=k:=Dv.num_len _ _ _;refine J.q hX λ_=>?_;refine J.cond rfl (λh1=>?_) (λh1=>?_)
 ·simp only[decide_eq_true_eq,Int.ofNat_lt]at h1;have hs:=num_snoc es S.next k;refine J.q hX λ_=>?_;refine J.cond rfl (λh2=>?_) (λh2=>?_)
  ·simp only[decide_eq_true_eq,ge_iff_le,Int.ofNat_le]at h2;have hx:Dv.numAt es S.next k=En.pad:=by unfold Dv.numAt;rw[if_neg (by omega)]
   refine J.q hX λ_=>?_;refine J.append hX tk 3 4 0 rfl rfl rfl rfl rfl rfl rfl rfl rfl rfl rfl rfl rfl rfl rfl rfl ?_ ?_ (λ_=>rfl) λa3 c3=>⟨_,(congrArg (λz=>lset _ 3 (ownA _ _ _ _ _ z)) (cellsE_snoc (Dv.num es S.next k) En.pad)).trans rfl,trivial,?_⟩
   ·simp only[maxLen];omega
   ·omega
   rw[<- hx,<- hs,show(Dv.num es S.next k).length+1=(Dv.num es S.next (k+1)).length from by rw[hs];simp];refine J.q hX λ_=>?_;refine J.nS ((k+1,nx,a3,c3)) (⟨by dsimp only;omega,by dsimp only;rw[hnx];congr 2;omega⟩) (by dsimp only;omega) [0,1,2,3] rfl rfl
  simp only[decide_eq_false_iff_not,ge_iff_le,Int.ofNat_le]at h2;have hkl:k<es.length:=by omega
  have hx:Dv.numAt es S.next k={es.getD k En.zero with seq:=S.next+k}:=by unfold Dv.numAt;rw[if_pos hkl]
  have hget:es[k]? =some (es.getD k En.zero):=by rw[List.getD_eq_getElem?_getD,List.getElem?_eq_getElem hkl,Option.getD_some]
  refine J.know (p:=∃g o,a=some ⟨g,o,none⟩) (λh' s=>Rd.addr (hA _ (s.get (i:=2) rfl)) (by omega)) λhk2=>?_;obtain⟨g,o,rfl⟩:=hk2;refine J.q hX λ_=>?_;refine J.val hX (enV (es.getD k En.zero)) 0 rfl rfl (λhg a w he hw=>?_) rfl trivial ?_
  ·exact rdN_run tk rfl rfl he rfl rfl rfl (hA _ (hw.get (i:=2) rfl)) (by omega) (j:=k*19) (by omega) (by have:=cellsE_at es [] k _ hget;rwa [List.append_nil]at this) rfl
  refine J.q hX λ_=>?_;refine J.append hX tk 3 5 0 rfl rfl rfl rfl rfl rfl rfl rfl rfl rfl rfl rfl rfl rfl rfl rfl ?_ ?_ (λ_=>rfl) λa3 c3=>⟨_,(congrArg (λz=>lset _ 3 (ownA _ _ _ _ _ z)) (cellsE_snoc (Dv.num es S.next k) {es.getD k En.zero with seq:=nx})).trans rfl,trivial,?_⟩
  ·simp only[maxLen];omega
  ·omega
  have hnk:nx=S.next+(k:Int):=by rw[hnx,Nat.min_eq_right (by omega)]
  rw[hnk,<- hx,<- hs,show(Dv.num es S.next k).length+1=(Dv.num es S.next (k+1)).length from by rw[hs];simp];refine J.q hX λ_=>?_;refine J.nS ((k+1,S.next+k+1,a3,c3)) (⟨by dsimp only;omega,by dsimp only;rw[Nat.min_eq_right (by omega)];omega⟩) (by dsimp only;omega) [0,1,2,3] rfl rfl
 ·simp only[decide_eq_false_iff_not,Int.ofNat_lt]at h1;obtain rfl:k=sl:=by omega
  rw[hnx];refine J.q hX λ_=>?_;refine J.ru hX [1,2,3] ?_;exact⟨ga,ca,by rw[hlen],by rw[hlen];rfl⟩
theorem pn_Write (p n t l:Nat) (S:Dv) (k mm:Nat) (hO:S.Ok (8*Dv.fuel+k) mm) (A:Atom) (a:Option Addr) (m c:Nat) (es:List En) (hA:Rd A a 19 m (cellsE es)) (hl:es.length=m) (hm:m<=1000000) (hd:∀s∈es,s.data.length=16):
  Fn Tryz.prog 21 [.pointer (some ⟨p,0,none⟩), .slice a m c] (DvP p n t l S++[A])
  (λv As=>v= .tuple #[.int .i64 (S.pen es).2.1, .int .i64 (S.pen es).2.2]/\As=DvP p n t l (S.pen es).1++[A]):=by
 have hmu:=Dv.mu_le hO;refine Fn.enter [2,0] Tryz.func21 rfl rfl rfl λX F hX=>?_;refine J.q hX λ_=>?_;refine J.cF ?_;refine J.q hX λ_=>?_;refine J.lo (α:=(Nat×Dv)) (λz=>z.2.Ok (8*z.1+k) mm/\z.2.mu<z.1/\Dv.write z.1 z.2 es=S.pen es) (λz=>[⟨0, .pointer (some ⟨p,0,none⟩),2, .tt⟩,⟨1, .slice a m c,0, .tt⟩]) [1,2,3,4] (λz=>DvP p n t l z.2) (λz=>z.1) ((Dv.fuel,S)) (⟨hO,by dsimp only;unfold Dv.fuel;omega,rfl⟩) rfl ?_ (λ_=>rfl) λz hI=>?_
 ·rfl
 obtain⟨j,Q⟩:=z;dsimp only at hI ⊢;obtain⟨hQ,hj,hw⟩:=hI;obtain⟨j,rfl⟩:∃i,j=i+1:=⟨j-1,by omega⟩;have hQ1:Q.Ok (8+(8*j+k)) mm:=hQ.less (by omega);have hbd:=hQ.gd.ok.bd16;have hlb:=hQ.t.len;have hbb:Q.t.b<=1000:=by have:=hQ.t.b;omega
 rw[Dv.write_succ]at hw;refine J.q hX λ_=>?_;refine J.cond rfl (λh1=>?_) (λh1=>?_)
 ·simp only[decide_eq_true_eq]at h1;have hlen:es.length≠0:=by omega
  rw[if_neg hlen]at hw;refine J.q hX λ_=>?_;refine J.cb hX (pn_left p n t l Q) [1,2,3,4] ?_;refine cpq ⟨_,rfl,trivial,?_⟩;refine J.q hX λ_=>?_
  by_cases hns:Q.left=false/\Q.pick<0
  ·rw[if_pos hns]at hw;rw[hns.1];refine J.q hX λ_=>?_;refine J.cT ?_;refine J.q hX λ_=>?_;refine J.cb hX (pn_opens p n t l Q hbb hlb) [1,2,3,4] ?_;refine cpq ⟨_,rfl,trivial,?_⟩;rw[if_pos hns.2,if_pos hns.2];refine J.q hX λ_=>?_;refine J.cT ?_;refine J.q hX λ_=>?_;refine J.ru hX [1,2,3,4,5] ?_;rw[<- hw];exact⟨rfl,rfl⟩
  rw[if_neg hns]at hw;refine J.join (α:=Unit) (λ_=>[⟨0, .pointer (some ⟨p,0,none⟩),2, .tt⟩,⟨1, .slice a m c,0, .tt⟩]) (λ_=>[.hp F,PenA p n t l Q.at1,NandA n Q.at1.N,TlA t Q.at1.t,TbA l Q.at1.T,A]) (λhj=>?_) (λ_=>?_)
  ·refine J.q hX λ_=>?_;refine J.cond rfl (λh2=>?_) (λh2=>?_)
   ·simp only[Bool.not_eq_true']at h2;have hp:¬Q.pick<0:=λe=>hns ⟨h2,e⟩;refine J.q hX λ_=>?_;refine J.cb hX (pn_opens p n t l Q hbb hlb) [1,2,3,4] ?_;refine cpq ⟨_,rfl,trivial,?_⟩;rw[if_neg hp,if_neg hp];have ha:Q.at1=Q.opened:=by unfold Dv.at1;rw[h2];rfl
    rw[ha]at hj;refine J.q hX λ_=>?_;refine J.cF ?_;refine J.qn hX 1 λ_=>?_;exact J.goto [0,1,2,3,4,5] (hj ()) ⟨rfl,rfl,trivial⟩ rfl rfl
   ·simp only[Bool.not_eq_false']at h2;have ha:Q.at1=Q:=by unfold Dv.at1;rw[h2];rfl
    rw[ha]at hj;refine J.qn hX 1 λ_=>?_;exact J.goto [0,1,2,3,4,5] (hj ()) ⟨rfl,rfl,trivial⟩ rfl rfl
  have h3:=Dv.at1_left' hQ hns;have h4:=Dv.mu_at1 hQ hns;have hQ3:=hQ1.at1;clear hQ1 hlb hbb;generalize Q.at1=P at hw h3 h4 hQ3 ⊢;have hs:=Dv.left_spec h3;have hfit:=Dv.fit_le P es;have hsb:=Dv.slots_le P.mask;have hnx:=hQ3.next;have hrow:=hQ3.row;obtain⟨sl,hsl⟩:∃sl:Nat,G.slots P.mask=(sl:Int):=⟨(G.slots P.mask).toNat,by omega⟩;have hfs:P.fit es=min m sl:=by unfold Dv.fit;rw[hsl,hl,Int.toNat_natCast]
  have hes:P.es es=Dv.num es P.next sl:=by unfold Dv.es;rw[hsl,Int.toNat_natCast]
  have hmin:(if(sl:Int)<(m:Int)then(sl:Int)else(m:Int))=(P.fit es:Int):=by rw[hfs];split<;>omega
  refine J.q hX λ_=>?_;refine J.cb hX (g_Slots P.mask) [] ?_;refine cpq ⟨_,rfl,trivial,?_⟩;rw[hsl];refine J.qn hX 8 λ_=>?_;rw[hmin];refine J.q hX λ_=>?_;refine J.cond rfl (λh5=>?_) (λh5=>?_)
  ·simp only[decide_eq_true_eq]at h5;have h5:P.next>1099511627775-(P.fit es:Int)+1:=h5;rw[if_pos h5]at hw;refine J.q hX λ_=>?_;refine J.ru hX [1,2,3,4,5] ?_;rw[<- hw];exact⟨rfl,rfl⟩
  simp only[decide_eq_false_iff_not]at h5;have h5:¬P.next>1099511627775-(P.fit es:Int)+1:=h5;rw[if_neg h5]at hw;refine J.q hX λ_=>?_;refine J.cb hX (pn_numbered p n t l P A a m c es hA hl hm hd hnx sl (by omega)) [1,5] ?_;rintro v As ⟨g,c1,rfl,rfl⟩;refine⟨_,rfl,trivial,?_⟩;rw[<- hes,<- hfs];have hdn:∀s∈P.es es,s.data.length=16:=Dv.num_data hd _ _;have hlen2:(P.es es).length=sl:=by rw[hes,Dv.num_len]
  refine J.know (λh' s=>own_some (c:=(g,c1)) (by omega) (s.get (i:=6) rfl)) λhg=>?_;obtain⟨ga,rfl⟩:=hg;refine J.know (λh' s=>ownP_cap (show ownP _ _ (some ga) sl c1 _ _ from s.get (i:=6) rfl)) λhcap=>?_;have hRd:Rd (ownA 38 19 (some ga) sl c1 (cellsE (P.es es))) (some ⟨ga,0,none⟩) 19 sl (cellsE (P.es es)):=own_rd 38 19 (some ga) sl c1 (cellsE (P.es es));refine J.q hX λ_=>?_;refine J.plan (.of [0,4,8,13,16,20,24,29,32,36,40,44,49,52,58,60,64,68,72,76]) [19] [1,3,4,5,6] (by rw[hX.hP];kernel_rfl) (by kernel_rfl) ?_;refine J.q hX λ_=>?_;refine J.ca hX (by kernel_rfl) (r_Write n P.N (ownA 38 19 (some ga) sl c1 (cellsE (P.es es))) P.op P.row P.mask (some ⟨ga,0,none⟩) sl c1 mm (P.es es) hRd hlen2 hdn (hQ3.gd.less (by omega) (Nat.le_refl _))) [2,6] 0 rfl rfl rfl rfl rfl rfl (λ_=>rfl) ?_;refine cpq ⟨_,rfl,(by first | exact trivial | (repeat' (first | exact trivial | refine⟨rfl,?_⟩))),?_⟩;have hwr:R.write P.N P.op P.row P.mask (P.es es)=P.wr es:=rfl;rw[hwr];refine J.q hX λ_=>?_;refine J.cond rfl (λh6=>?_) (λh6=>?_)
  ·simp only[beq_iff_eq]at h6;rw[if_pos h6]at hw;refine J.q hX λ_=>?_;refine J.ru hX [1,2,3,4,5] ?_;rw[<- hw];exact⟨by rw[h6],rfl⟩
  simp only[beq_eq_false_iff_ne,ne_eq]at h6;rw[if_neg h6]at hw;refine J.q hX λ_=>?_;refine J.cond rfl (λh7=>?_) (λh7=>?_)
  ·simp only[beq_iff_eq]at h7;rw[if_pos h7]at hw;refine J.q hX λ_=>?_;have hfn:(P.fit es:Int).toNat-0=P.fit es:=by omega
   rw[hfn];have hpo:=λi (hi:i<=1000)=>Dv.puts_ok hQ3.T hQ3.sl P.op P.row P.mask (P.es es) i hi;refine J.q hX λ_=>?_;refine J.lo (α:=Nat) (λi=>i<=P.fit es) (λi=>[⟨109, .int .i64 i,0, .tt⟩,⟨108, .int .i64 (P.fit es:Int),0, .tt⟩,⟨107, .slice (some ⟨ga,0,none⟩) (P.fit es) (c1-0),0, .tt⟩,⟨0, .pointer (some ⟨p,0,none⟩),2, .tt⟩,⟨8, .int .i64 (P.fit es:Int),0, .tt⟩,⟨9, .int .i64 P.row,0, .tt⟩]) [4] (λi=>[TbA l (Dv.puts P.T P.op P.row P.mask (P.es es) i)]) (λi=>P.fit es-i) (0) (Nat.zero_le _) rfl ?_ (λ_=>rfl) λi hI=>?_
   ·rfl
   refine J.q hX λ_=>?_;refine J.cond rfl (λh9=>?_) (λh9=>?_)
   ·simp only[decide_eq_true_eq,Int.ofNat_lt]at h9;have hil:i<(P.es es).length:=by omega
    have hget:(P.es es)[i]? =some ((P.es es).getD i En.zero):=by rw[List.getD_eq_getElem?_getD,List.getElem?_eq_getElem hil,Option.getD_some]
    have hseq: -9223372036854775808<=((P.es es).getD i En.zero).seq/\((P.es es).getD i En.zero).seq<9223372036854775807:=by
     have:(P.es es).getD i En.zero=Dv.numAt es P.next i:=by
      rw[hes];unfold Dv.num;rw[List.getD_eq_getElem?_getD,List.getElem?_map,List.getElem?_range (by omega)];rfl
     rw[this];unfold Dv.numAt;split
     ·show-9223372036854775808<=P.next+(i:Int)/\P.next+(i:Int)<9223372036854775807;omega
     ·show-9223372036854775808<=(0:Int)/\(0:Int)<9223372036854775807;omega
    refine J.q hX λ_=>?_;refine J.val hX (enV ((P.es es).getD i En.zero)) 0 rfl rfl (λhg a w he hw=>?_) rfl trivial ?_
    ·exact rdN_run tk rfl rfl he rfl rfl rfl (hRd _ (hw.get (i:=6) rfl)) (by omega) (j:=i*19) (by omega) (by have:=cellsE_at (P.es es) [] i _ hget;rwa [List.append_nil]at this) rfl
    refine J.q hX λ_=>?_;refine J.plan (.of [0,4,8,13,17,20,24,28,33,36,40,44,48,52,56,61,66]) [] [1,2,3,5,6,7] (by rw[hX.hP];kernel_rfl) (by kernel_rfl) ?_;refine J.q hX λ_=>?_;refine J.cb hX (tb_Put l (Dv.puts P.T P.op P.row P.mask (P.es es) i) ((P.es es).getD i En.zero) P.op P.row i P.mask hseq (hpo i (by omega)).1.bd) [4] ?_;refine cpq ⟨_,rfl,(by first | exact trivial | (repeat' (first | exact trivial | refine⟨rfl,?_⟩))),?_⟩;rw[<- Dv.puts_succ];refine J.q hX λ_=>?_;refine J.nS (i+1) (by omega) (by omega) [0,1,2,3,4,5,6] rfl rfl
   ·simp only[decide_eq_false_iff_not,Int.ofNat_lt]at h9;obtain rfl:i=P.fit es:=by omega
    refine J.q hX λ_=>?_;refine J.ru hX [1,2,3,4,5] ?_;rw[<- hw];exact⟨rfl,rfl⟩
  simp only[beq_eq_false_iff_ne,ne_eq]at h7;rw[if_neg h7]at hw;refine J.q hX λ_=>?_;refine J.cond rfl (λh8=>?_) (λh8=>?_)
  ·simp only[beq_iff_eq]at h8;rw[if_pos h8]at hw;refine J.q hX λ_=>?_;refine J.ru hX [1,2,3,4,5] ?_;rw[<- hw];exact⟨by rw[h8],rfl⟩
  simp only[beq_eq_false_iff_ne,ne_eq]at h8;rw[if_neg h8]at hw;have hWO:=hQ3.wrote hd hs.2.1 h5;have hmu2:=Dv.mu_wrote hQ3 h3 es (P.wr es).2.1;refine J.q hX λ_=>?_;refine J.cb hX (pn_loses p n t l (P.wrote es) hWO.gd.ok hWO.t (P.wr es).2.1) [1,2,3,4] ?_;refine cpq ⟨_,rfl,trivial,?_⟩;refine J.q hX λ_=>?_;refine J.nS ((j,(P.wrote es).loses (P.wr es).2.1)) (⟨hWO.loses _,by dsimp only;omega,hw⟩) (by dsimp only;omega) [0,1,2,3,4,5] rfl rfl
 ·simp only[decide_eq_false_iff_not]at h1;have hlen:es.length=0:=by omega
  rw[if_pos hlen]at hw;refine J.q hX λ_=>?_;refine J.ru hX [1,2,3,4,5] ?_;rw[<- hw];exact⟨rfl,rfl⟩
end Go.Proofs.YtdocmcapegcoeaaGreat
