/- Helpers, proved here. No condition. -/
import Derived.Test.YtgkpkpbnonmopaaGreatB05
import Derived.Test.YtgkpkpbnonmopaaGreatB06
import Derived.Test.YtgkpkpbnonmopaaGreatB09
import Derived.Test.YtgkpkpbnonmopaaGreatB10
import Derived.Test.YtgkpkpbnonmopaaGreatB14
import Derived.Test.YtgkpkpbnonmopaaGreatB15
import Derived.Test.YtgkpkpbnonmopaaGreatB16
import Derived.Test.YtgkpkpbnonmopaaGreatB20
import Derived.WideKeyEntry
set_option maxRecDepth 20000
set_option linter.all false
namespace Go.Proofs.YtgkpkpbnonmopaaGreat
open Go Go.RowKit
theorem a4R (l:List Int) (f:Int->Int) (i:Nat) (x:Int) (h:l[i]? =some x):((l.take (i+1)).map f).sum=((l.take i).map f).sum+f x:=by
 rw[List.take_add_one,h,Option.toList_some,List.map_append,List.sum_append];simp
theorem b7k (l:List Int) (f:Int->Int) (c:Int) (hc:0<=c) (hf:∀x,0<=f x/\f x<=c):0<=(l.map f).sum/\(l.map f).sum<=c*l.length:=by
 induction l with
 | nil=>simp
 | cons x l ih=>
  have:=hf x;simp only[List.map_cons,List.sum_cons,List.length_cons,Int.natCast_add,Int.mul_add];omega
theorem b0l (t l:Nat) (S:Dv) (k mm:Nat) (hO:S.Ok k mm):FP 91 [pp t,pp l] [TlA t S.t,TbA l S.T]
  (λv As=>v=iI S.leftN/\As=[TlA t S.t,TbA l S.T]):=by
 have hbd:=hO.gd.ok.bd16;have htb:=hO.t.b;have hlog:=hO.T.log;obtain⟨L,hL⟩:∃L,L=S.hurts:=⟨_,rfl⟩;have hLl:L.length<=16:=by have:=H9 (Q1 S.t S.T) (-1) S.t.b;rw[hL];unfold Dv.hurts;omega
 have hs:=λi=>b7k (L.take i) S.T.count 1000000 (by omega) (λx=>hO.T.bd x);refine FE [2,3] Tryz.func91 λX F hX=>?_;refine J.qc (a9d t S.t (by omega) hO.t.len l S.T S.T.logical.toNat (by omega) (by omega)) [1,2] λ_=>?_;rintro v As ⟨a,c,rfl,rfl⟩;refine⟨_,rfl,trivial,?_⟩;rw[show g7 (Q1 S.t S.T) (-1) S.t.b=L from hL.symm];refine J.q λ_=>?_;refine J.lo (α:=Nat) (λi=>i<=L.length) (λi=>[si 12 i,si 11 L.length,sv 10 (slv a L.length c),⟨5,iI ((L.take i).map S.T.count).sum,0, .tt⟩,⟨1,pp l,3, .tt⟩]) [] (λi=>[]) (λi=>L.length-i) (0) (Nat.zero_le _) rfl ?_ (λ_=>rfl) λi hI=>?_
 ·rfl
 have hsi:=hs i;have htl:((L.take i).length:Int)<=16:=by rw[List.length_take];omega
 refine J.qd (λ_ h1=>?_) λ_ h1=>?_
 ·simp only[decide_eq_true_eq,Int.ofNat_lt]at h1;obtain⟨x,hx⟩:∃x,L[i]? =some x:=⟨_,List.getElem?_eq_getElem h1⟩;have hxb:=hO.T.bd x;have hsu:=a4R L S.T.count i x hx;refine J.know (λh' s=>j7 (c:=(a,c)) (by omega) (s.get (i:=3) rfl)) λhg=>?_;obtain⟨g,rfl⟩:=hg;refine J.q λ_=>?_;refine J.v (iI x) rfl rfl (λhg aa w he hw=>m7 tk rfl rfl he rfl rfl rfl (hw.get (i:=3) rfl) (by rw[show 0+(i:Int).toNat*1=i from by omega,f7,List.getElem?_map,hx];rfl)) ?_;refine J.qp (H4 l S.T x) [2] λ_=>?_;refine J.q λ_=>?_;rw[<- hsu];refine J.q λ_=>?_;refine J.nS (i+1) (by omega) (by omega) [0,1,2,3] rfl rfl
 ·simp only[decide_eq_false_iff_not,Int.ofNat_lt]at h1;refine J.qr [1,2] λ_=>?_;rw[List.take_of_length_le (by omega),hL];exact⟨rfl,rfl⟩
theorem b0k (n t l p:Nat) (S:Dv) (k mm:Nat) (hO:S.Ok (Dv.costS+k) mm) (hmm:mm<=12) (most:Int):FP 88 [pp n,pp t,pp l,pp p,iI most] (DvP p n t l S)
  (λv As=>v= .tuple #[iI (S.step most).2.1,iI (S.step most).2.2]/\As=DvP p n t l (S.step most).1):=by
 have hbd:=hO.gd.ok.bd16;have htd:=hO.t.d;have htb:=hO.t.b;refine FE [3,4,5,2,0] Tryz.func88 λX F hX=>?_;refine J.qp (a3x t S.t) [3] λ_=>?_;refine J.q λ_=>?_;refine J.lo (α:=(Nat×Tl)) (λz=>z.1<=S.t.d/\(List.range z.1).foldl (λt (d:Nat)=>if S.N.deadAt d then t.die d else t) S.t=z.2/\z.2.Fit S.N) (λz=>[si 18 z.1,si 17 S.t.d,⟨0,pp n,3, .tt⟩,⟨1,pp t,4, .tt⟩,⟨2,pp l,5, .tt⟩,⟨3,pp p,2, .tt⟩,si 4 most]) [3] (λz=>[TlA t z.2]) (λz=>S.t.d-z.1) ((0,S.t)) (⟨Nat.zero_le _,rfl,hO.t⟩) rfl ?_ (λ_=>rfl) λz hI=>?_
 ·rfl
 obtain⟨d,U⟩:=z;dsimp only at hI ⊢;obtain⟨hd,hfo,hU⟩:=hI;refine J.qd (λ_ h1=>?_) λ_ h1=>?_
 ·simp only[decide_eq_true_eq,Int.ofNat_lt]at h1;have hsu:(List.range (d+1)).foldl (λt (d:Nat)=>if S.N.deadAt d then t.die d else t) S.t=if S.N.deadAt d then U.die d else U:=by rw[List.range_succ,List.foldl_append,hfo];rfl
  refine J.qp (a0Q n S.N hO.gd.ok d) [2] λ_=>?_;refine J.qd (λ_ h2=>?_) λ_ h2=>?_
  ·rw[if_pos h2]at hsu;refine J.qp (a1j t U d) [3] λ_=>?_;refine J.q λ_=>?_;refine J.nS ((d+1,U.die d)) (⟨by dsimp only;omega,hsu,hU.die d⟩) (by dsimp only;omega) [0,1,2,3,4] rfl rfl
  ·rw[if_neg (by rw[h2];decide)]at hsu;refine J.q λ_=>?_;refine J.nS ((d+1,U)) (⟨by dsimp only;omega,hsu,hU⟩) (by dsimp only;omega) [0,1,2,3,4] rfl rfl
 simp only[decide_eq_false_iff_not,Int.ofNat_lt]at h1;obtain rfl:d=S.t.d:=by omega
 have hseen:S.seen={S with t:=U}:=by unfold Dv.seen Dv.seeDead;rw[hfo]
 have hO1:S.seen.Ok (Dv.costM+(Dv.costC+k)) mm:=hO.seen.less (by unfold Dv.costS;omega);have hr:=Dv.room_keep hO1;obtain⟨Q,hQ⟩:∃Q,Q=S.seen:=⟨_,rfl⟩;have hQO:Q.Ok (Dv.costM+(Dv.costC+k)) mm:=by rw[hQ];exact hO1
 have hst:S.step most=(let r:=Q.room;if r.2≠0 then(r.1,0,r.2)else match r.1.hurts with | []=>(r.1,0,0) | b::_=>r.1.carry b most):=by rw[hQ];rfl
 rw[show j4 n S.N=j4 n Q.N from by rw[hQ];rfl,show TbA l S.T=TbA l Q.T from by rw[hQ];rfl,show TlA t U=TlA t Q.t from by rw[hQ,hseen],show R6 p n t l S=R6 p n t l Q from by rw[hQ];rfl];rw[<- hQ]at hr;refine J.qp (a1l n t l p Q _ mm hQO hmm) [1,2,3,4] λ_=>?_;dsimp only at hst;generalize Q.room=W at hst hr ⊢;obtain⟨P,er⟩:=W;dsimp only at hst hr ⊢;refine J.qd (λ_ h2=>?_) λ_ h2=>?_
 ·simp only[bne_iff_ne,ne_eq]at h2;rw[if_pos h2]at hst;refine J.qr [1,2,3,4] λ_=>?_;rw[hst];exact⟨rfl,rfl⟩
 simp only[bne_eq_false_iff_eq]at h2;rw[if_neg (by rw[h2];decide)]at hst;have hPb:=hr.1.gd.ok.bd16;have hPt:=hr.1.t.b;have hlog:=hr.1.T.log;have hLl:=H9 (Q1 P.t P.T) (-1) P.t.b;refine J.qc (a9d t P.t (by omega) hr.1.t.len l P.T P.T.logical.toNat (by omega) (by omega)) [3,4] λ_=>?_;rintro v As ⟨a,c,rfl,rfl⟩;refine⟨_,rfl,trivial,?_⟩;have hh:g7 (Q1 P.t P.T) (-1) P.t.b=P.hurts:=rfl;rw[hh]at hLl ⊢;generalize P.hurts=L at hst hLl ⊢;cases L with
 | nil=>
  refine J.qT λ_=>?_;refine J.qr [1,2,3,4] λ_=>?_;rw[hst];exact⟨rfl,rfl⟩
 | cons b L=>
  refine J.know (λh' s=>j7 (c:=(a,c)) (by simp) (s.get (i:=5) rfl)) λhg=>?_;obtain⟨g,rfl⟩:=hg;refine J.q λ_=>?_;refine J.cond rfl (λh=>absurd h (by rw[beq_iff_eq,List.length_cons];omega)) (λ_=>?_);refine J.q λ_=>?_;refine J.v (iI b) rfl rfl (λhg aa w he hw=>m7 tk rfl rfl he rfl rfl rfl (hw.get (i:=5) rfl) rfl) ?_;dsimp only at hst;refine J.qp (a3C n t l p P _ mm hr.1 b most) [1,2,3,4] λ_=>?_;refine J.qr [1,2,3,4] λ_=>?_;rw[hst];exact⟨rfl,rfl⟩
end Go.Proofs.YtgkpkpbnonmopaaGreat
namespace Go.Proofs.YtgkpkpbnonmopaaGreat
open Go.RowKit
set_option maxRecDepth 100000 in
theorem b8g (w:World):Calls Tryz.prog 327 #[.int .i64 (-1)] w λe w'=>e= .returned (.int .u64 1)/\w=w':=by
 go_enter Tryz.func327,Tryz.ntmps327
 go_wp2
 go_ret
 exact⟨by kernel_rfl,rfl⟩
set_option maxRecDepth 100000 in
theorem b8j (w:World):Calls Tryz.prog 328 #[.int .u64 1] w λe w'=>e= .returned (.int .i64 (-1))/\w=w':=by
 go_enter Tryz.func328,Tryz.ntmps328
 go_wp2
 go_ret
 exact⟨by kernel_rfl,rfl⟩
set_option maxRecDepth 100000 in
theorem b3D (w:World):Calls Tryz.prog 329 #[.int .i64 255, .int .i64 8] w λe w'=>e= .returned (.int .i64 (-1))/\w=w':=by
 go_enter Tryz.func329,Tryz.ntmps329
 go_wp2
 go_ret
 exact⟨by kernel_rfl,rfl⟩
set_option maxRecDepth 100000 in
theorem b3C (w:World):Calls Tryz.prog 329 #[.int .i64 1, .int .i64 0] w λe w'=>e= .returned (.int .i64 0)/\w=w':=by
 go_enter Tryz.func329,Tryz.ntmps329
 go_wp2
 go_ret
 exact⟨by kernel_rfl,rfl⟩
end Go.Proofs.YtgkpkpbnonmopaaGreat
namespace Go.Proofs.YtgkpkpbnonmopaaGreat
open Go Go.RowKit
def nk (k:Nat):Nat:=match k with | 0=>0 | _+1=>1
def vb (k:Nat):Int:=match k with | 0=>0 | 1=>128 | 2=>128 | _=>160
def vq (k:Nat):Int:=match k with | 0=>0 | _=>128
def vl (k:Nat):List Value:=match k with | 0=>[] | k+1=>[.int .u8 (vb (k+1))]
theorem b0A (n:Int):FP 277 [iI n] [] (λv As=>v= .bool (decide (n>=1)&&decide (n<=64))/\As=[]):=by
 refine FE [0] Tryz.func277 λX F hX=>?_;exact J.qx []
theorem b8b (g:Nat):FP 261 [pp g, .int .u64 5,iI 3] [.pt g 320 [.slice none 0 0,iI 0]]
  (λv As=>v= .bool true/\∃a cap,As=[.pt g 320 [slv a 1 cap,iI 3],c9 5 1 a 1 cap [.int .u8 160]]):=by
 refine FE [2,0,0] Tryz.func261 λX F hX=>?_;refine J.qp (b0A 3) [] λ_=>?_;refine J.qF λ_=>?_;refine J.turn1 [] rfl (As:=[c9 5 1 none 0 0 (vl 0)]) (λh s=>Sep.one ⟨rfl,rfl,rfl⟩) rfl ?_;refine J.q λ_=>?_;refine J.lo (α:=(Nat×Option Nat×Nat)) (λz=>z.1<=3) (λz=>[si 7 (2-z.1),⟨0,pp g,2, .tt⟩,⟨1, .int .u64 5,0, .tt⟩]) [1,2] (λz=>[.pt g 320 [slv z.2.1 (nk z.1) z.2.2,iI z.1],c9 5 1 z.2.1 (nk z.1) z.2.2 (vl z.1)]) (λz=>3-z.1) ((0,none,0)) (Nat.zero_le _) rfl ?_ (λ_=>rfl) λz hI=>?_
 ·rfl
 obtain⟨k,a,cap⟩:=z;dsimp only at hI ⊢;rcases(by omega:k=0\/k=1\/k=2\/k=3)with rfl | rfl | rfl | rfl
 ·--bit 0
  refine J.qT λ_=>?_;refine J.qT λ_=>?_;refine J.q λ_=>?_;refine J.append hX tk 2 3 0 rfl rfl rfl rfl rfl rfl rfl rfl rfl rfl rfl rfl rfl rfl rfl rfl (by decide) (by decide) (λ_=>rfl) λa cap=>⟨_,rfl,trivial,?_⟩;refine J.know (λh' s=>j7 (c:=(a,cap)) (by decide) (s.get (i:=2) rfl)) λhg=>?_;obtain⟨ga,rfl⟩:=hg;refine J.openOwn 2 rfl rfl (λ_=>rfl) λr q1 q2 q3 q4=>?_;refine J.pq (.of [0,4,8,13,16,20,24,29,32,36,41,44,48,52,56,60,64,68,72,77,80,84,88,92,96,103]) [24,25] [1,2] λ_ _=>?_;refine J.vT (.int .u8 (vq 0)) rfl rfl (λhg a w he hC=>?_) ?_
  ·exact j5 tk rfl rfl he hg rfl rfl (hC rfl _ (i9 (i:=2) rfl)) rfl
  refine J.q λ_=>?_;refine J.s1 2 (.int .u8 (vb 1)::r) ?_ ?_ ?_
  ·exact Nat.succ_pos _
  ·rfl
  refine J.closeOwn (e:=5) (size:=1) (n:=1) (cap:=cap) (xs:=[.int .u8 (vb 1)]) 2 rfl rfl rfl q2 q3 (by rw[List.length_cons,Nat.add_comm];exact q4) rfl rfl ?_;refine J.q λ_=>?_;refine J.nS ((1,some ga,cap)) (by dsimp only;omega) (by dsimp only;omega) [0,1,2] rfl rfl
 ·--bit 1
  refine J.qT λ_=>?_;refine J.qF λ_=>?_;refine J.know (λh' s=>j7 (c:=(a,cap)) (by decide) (s.get (i:=2) rfl)) λhg=>?_;obtain⟨ga,rfl⟩:=hg;refine J.openOwn 2 rfl rfl (λ_=>rfl) λr q1 q2 q3 q4=>?_;refine J.pq (.of [0,4,8,13,16,20,24,29,32,36,41,44,48,52,56,60,64,68,72,77,80,84,88,92,96,103]) [24,25] [1,2] λ_ _=>?_;refine J.vT (.int .u8 (vq 1)) rfl rfl (λhg a w he hC=>?_) ?_
  ·exact j5 tk rfl rfl he hg rfl rfl (hC rfl _ (i9 (i:=2) rfl)) rfl
  refine J.q λ_=>?_;refine J.s1 2 (.int .u8 (vb 2)::r) ?_ ?_ ?_
  ·exact Nat.succ_pos _
  ·rfl
  refine J.closeOwn (e:=5) (size:=1) (n:=1) (cap:=cap) (xs:=[.int .u8 (vb 2)]) 2 rfl rfl rfl q2 q3 (by rw[List.length_cons,Nat.add_comm];exact q4) rfl rfl ?_;refine J.q λ_=>?_;refine J.nS ((2,some ga,cap)) (by dsimp only;omega) (by dsimp only;omega) [0,1,2] rfl rfl
 ·--bit 2
  refine J.qT λ_=>?_;refine J.qF λ_=>?_;refine J.know (λh' s=>j7 (c:=(a,cap)) (by decide) (s.get (i:=2) rfl)) λhg=>?_;obtain⟨ga,rfl⟩:=hg;refine J.openOwn 2 rfl rfl (λ_=>rfl) λr q1 q2 q3 q4=>?_;refine J.pq (.of [0,4,8,13,16,20,24,29,32,36,41,44,48,52,56,60,64,68,72,77,80,84,88,92,96,103]) [24,25] [1,2] λ_ _=>?_;refine J.vT (.int .u8 (vq 2)) rfl rfl (λhg a w he hC=>?_) ?_
  ·exact j5 tk rfl rfl he hg rfl rfl (hC rfl _ (i9 (i:=2) rfl)) rfl
  refine J.q λ_=>?_;refine J.s1 2 (.int .u8 (vb 3)::r) ?_ ?_ ?_
  ·exact Nat.succ_pos _
  ·rfl
  refine J.closeOwn (e:=5) (size:=1) (n:=1) (cap:=cap) (xs:=[.int .u8 (vb 3)]) 2 rfl rfl rfl q2 q3 (by rw[List.length_cons,Nat.add_comm];exact q4) rfl rfl ?_;refine J.q λ_=>?_;refine J.nS ((3,some ga,cap)) (by dsimp only;omega) (by dsimp only;omega) [0,1,2] rfl rfl
 ·refine J.qF λ_=>?_;refine J.qr [1,2] λ_=>?_;exact⟨rfl,a,cap,rfl⟩
theorem b8a (g:Nat) (a:Option Nat) (cap:Nat):FP 261 [pp g, .int .u64 2,iI 1] [.pt g 320 [slv a 1 cap,iI 3]]
  (λv As=>v= .bool false/\As=[.pt g 320 [slv a 1 cap,iI 3]]):=by
 refine FE [2,0,0] Tryz.func261 λX F hX=>?_;refine J.qp (b0A 1) [] λ_=>?_;refine J.qT λ_=>?_;exact J.qx [1]
theorem b8L (g:Nat) (a:Option Nat) (m cap:Nat) (k:Int):FP 331 [pp g] [.pt g 320 [slv a m cap,iI k]]
  (λv As=>v=iI k/\As=[.pt g 320 [slv a m cap,iI k]]):=by
 refine FE [2] Tryz.func331 λX F hX=>?_;refine J.qF λ_=>?_;exact J.qx [1]
theorem b2p (a:Option Nat) (n cap:Nat) (l:List Value) (hl:l.length=n) (h1:∀u∈l,u.oneCell'=true) (hn:n<=1000000):FP 280 [slv a n cap] [c9 5 1 a n cap l]
  (λv As=>∃a' c',v=slv a' n c'/\As=[c9 5 1 a n cap l,c9 5 1 a' n c' l]):=by
 refine FE [0] Tryz.func280 λX F hX=>?_;cases a with
 | none=>
  refine J.know (λh' s=>(s.get (i:=1) rfl).2) λhn0=>?_;obtain⟨rfl,rfl⟩:=hn0;have:l=[]:=List.eq_nil_of_length_eq_zero hl;subst this;refine J.qT λ_=>?_;refine J.turn1 [] rfl (As:=[c9 5 1 none 0 0 []]) (λh s=>Sep.one ⟨rfl,rfl,rfl⟩) rfl ?_;refine J.qr [1,2] λ_=>?_;exact⟨none,0,rfl,rfl⟩
 | some g=>
  refine J.qF λ_=>?_;refine J.qn 5 λbb=>?_;refine J.closeOwn (e:=5) (size:=1) (n:=0) (cap:=0) (xs:=[]) 2 rfl rfl rfl (Nat.le_refl _) (Nat.zero_le _) rfl rfl rfl ?_;refine J.q λ_=>?_;refine J.appendR hX tk (a:=some (bb 0)) (n:=0) (cap:=0) (xs:=[]) (oo:=0) (Ay:=c9 5 1 (some g) n cap l) 2 1 0 rfl rfl rfl rfl rfl rfl rfl rfl rfl rfl (I0 _ _ (some g) _ _ _) rfl rfl rfl rfl h1 ?_ ?_ (λ_=>rfl) λa' c'=>⟨_,rfl,trivial,?_⟩
  ·simp only[maxLen];omega
  ·omega
  rw[Nat.zero_add n,List.nil_append];refine J.qr [1,2] λ_=>?_;exact⟨a',c',rfl,rfl⟩
theorem b6H (g:Nat) (a:Option Nat) (m cap:Nat) (k:Int) (l:List Value) (hl:l.length=m) (h1:∀u∈l,u.oneCell'=true) (hn:m<=1000000):FP 263 [pp g] [.pt g 320 [slv a m cap,iI k],c9 5 1 a m cap l]
  (λv As=>∃a' c',v=slv a' m c'/\As=[.pt g 320 [slv a m cap,iI k],c9 5 1 a m cap l,c9 5 1 a' m c' l]):=by
 refine FE [2] Tryz.func263 λX F hX=>?_;refine J.qF λ_=>?_;refine J.qc (b2p a m cap l hl h1 hn) [2] λ_=>?_;rintro v As ⟨a',c',rfl,rfl⟩;refine⟨_,rfl,trivial,?_⟩;refine J.qr [1,2,3] λ_=>?_;exact⟨a',c',rfl,rfl⟩
theorem b7Z (a:Option Addr) (n cap:Nat):FP 254 [.slice a n cap] [] (λv As=>∃g,v=pp g/\As=[.pt g 333 [.slice a n cap,iI 0]]):=by
 refine FE [0] Tryz.func254 λX F hX=>?_;refine J.q λbb=>?_;refine J.ru hX [1] ?_;exact⟨bb 0,rfl,rfl⟩
theorem a9F (g b:Nat) (k:Int) (h0:0<=k) (h1:k<=8):FP 278 [pp g] [.pt g 333 [.slice (some ⟨b,0,none⟩) 1 1,iI k]]
  (λv As=>v=iI (8-k)/\As=[.pt g 333 [.slice (some ⟨b,0,none⟩) 1 1,iI k]]):=by
 refine FE [2] Tryz.func278 λX F hX=>?_;refine J.qF λ_=>?_;refine J.p (.of [0,4,8,13,16,20,24,28,32,37,40,44]) [11] [1] λ_=>?_;exact J.qx [1]
theorem b8c (g b:Nat):FP 255 [pp g,iI 9] [.pt g 333 [.slice (some ⟨b,0,none⟩) 1 1,iI 4]]
  (λv As=>v= .tuple #[.int .u64 0, .bool false]/\As=[.pt g 333 [.slice (some ⟨b,0,none⟩) 1 1,iI 4]]):=by
 refine FE [2,0] Tryz.func255 λX F hX=>?_;refine J.qp (b0A 9) [] λ_=>?_;refine J.qp (a9F g b 4 (by decide) (by decide)) [1] λ_=>?_;refine J.qT λ_=>?_;exact J.qx [1]
def vg (k:Nat):Int:=match k with | 0=>0 | 1=>1 | 2=>2 | 3=>5 | _=>10
theorem b8d (g b:Nat):FP 255 [pp g,iI 4] [.pt g 333 [.slice (some ⟨b,0,none⟩) 1 1,iI 0], .pt b 5 [.int .u8 165]]
  (λv As=>v= .tuple #[.int .u64 10, .bool true]/\As=[.pt g 333 [.slice (some ⟨b,0,none⟩) 1 1,iI 4], .pt b 5 [.int .u8 165]]):=by
 refine FE [2,0] Tryz.func255 λX F hX=>?_;refine J.qp (b0A 4) [] λ_=>?_;refine J.qp (a9F g b 0 (by decide) (by decide)) [1] λ_=>?_;refine J.qF λ_=>?_;refine J.q λ_=>?_;refine J.lo (α:=Nat) (λk=>k<=4) (λk=>[⟨6, .int .u64 (vg k),0, .tt⟩,si 7 4,⟨0,pp g,2, .tt⟩]) [1] (λk=>[.pt g 333 [.slice (some ⟨b,0,none⟩) 1 1,iI k]]) (λk=>4-k) (0) (Nat.zero_le _) rfl ?_ (λ_=>rfl) λk hI=>?_
 ·rfl
 rcases(by omega:k=0\/k=1\/k=2\/k=3\/k=4)with rfl | rfl | rfl | rfl | rfl
 ·refine J.qT λ_=>?_;refine J.pq (.of [0,4,8,12,16,21,24,28,32,37,40,44,49,52,56,60,65,68,72,76,80,84,88,92]) [23] [1,2] λ_ _=>?_;refine J.vT (.int .u8 165) rfl rfl (λhg a w he hC=>?_) ?_
  ·exact j5 tk rfl rfl he hg rfl rfl (hC rfl _ (i9 (i:=2) rfl)) rfl
  refine J.q λ_=>?_;refine J.nS (1) (by omega) (by omega) [0,1,2] rfl rfl
 ·refine J.qT λ_=>?_;refine J.pq (.of [0,4,8,12,16,21,24,28,32,37,40,44,49,52,56,60,65,68,72,76,80,84,88,92]) [23] [1,2] λ_ _=>?_;refine J.vT (.int .u8 165) rfl rfl (λhg a w he hC=>?_) ?_
  ·exact j5 tk rfl rfl he hg rfl rfl (hC rfl _ (i9 (i:=2) rfl)) rfl
  refine J.q λ_=>?_;refine J.nS (2) (by omega) (by omega) [0,1,2] rfl rfl
 ·refine J.qT λ_=>?_;refine J.pq (.of [0,4,8,12,16,21,24,28,32,37,40,44,49,52,56,60,65,68,72,76,80,84,88,92]) [23] [1,2] λ_ _=>?_;refine J.vT (.int .u8 165) rfl rfl (λhg a w he hC=>?_) ?_
  ·exact j5 tk rfl rfl he hg rfl rfl (hC rfl _ (i9 (i:=2) rfl)) rfl
  refine J.q λ_=>?_;refine J.nS (3) (by omega) (by omega) [0,1,2] rfl rfl
 ·refine J.qT λ_=>?_;refine J.pq (.of [0,4,8,12,16,21,24,28,32,37,40,44,49,52,56,60,65,68,72,76,80,84,88,92]) [23] [1,2] λ_ _=>?_;refine J.vT (.int .u8 165) rfl rfl (λhg a w he hC=>?_) ?_
  ·exact j5 tk rfl rfl he hg rfl rfl (hC rfl _ (i9 (i:=2) rfl)) rfl
  refine J.q λ_=>?_;refine J.nS (4) (by omega) (by omega) [0,1,2] rfl rfl
 ·refine J.qF λ_=>?_;exact J.qx [1,2]
theorem b8Q:FP 264 [.slice none 0 0] [] (λv As=>v= .int .u32 4294967295/\As=[]):=by
 refine FE [0] Tryz.func264 λX F hX=>?_;refine J.q λ_=>?_;refine J.lo (α:=Nat) (λk=>k<=0) (λk=>[si 8 0,si 7 0,⟨3, .int .u32 4294967295,0, .tt⟩]) [] (λk=>[]) (λk=>0) (0) (Nat.zero_le _) rfl ?_ (λ_=>rfl) λk hI=>?_
 ·rfl
 refine J.qF λ_=>?_;exact J.qx []
theorem b7E:FP 281 [.int .u32 0, .int .u8 128] [] (λv As=>v= .int .u32 (K.step 0 128:Nat)/\As=[]):=Fn.of_same (a5D 0 128 (by decide) (by decide))
theorem b8k:FP 327 [iI (-1)] [] (λv As=>v= .int .u64 1/\As=[]):=Fn.of_same b8g
theorem b8l:FP 328 [.int .u64 1] [] (λv As=>v=iI (-1)/\As=[]):=Fn.of_same b8j
theorem b0F:FP 329 [iI 255,iI 8] [] (λv As=>v=iI (-1)/\As=[]):=Fn.of_same b3D
theorem b0E:FP 329 [iI 1,iI 0] [] (λv As=>v=iI 0/\As=[]):=Fn.of_same b3C
theorem b7c:FP 330 [.int .u32 1,iI 33] [] (λv As=>v= .int .u32 2/\As=[]):=by
 refine FE [0,0] Tryz.func330 λX F hX=>?_;refine J.p (.of [0,4,8,12,16,20,24,28,32]) [7,8] [] λ_=>?_;exact J.qx []
theorem b3Z:FP 325 [] [] (λv As=>v= .bool true/\As=[]):=by
 refine FE [] Tryz.func325 λX F hX=>?_;refine J.q λb1=>?_;refine J.cb (b8b (b1 0)) [1] ?_;rintro v As ⟨rfl,a,cap,rfl⟩;refine⟨_,rfl,trivial,?_⟩;refine J.qp (b8a (b1 0) a cap) [1] λ_=>?_;refine J.q λb2=>?_;refine J.cb (b7Z (some ⟨b2 0,0,none⟩) 1 1) [] ?_;rintro v As ⟨g,rfl,rfl⟩;refine⟨_,rfl,trivial,?_⟩;refine J.qp (b8d g (b2 0)) [4,3] λ_=>?_;refine J.qp (b8c g (b2 0)) [4] λ_=>?_;refine J.qc (b6H (b1 0) a 1 cap 3 [.int .u8 160] rfl (by decide) (by decide)) [1,2] λ_=>?_;rintro v As ⟨a2,c2,rfl,rfl⟩;refine⟨_,rfl,trivial,?_⟩;refine J.know (λh' s=>j7 (c:=(a2,c2)) (by decide) (s.get (i:=5) rfl)) λhg=>?_;obtain⟨g2,rfl⟩:=hg;refine J.qp (b8k) [] λ_=>?_;refine J.qp (b8l) [] λ_=>?_;refine J.qp (b0F) [] λ_=>?_;refine J.qp (b0E) [] λ_=>?_;refine J.qp (b7c) [] λ_=>?_;refine J.qp (b8L (b1 0) a 1 cap 3) [1] λ_=>?_;refine J.q λ_=>?_;refine J.v (.int .u8 160) rfl rfl (λhg a w he hw=>?_) ?_
 ·exact m7 tk rfl rfl he hg rfl rfl (hw.get (i:=5) rfl) rfl
 refine J.qp (a9F g (b2 0) 4 (by decide) (by decide)) [4] λ_=>?_;refine J.qp (b8Q) [] λ_=>?_;refine J.qp (b7E) [] λ_=>?_;refine J.qp (b0r 3) [] λ_=>?_;refine J.qp (b9b 6 0 (by decide) (by decide)) [] λ_=>?_;refine J.qp (b7D 6 2) [] λ_=>?_;refine J.qp (b6e 6) [] λ_=>?_;refine J.qr [] λ_=>?_;exact⟨by kernel_rfl,rfl⟩
theorem b4a:FP 321 [] [] (λv As=>v= .bool true/\As=[]):=by
 refine FE [] Tryz.func321 λX F hX=>?_;refine J.qp (b3Z) [] λ_=>?_;exact J.qx []
theorem a2h (d b p:Nat) (h:n9 d b p=true):FP 66 [.agg #[iI d,iI b,iI p]] [] (λv As=>v=iI ((((b:Int)-5)*p*((d:Int)-2)+1).tdiv 2)/\As=[]):=by
 have hbd:(3<=d/\d<=6)/\(8<=b/\b<=16)/\(2<=p/\p<=8):=by simp[n9]at h;omega
 have h1:0<=((b:Int)-5)*p/\((b:Int)-5)*p<=88:=by
  refine⟨Int.mul_nonneg (by omega) (by omega),?_⟩;have:((b:Int)-5)*p<=11*8:=Int.mul_le_mul (by omega) (by omega) (by omega) (by omega);omega
 have h2:0<=((b:Int)-5)*p*((d:Int)-2)/\((b:Int)-5)*p*((d:Int)-2)<=352:=by
  refine⟨Int.mul_nonneg h1.1 (by omega),?_⟩;have:((b:Int)-5)*p*((d:Int)-2)<=88*4:=Int.mul_le_mul h1.2 (by omega) (by omega) (by omega);omega
 have h3: -1<=(((b:Int)-5)*p*((d:Int)-2)+1).tdiv 2/\(((b:Int)-5)*p*((d:Int)-2)+1).tdiv 2<=1000:=by
  generalize((b:Int)-5)*p*((d:Int)-2)=x at h2;rw[Int.tdiv_eq_ediv_of_nonneg (by omega)];omega
 refine FE [0] Tryz.func66 λX F hX=>?_;refine J.qp (a2N d b p) [] λ_=>?_;rw[h];refine J.qF λ_=>?_;exact J.qx []
theorem b3W:FP 309 [] [] (λv As=>v= .bool true/\As=[]):=by
 refine FE [] Tryz.func309 λX F hX=>?_;refine J.qp (b4a) [] λ_=>?_;refine J.qp (a2N 3 8 2) [] λ_=>?_;rw[show n9 3 8 2=true from rfl];refine J.qp (a2N 0 0 0) [] λ_=>?_;rw[show n9 0 0 0=false from rfl];refine J.qp (a8p 3 8 2 2 7 1 (by decide) (by decide) (by decide)) [] λ_=>?_;rw[show C3 3 8 2 2 7 1=true from rfl];refine J.qp (a8p 3 8 2 3 0 0 (by decide) (by decide) (by decide)) [] λ_=>?_;rw[show C3 3 8 2 3 0 0=false from rfl];refine J.qp (W0 7 1 1) [] λ_=>?_;rw[show G.parity 7 1 1=2 from by kernel_rfl];refine J.qp (L9 7) [] λ_=>?_;rw[show G.slots 7=2 from by kernel_rfl];refine J.qp (b0t 7 0 0 0 (by decide) (by decide)) [] λ_=>?_;rw[show G.die 7 0 0 0=1 from by kernel_rfl];refine J.qp (b4w 7 0 0 2) [] λ_=>?_;rw[show G.slot 7 0 0 2=1 from by kernel_rfl];refine J.qp (b4w 7 0 0 0) [] λ_=>?_;rw[show G.slot 7 0 0 0= -1 from by kernel_rfl];refine J.qp (a2h 3 8 2 rfl) [] λ_=>?_;refine J.qr [] λ_=>?_;exact⟨by kernel_rfl,rfl⟩
theorem a8f:FP 301 [] [] (λv As=>v= .bool true/\As=[]):=by
 refine FE [] Tryz.func301 λX F hX=>?_;refine J.qp (b3W) [] λ_=>?_;exact J.qx []
def ft (a k d n x:Int):List Value:=[iI a,iI k,iI d,iI 0,iI 0,iI n,iI x]
theorem b7n:FP 148 [.agg #[iI 3,iI 8,iI 2], .agg (ft 3 4 2 0 0).toArray] [] (λv As=>v= .bool true/\As=[]):=by
 refine FE [0,0] Tryz.func148 λX F hX=>?_;refine J.qT λ_=>?_;refine J.qp (a8p 3 8 2 2 0 0 (by decide) (by decide) (by decide)) [] λ_=>?_;exact J.qx []
theorem b7m:FP 148 [.agg #[iI 3,iI 8,iI 2], .agg (ft (-1) 0 0 0 0).toArray] [] (λv As=>v= .bool false/\As=[]):=by
 refine FE [0,0] Tryz.func148 λX F hX=>?_;refine J.qT λ_=>?_;refine J.q λ_=>?_;refine J.v (.bool false) rfl rfl (λhg a w he hw=>absurd hg (by decide)) ?_;exact J.qx []
theorem b5H (a:Option Addr) (c:Nat) (d:Value):FP 249 [.slice a 1 c,iI 0,iI 1,d] [] (λv As=>v= .tuple #[]/\As=[]):=by
 refine FE [0,0,0,0] Tryz.func249 λX F hX=>?_;refine J.q λ_=>?_;refine J.lo (α:=Nat) (λk=>True) (λk=>[si 8 1,si 2 1]) [] (λk=>[]) (λk=>0) (0) (trivial) rfl ?_ (λ_=>rfl) λk hI=>?_
 ·rfl
 refine J.qF λ_=>?_;refine J.q λ_=>?_;refine J.f [] ?_;exact⟨rfl,rfl⟩
theorem b3d (a:Option Addr) (c:Nat) (d:Value):FP 209 [.slice a 1 c,iI 1,d] [] (λv As=>v= .tuple #[]/\As=[]):=by
 refine FE [0,0,0] Tryz.func209 λX F hX=>?_;refine J.q λ_=>?_;refine J.lo (α:=Nat) (λk=>True) (λk=>[si 8 20,si 6 20,si 7 0,sv 0 (.slice a 1 c),si 1 1,sv 2 d]) [] (λk=>[]) (λk=>0) (0) (trivial) rfl ?_ (λ_=>rfl) λk hI=>?_
 ·rfl
 refine J.qF λ_=>?_;refine J.qp (b5H a c d) [] λ_=>?_;refine J.q λ_=>?_;refine J.lo (α:=Nat) (λk=>True) (λk=>[si 6 20,si 1 1]) [] (λk=>[]) (λk=>0) (0) (trivial) rfl ?_ (λ_=>rfl) λk hI=>?_
 ·rfl
 refine J.qF λ_=>?_;refine J.q λ_=>?_;refine J.f [] ?_;exact⟨rfl,rfl⟩
theorem a6x (a:Option Addr) (c:Nat) (d:Value):FP 149 [.slice a 1 c,d] [] (λv As=>v= .tuple #[]/\As=[]):=by
 refine FE [0,0] Tryz.func149 λX F hX=>?_;refine J.qp (b3d a c d) [] λ_=>?_;refine J.q λ_=>?_;refine J.f [] ?_;exact⟨rfl,rfl⟩
def fk (k:Nat):List Value:=match k with | 0=>[] | _=>ft 3 4 2 0 0
theorem b8E (g:Nat):FP 92 [.agg #[iI 3,iI 8,iI 2], .slice (some ⟨g,0,none⟩) 2 2] [.pt g 54 (ft 3 4 2 0 0++ft (-1) 0 0 0 0)]
  (λv As=>∃p a c,v=pp p/\As=[.pt p 232 [slv a 1 c],c9 54 7 a 1 c (ft 3 4 2 0 0)]):=by
 refine FE [0,2] Tryz.func92 λX F hX=>?_;refine J.q λbb=>?_;refine J.turn1 [] rfl (As:=[c9 54 7 none 0 0 (fk 0)]) (λh s=>Sep.one ⟨rfl,rfl,rfl⟩) rfl ?_;refine J.q λ_=>?_;refine J.lo (α:=(Nat×Option Nat×Nat)) (λz=>z.1<=2) (λz=>[si 12 z.1,si 11 2,⟨10, .slice (some ⟨g,0,none⟩) 2 2,2, .tt⟩,⟨2,pp (bb 0),3, .tt⟩,⟨5,pp (bb 1),4, .tt⟩]) [3,4] (λz=>[.pt (bb 1) 232 [slv z.2.1 (nk z.1) z.2.2],c9 54 7 z.2.1 (nk z.1) z.2.2 (fk z.1)]) (λz=>2-z.1) ((0,none,0)) (Nat.zero_le _) rfl ?_ (λ_=>rfl) λz hI=>?_
 ·rfl
 obtain⟨k,a,c⟩:=z;dsimp only at hI ⊢;rcases(by omega:k=0\/k=1\/k=2)with rfl | rfl | rfl
 ·refine J.qT λ_=>?_;refine J.q λ_=>?_;refine J.v (.agg (ft 3 4 2 0 0).toArray) rfl rfl (λhg a w he hw=>m6 tk rfl rfl he rfl rfl rfl (hw.get (i:=1) rfl) rfl rfl) ?_;refine J.qp (b7n) [] λ_=>?_;refine J.qT λ_=>?_;refine J.pq (.of [0,4,8,12,17,21,26,30,32,36,43]) [8,9,10] [3,5] λ_ _=>?_;refine J.append hX tk 4 6 0 rfl rfl rfl rfl rfl rfl rfl rfl rfl rfl rfl rfl rfl rfl rfl rfl (by decide) (by decide) (λ_=>rfl) λa2 c2=>⟨_,rfl,⟨rfl,rfl,trivial⟩,?_⟩;refine J.q λ_=>?_;refine J.nS ((1,a2,c2)) (by dsimp only;omega) (by dsimp only;omega) [0,1,2,3,4] rfl rfl
 ·refine J.qT λ_=>?_;refine J.q λ_=>?_;refine J.v (.agg (ft (-1) 0 0 0 0).toArray) rfl rfl (λhg a w he hw=>m6 tk rfl rfl he rfl rfl rfl (hw.get (i:=1) rfl) rfl rfl) ?_;refine J.qp (b7m) [] λ_=>?_;refine J.qF λ_=>?_;refine J.q λ_=>?_;refine J.nS ((2,a,c)) (by dsimp only;omega) (by dsimp only;omega) [0,1,2,3,4] rfl rfl
 ·refine J.qF λ_=>?_;refine J.qp (a6x (oad a) c (.func (.func 150) #[] #[])) [] λ_=>?_;refine J.qr [3,4] λ_=>?_;exact⟨bb 1,a,c,rfl,rfl⟩
theorem b7o (p:Nat) (a:Option Addr) (n c:Nat):FP 302 [pp p] [.pt p 232 [.slice a n c]] (λv As=>v=iI n/\As=[.pt p 232 [.slice a n c]]):=by
 refine FE [2] Tryz.func302 λX F hX=>?_;refine J.qF λ_=>?_;exact J.qx [1]
theorem b7p (g:Nat):FP 303 [.slice (some ⟨g,0,none⟩) 1 1] [.pt g 54 (ft 0 0 2 0 0)] (λv As=>v=iI 4/\As=[]):=by
 refine FE [2] Tryz.func303 λX F hX=>?_;refine J.q λ_=>?_;refine J.lo (α:=Nat) (λk=>k<=1) (λk=>[si 8 k,si 7 1,⟨6, .slice (some ⟨g,0,none⟩) 1 1,2, .tt⟩,si 3 (4*k)]) [] (λk=>[]) (λk=>1-k) (0) (Nat.zero_le _) rfl ?_ (λ_=>rfl) λk hI=>?_
 ·rfl
 rcases(by omega:k=0\/k=1)with rfl | rfl
 ·refine J.qT λ_=>?_;refine J.q λ_=>?_;refine J.v (.agg (ft 0 0 2 0 0).toArray) rfl rfl (λhg a w he hw=>m6 tk rfl rfl he rfl rfl rfl (hw.get (i:=1) rfl) rfl rfl) ?_;refine J.qp (a6H 0 2) [] λ_=>?_;refine J.q λ_=>?_;refine J.nS (1) (by omega) (by omega) [0,1] rfl rfl
 ·refine J.qF λ_=>?_;exact J.qx []
theorem b5I (g c:Nat):FP 211 [slv (some g) 1 c] [c9 54 7 (some g) 1 c (ft 3 4 2 0 0)]
  (λv As=>∃a' c',v=slv a' 1 c'/\As=[c9 54 7 (some g) 1 c (ft 3 4 2 0 0),c9 54 7 a' 1 c' (ft 3 4 2 0 0)]):=by
 refine FE [0] Tryz.func211 λX F hX=>?_;refine J.qF λ_=>?_;refine J.qn 5 λbb=>?_;refine J.closeOwn (e:=54) (size:=7) (n:=0) (cap:=0) (xs:=[]) 2 rfl rfl rfl (Nat.le_refl _) (Nat.zero_le _) rfl rfl rfl ?_;refine J.q λ_=>?_;refine J.appendR hX tk (a:=some (bb 0)) (n:=0) (cap:=0) (xs:=[]) (oo:=0) (Ay:=c9 54 7 (some g) 1 c (ft 3 4 2 0 0)) 2 1 0 rfl rfl rfl rfl rfl rfl rfl rfl rfl rfl (I0 _ _ (some g) _ _ _) rfl rfl rfl rfl (by decide) (by decide) (by decide) (λ_=>rfl) λa' c'=>⟨_,rfl,trivial,?_⟩;refine J.qr [1,2] λ_=>?_;exact⟨a',c',rfl,rfl⟩
theorem b8F (p g c:Nat):FP 152 [pp p,iI 3] [.pt p 232 [slv (some g) 1 c],c9 54 7 (some g) 1 c (ft 3 4 2 0 0)]
  (λv As=>∃x a' c',v=slv a' 1 c'/\As=[.pt p 232 [x],c9 54 7 (some g) 1 c (ft 3 4 2 0 0),c9 54 7 a' 1 c' (ft 3 4 2 0 0)]):=by
 refine FE [2,0] Tryz.func152 λX F hX=>?_;refine J.know (p:=1<=c) (λh' s=>by obtain⟨_,cur,h1,h2,_⟩:=s.get (i:=2) rfl;exact h2) λhc=>?_;refine J.qF λ_=>?_;refine J.q λ_=>?_;refine J.lo (α:=Nat) (λk=>k<=1) (λk=>[si 5 k,⟨0,pp p,2, .tt⟩,si 1 3]) [] (λk=>[]) (λk=>1-k) (0) (Nat.zero_le _) rfl ?_ (λ_=>rfl) λk hI=>?_
 ·rfl
 rcases(by omega:k=0\/k=1)with rfl | rfl
 ·refine J.q λ_=>?_;refine J.v (iI 3) rfl rfl (λhg a w he hw=>m7 tk rfl rfl he hg rfl rfl (hw.get (i:=2) rfl) rfl) ?_;refine J.qT λ_=>?_;refine J.q λ_=>?_;refine J.nS (1) (by omega) (by omega) [0,1,2] rfl rfl
 ·refine J.q λ_=>?_;refine J.v (iI 3) rfl rfl (λhg a w he hw=>absurd hg (by decide)) ?_;refine J.qF λ_=>?_;refine J.qc (b5I g c) [2] λ_=>?_;rintro v As ⟨a',c',rfl,rfl⟩;refine⟨_,rfl,trivial,?_⟩;refine J.qn 10 λ_=>?_;refine J.v (.slice (if c=1 then some ⟨g,0,none⟩else some ⟨g,7,none⟩) 0 (c-1)) rfl rfl (λhg a w he hw=>?_) ?_
  ·have e1:=j6 he (x:= .tmp 41) (s:=sv 41 (slv (some g) 1 c)) rfl;have e2:=j6 he (x:= .tmp 42) (s:=⟨42,iI ((1:Nat):Int),0, .tt⟩) rfl;simp only[Slot.val,G.on]at e1 e2;obtain⟨d,f,zv,ok⟩:=j3 (tk.get (t:=78) rfl);obtain⟨fe,rfl,g1,g2⟩:=ok.slice rfl;simp only[execOp,Option.map_some,Option.map_none,e1,e2,slv,Instr.sliceAt,Instr.slice,Instr.sliceBounds,Instr.sliceBound,asIntOf,Sem.run_bind,Sem.run_pure,Result.andThen_ok,d7 ok.hd,n5 g1,g2]
   by_cases h:c=1
   ·subst h;simp
   ·simp[h,Addr.add_none]
  refine J.qr [1,2,3] λ_=>?_;exact⟨_,a',c',rfl,rfl⟩
theorem b8D (p g c q:Nat) (N:Nand) (hN:N.Ok) (ho:N.ops=3):FP 93 [pp p,pp q] [.pt p 232 [slv (some g) 1 c],c9 54 7 (some g) 1 c (ft 3 4 2 0 0),j4 q N]
  (λv As=>v=iI 1/\As=[.emp, .emp,j4 q (N.fault 4 2 0 0 0 0).2]):=by
 refine FE [2,0] Tryz.func93 λX F hX=>?_;refine J.qp (b0i q N) [3] λ_=>?_;rw[ho];refine J.qc (b8F p g c) [1,2] λ_=>?_;rintro v As ⟨x,a',c',rfl,rfl⟩;refine⟨_,rfl,trivial,?_⟩;refine J.know (λh' s=>j7 (c:=(a',c')) (by decide) (s.get (i:=4) rfl)) λhg=>?_;obtain⟨g',rfl⟩:=hg;refine J.q λ_=>?_;refine J.lo (α:=Nat) (λk=>k<=1) (λk=>[si 14 k,si 13 1,sv 12 (slv (some g') 1 c'),sv 5 (slv (some g') 1 c'),sp 1 q]) [3] (λk=>[j4 q (if k=0 then N else(N.fault 4 2 0 0 0 0).2)]) (λk=>1-k) (0) (Nat.zero_le _) rfl ?_ (λ_=>rfl) λk hI=>?_
 ·rfl
 rcases(by omega:k=0\/k=1)with rfl | rfl
 ·refine J.qT λ_=>?_;refine J.q λ_=>?_;refine J.v (.agg (ft 3 4 2 0 0).toArray) rfl rfl (λhg a w he hw=>r9 tk rfl rfl he rfl rfl rfl (hw.get (i:=4) rfl) rfl rfl) ?_;refine J.qp (a0A q N hN 3 4 2 0 0 0 0) [3] λ_=>?_;refine J.q λ_=>?_;refine J.nS (1) (by omega) (by omega) [0,1,2,3,4] rfl rfl
 ·refine J.qF λ_=>?_;refine J.turn1 [1,2] rfl (As:=[.emp, .emp]) (λh s=>⟨λ_=>0,λi A hA=>by
   match i,hA with
   | 0,hA=>simp at hA;subst hA;trivial
   | 1,hA=>simp at hA;subst hA;trivial
   | k+2,hA=>simp at hA⟩) rfl ?_
  exact J.qx [1,2,3]
def SpS (q:Nat) (l:List (A3×Value)):Atom:=exA λmr:Nat=>[.pt q 367 [.map (some mr)],B6 mr a3v l]
theorem a7q:Tryz.prog.underlying 365=some (.map 52 9):=by kernel_rfl
def sE:Value:= .string ⟨#[]⟩
theorem b8h (w:World):(zeroValue 9).run Tryz.prog w= .ok sE w:=by kernel_rfl
theorem b8r:FP 313 [] [] (λv As=>∃q,v=pp q/\As=[SpS q []]):=by
 refine FE [] Tryz.func313 λX F hX=>?_;refine J.q λbs=>?_;refine J.turn1 [1] rfl (As:=[B6 (bs 0) a3v ([]:List (A3×Value))]) (λh s=>?_) rfl ?_
 ·refine⟨λ_=>0,λi A hA=>?_⟩;cases i with
  | zero=>simp at hA;subst hA;exact⟨#[],0,res_some.2 ⟨rfl,s.get (i:=0) rfl⟩,rfl,by simp,by simp⟩
  | succ k=>simp at hA
 refine J.cl (λmr:Nat=>[.pt (bs 1) 367 [.map (some mr)],B6 mr a3v ([]:List (A3×Value))]) (bs 0) [2,1] ?_;refine J.qr [2] λ_=>?_;exact⟨bs 1,rfl,rfl⟩
theorem b8s (q:Nat) (l:List (A3×Value)):FP 318 [pp q] [SpS q l] (λv As=>v=iI (l.length:Int)/\As=[SpS q l]):=by
 refine FE [2] Tryz.func318 λX F hX=>?_;refine J.o (α:=Nat) 1 λmr=>?_;refine J.qF λ_=>?_;refine J.q λ_=>?_;refine J.v (iI (l.length:Int)) rfl rfl (λhg a w he hw=>a2E a7q rfl rfl he rfl (hw.get (i:=2) rfl)) ?_;refine J.cl (λmr:Nat=>[.pt q 367 [.map (some mr)],B6 mr a3v l]) mr [1,2] ?_;exact J.qx [1]
theorem b6O (q:Nat) (l:List (A3×Value)) (x y z:Int):FP 315 [pp q, .agg #[iI x,iI y,iI z]] [SpS q l]
  (λv As=>v= .tuple #[(y8 l (x,y,z)).getD sE, .bool (y8 l (x,y,z)).isSome]/\As=[SpS q l]):=by
 refine FE [2,0] Tryz.func315 λX F hX=>?_;refine J.o (α:=Nat) 1 λmr=>?_;refine J.qF λ_=>?_;refine J.pq (.of [0,4,8,13,17,21,24,28,32,36,40]) [10] [1,2,3] λ_ _=>?_;refine J.vT (.tuple #[(y8 l (x,y,z)).getD sE, .bool (y8 l (x,y,z)).isSome]) rfl rfl (λ_ a w he hC=>?_) ?_
 ·exact(m9 (key:=(x,y,z)) K5 a7q (z:=sE) b8h rfl rfl rfl rfl he rfl rfl (hC rfl _ (i9 (i:=2) rfl))).trans rfl
 refine J.cl (λmr:Nat=>[.pt q 367 [.map (some mr)],B6 mr a3v l]) mr [1,2] ?_;exact J.qx [1]
theorem b6N (q:Nat) (l:List (A3×Value)) (x y z:Int) (b:ByteArray):FP 314 [pp q, .agg #[iI x,iI y,iI z], .string b] [SpS q l]
  (λv As=>v= .tuple #[]/\As=[SpS q (O5 l (x,y,z) (.string b))]):=by
 refine FE [2,0,0] Tryz.func314 λX F hX=>?_;refine J.o (α:=Nat) 1 λmr=>?_;refine J.qT λ_=>?_;refine J.pq (.of [0,4,8,13,17,20,27]) [6] [1,2,3] λ_ _=>?_;refine J.mapUpdate hX K5 a7q (x,y,z) 2 rfl rfl rfl rfl rfl rfl rfl rfl rfl rfl rfl rfl (λ_=>rfl) rfl ⟨trivial,?_⟩;refine J.cl (λmr:Nat=>[.pt q 367 [.map (some mr)],B6 mr a3v (O5 l (x,y,z) (.string b))]) mr [1,2] ?_;refine J.q λ_=>?_;refine J.f [1] ?_;exact⟨rfl,rfl⟩
theorem b2d {l:List (A3×Value)} {k:A3} (h:(y8 l k).isSome=false):a1b l k=l:=by
 refine a2L l k 0 ?_;have:=a4I l k 0;cases hf:fi l k 0 with
 | none=>rfl
 | some x=>rw[hf]at this;rw[<- this]at h;cases h
theorem b2I (q:Nat) (l:List (A3×Value)) (x y z:Int):FP 320 [pp q, .agg #[iI x,iI y,iI z]] [SpS q l]
  (λv As=>v= .bool (y8 l (x,y,z)).isSome/\As=[SpS q (a1b l (x,y,z))]):=by
 refine FE [2,0] Tryz.func320 λX F hX=>?_;refine J.qp (b6O q l x y z) [1] λ_=>?_;refine J.qd (λ_ h=>?_) λ_ h=>?_
 ·refine J.o (α:=Nat) 1 λmr=>?_;refine J.pq (.of [0,4,8,13,17,22]) [] [1,2] λ_ _=>?_;refine J.delete hX K5 a7q (x,y,z) 3 rfl rfl rfl rfl rfl rfl rfl rfl rfl rfl (λ_=>rfl) rfl ⟨⟨rfl,rfl,trivial⟩,?_⟩;refine J.cl (λmr:Nat=>[.pt q 367 [.map (some mr)],B6 mr a3v (a1b l (x,y,z))]) mr [1,3] ?_;exact J.qx [1]
 ·refine J.qr [1] λ_=>?_;exact⟨rfl,by rw[b2d h];rfl⟩
theorem a8Z {l:List (A3×Value)} {is:List Nat} {j:Nat} {y:A3×Value} (hy:l[j]? =some y):l8 (G9 (l.map (·.1)) is)++[iI y.1.1,iI y.1.2.1,iI y.1.2.2]=l8 (G9 (l.map (·.1)) (is++[j])):=by
 simp[l8,G9,hy]
theorem b6P (q:Nat) (l:List (A3×Value)) (hl:l.length<=12):FP 316 [pp q] [SpS q l]
  (λv As=>∃a cap l0 l',l0.Perm (l.map (·.1))/\l'=V9 a6z l0/\v=slv a l'.length cap/\As=[SpS q l,c9 52 3 a l'.length cap (l8 l')]):=by
 refine FE [2] Tryz.func316 λX F hX=>?_;refine J.o (α:=Nat) 1 λmr=>?_;refine J.qF λ_=>?_;refine J.q λ_=>?_;refine J.rangeMap hX 2 a7q rfl rfl rfl rfl rfl rfl rfl (λ_=>rfl) (λ_=>rfl) λr=>⟨trivial,?_⟩;refine J.turn1 [] rfl (As:=[c9 52 3 none 0 0 (l8 (G9 (l.map (·.1)) []))]) (λh s=>Sep.one ⟨rfl,rfl,rfl⟩) rfl ?_;refine J.q λ_=>?_;refine J.lo (α:=(List Nat×Option Nat×Nat)) (λx=>True) (λx=>[sp 11 r,sv 3 (slv x.2.1 x.1.length x.2.2)]) [2,3] (λx=>[itA mr r a3v l x.1,c9 52 3 x.2.1 x.1.length x.2.2 (l8 (G9 (l.map (·.1)) x.1))]) (λx=>l.length-x.1.length) (([],none,0)) (trivial) rfl ?_ (λ_=>rfl) λx hI=>?_
 ·rfl
 obtain⟨is,a,cap⟩:=x;dsimp only;refine J.q λ_=>?_;refine J.know (p:=is.Nodup/\∀i∈is,i<l.length) (λh s=>?_) λhk=>?_
 ·obtain⟨_,_,_,_,_,_,_,_,h1,h2,_⟩:=s.get (i:=2) rfl;exact⟨h1,h2⟩
 have hle:=a0i _ _ hk.1 hk.2;refine J.rangeNext hX 2 rfl rfl rfl rfl rfl rfl rfl (λ_=>rfl) (λ_=>rfl) (λhp=>⟨trivial,?_⟩) (λj y hj hy=>⟨trivial,?_⟩)
 ·refine J.qF λ_=>?_;refine J.qp (a3I 284 a6z (by kernel_rfl) a9W a is.length cap (G9 (l.map (·.1)) is) (by simp[G9]) (by omega)) [3] λ_=>?_;refine J.turn1 [2] rfl (As:=[B6 mr a3v l]) (λh s=>b4e s) rfl ?_;refine J.cl (λmr:Nat=>[.pt q 367 [.map (some mr)],B6 mr a3v l]) mr [1,2] ?_;refine J.qr [1,3] λ_=>?_;have hlen:is.length=(V9 a6z (G9 (l.map (·.1)) is)).length:=by rw[(I1 _ _).length_eq];simp[G9]
  refine⟨a,cap,G9 (l.map (·.1)) is,V9 a6z (G9 (l.map (·.1)) is),a3S (by rw[List.length_map];exact hp),rfl,?_,?_⟩
  ·rw[<- hlen]
  ·rw[<- hlen];rfl
 ·have hjl:j<l.length:=(List.getElem?_eq_some_iff.1 hy).1;refine J.qT λ_=>?_;refine J.q λ_=>?_;have hlt:(is++[j]).length<=l.length:=a0i _ _ (by
   rw[List.nodup_append];exact⟨hk.1,by simp,λa ha b hb=>by simp at hb;subst hb;rintro rfl;exact hj ha⟩) (λi hi=>by
   rw[List.mem_append]at hi;rcases hi with hi | hi
   ·exact hk.2 i hi
   ·simp at hi;subst hi;exact hjl)
  rw[List.length_append,List.length_singleton]at hlt;refine J.rangeEntry hX 2 rfl rfl rfl rfl rfl rfl rfl hy rfl ⟨trivial,?_⟩;refine J.q λ_=>?_;refine J.append hX tk 3 5 0 rfl rfl rfl rfl rfl rfl rfl rfl rfl rfl rfl rfl rfl rfl rfl rfl ?_ ?_ (λ_=>rfl) λa' cap'=>⟨_,(congrArg (λz=>t6 _ 3 (c9 _ _ _ _ _ z)) (a8Z hy)).trans rfl,trivial,?_⟩
  ·simp only[maxLen];omega
  ·omega
  refine J.q λ_=>?_;rw[show is.length+1=(is++[j]).length from by simp];refine J.q λ_=>?_;refine J.nS ((is++[j],a',cap')) (trivial) (by dsimp only;rw[List.length_append,List.length_singleton];omega) [0,1,2,3] rfl rfl
theorem b2J (b4 b5:Nat) (die blk:Int) (x:A3):FP 324 (O6 x::[pp b4,pp b5]) [.pt b4 3 [iI die], .pt b5 3 [iI blk]]
  (λv As=>v= .bool ((x.1 !=die)||(x.2.1 !=blk))/\As=[.pt b4 3 [iI die], .pt b5 3 [iI blk]]):=by
 refine FE [0,2,3] Tryz.func324 λX F hX=>?_;exact J.qx [1,2]
theorem b5w (q:Nat) (l:List (A3×Value)) (hl:l.length<=12) (die blk:Int):FP 319 [pp q,iI die,iI blk] [SpS q l]
  (λv As=>∃a cap l',l'.Perm ((l.map (·.1)).filter λx=>!((x.1 !=die)||(x.2.1 !=blk)))/\v=slv a l'.length cap/\As=[SpS q l,c9 52 3 a l'.length cap (l8 l')]):=by
 refine FE [2,0,0] Tryz.func319 λX F hX=>?_;refine J.q λbb=>?_;refine J.cb (b6P q l hl) [1] ?_;rintro v As ⟨a,cap,l0,l',hp0,hl',rfl,rfl⟩;refine⟨_,rfl,trivial,?_⟩;have hp:l'.Perm (l.map (·.1)):=by rw[hl'];exact(I1 _ _).trans hp0
 refine J.q λ_=>?_;refine J.turn1 [2,3] rfl (As:=[.hp (HP.of [.pt (bb 0) 3 [iI die], .pt (bb 1) 3 [iI blk]])]) (λh s=>Sep.hpOf.2 s) rfl ?_;refine J.q λ_=>?_;refine J.ca hX (by kernel_rfl) (a7i 324 [pp (bb 0),pp (bb 1)] (λx=>(x.1 !=die)||(x.2.1 !=blk)) _ (by kernel_rfl) (λx=>Fn.pack (b2J (bb 0) (bb 1) die blk x)) a l'.length cap l' rfl (by rw[hp.length_eq,List.length_map];omega)) [4,2] 0 rfl rfl rfl rfl rfl rfl (λ_=>rfl) ?_;rintro v As ⟨l2,rfl,rfl,rfl⟩;refine⟨_,rfl,trivial,?_⟩;refine J.qr [1,4] λ_=>?_;exact⟨a,cap,_,hp.filter _,rfl,rfl⟩
section
variable {KK : Type} [DecidableEq KK]
def a0Y (l:List (KK×Value)) (k:KK) (z:Value):List (KK×Value):=match fi l k 0 with
 | none=>l++[(k,z)]
 | some _=>l
def b6w (r:Nat) (kv:KK->Value) (l:List (KK×Value)) (key:KK) (st:Int) (h:Hl):Prop:=
 ∃es clock,h r=some (.map es clock)/\es.toList.map (λe=>(e.key,e.val))=l.map (λx=>(kv x.1,x.2))/\(es.toList.map (·.born)).Nodup/\(∀e∈es.toList,e.born<clock)/\
  ∃(j:Nat) (e0:MapEntry) (u:Value),es.toList[j]? =some e0/\e0.key=kv key/\(e0.born:Int)=st/\fi l key 0=some (j,u)
def b7Q (r:Nat) (kv:KK->Value) (l:List (KK×Value)) (key:KK) (st:Int):Atom:= .hp ⟨b6w r kv l key st,λ_ _ l ⟨es,c,h1,h2⟩=>⟨es,c,l _ _ h1,h2⟩⟩
theorem b4C (k:KK):∀(l:List (KK×Value)) i j u,fi l k i=some (j,u)->(l[j-i]?).map (·.1)=some k/\i<=j
 | [],i,j,u,h=>by cases h
 | x::l,i,j,u,h=>by
  unfold fi at h;split at h
  ·rename_i hh;injection h with h;injection h with e1 _;subst e1;simp[hh]
  ·have hl2:=a4s _ _ _ _ _ h;have:=b4C k l _ _ _ h;refine⟨?_,by omega⟩;rw[show j-i=(j-(i+1))+1 from by omega,List.getElem?_cons_succ];exact this.1
theorem b4D (k:KK) (z:Value):∀(l:List (KK×Value)) i,fi l k i=none->fi (l++[(k,z)]) k i=some (i+l.length,z)
 | [],i,_=>by simp[fi]
 | x::l,i,h=>by
  unfold fi at h;split at h
  ·cases h
  ·rename_i hh;rw[List.cons_append,fi,if_neg hh,b4D k z l _ h,List.length_cons];congr 2;omega
variable {P : Program} {kv : KK → Value}
theorem a3L {MT T E:TypeId} (hk:KeyOk P T kv) (hm:P.underlying MT=some (.map T E)) {z:Value} (hz:∀w,(zeroValue E).run P w= .ok z w) {w:World} {r:Nat} {l:List (KK×Value)} (h:a9h r kv l (hl w)) (k:KK):
  ∃w' st,(Instr.mapEntry MT (.map (some r)) (kv k)).run P w= .ok (.tuple #[(y8 l k).getD z,goInt st]) w'/\b6w r kv (a0Y l k z) k st (hl w')/\w.grownBy w' (some r):=by
 obtain⟨es,clock,h1,h2,h3,h4⟩:=h;have hf:=P4 hk k w es.toList l h2;have hr:r<w.heap.size:=(Array.getElem?_eq_some_iff.1 h1).1;have hlen:es.toList.length=l.length:=by have:=congrArg List.length h2;simpa using this
 have ha:=a4I l k 0;unfold Instr.mapEntry;simp only[Sem.run_bind,run_underlying hm,Result.andThen_ok,rgo h1,hk.check,hf];cases hfi:fi l k 0 with
 | none=>
  rw[hfi]at ha;have he:a0Y l k z=l++[(k,z)]:=by rw[a0Y,hfi]
  refine⟨World.putObj' w r (.map (es.push {key:=kv k,val:=z,born:=clock}) (clock+1)),clock,?_,⟨es.push {key:=kv k,val:=z,born:=clock},clock+1,?_,?_,?_,?_,es.size,{key:=kv k,val:=z,born:=clock},z,?_,rfl,rfl,?_⟩,D0 _ _ _⟩
  ·simp only[Sem.run_bind,hz,Result.andThen_ok,rso _ h1,Sem.run_pure,<- ha,Option.map_none,Option.getD_none];rfl
  ·simp[hl,World.putObj',hr]
  ·rw[he];simp[h2]
  ·simp only[Array.toList_push,List.map_append,List.map_cons,List.map_nil];rw[List.nodup_append];refine⟨h3,by simp,?_⟩;intro a ha b hb;simp at hb;obtain⟨e,he,rfl⟩:=List.mem_map.1 ha;have:=h4 e he;omega
  ·intro e he;simp at he;rcases he with he | rfl
   ·have:=h4 e (by simpa using he);omega
   ·simp
  ·simp
  ·rw[he,b4D k z l 0 hfi,<- hlen];simp
 | some x=>
  obtain⟨j,u⟩:=x;rw[hfi]at ha;have he:a0Y l k z=l:=by rw[a0Y,hfi]
  have hl2:=a4s _ _ _ _ _ hfi;obtain⟨e0,he0⟩:∃e0,es.toList[j]? =some e0:=⟨_,List.getElem?_eq_getElem (by omega)⟩;have he1:es[j]? =some e0:=by simpa using he0
  have hkey:e0.key=kv k:=by
   have h5:=(b4C k l 0 j u hfi).1;rw[Nat.sub_zero]at h5;have hx:(es.toList.map (λe=>(e.key,e.val)))[j]? =(l.map (λx=>(kv x.1,x.2)))[j]?:=by rw[h2]
   rw[List.getElem?_map,List.getElem?_map,he0]at hx;cases hlj:l[j]? with
   | none=>rw[hlj]at hx;simp at hx
   | some y=>
    rw[hlj]at hx h5;simp only[Option.map_some,Option.some.injEq,Prod.mk.injEq]at hx h5;rw[hx.1,h5]
  have hmod:es.modify j (λe=>{e with key:=kv k})=es:=by
   apply Array.toList_inj.1;rw[Array.toList_modify];apply List.ext_getElem?;intro i;rw[List.getElem?_modify]
   by_cases hij:j=i
   ·subst hij;rw[he0];simp only[Option.map_eq_map,Option.map_some,if_true,<- hkey]
   ·simp[hij]
  refine⟨World.putObj' w r (.map (es.modify j λe=>{e with key:=kv k}) clock),e0.born,?_,⟨es,clock,?_,?_,h3,h4,j,e0,u,he0,hkey,rfl,?_⟩,D0 _ _ _⟩
  ·simp only[he1,Option.map_some,Option.getD_some,hkey,Instr.keyThatStays,hk.bits,if_true,Sem.run_bind,Sem.run_pure,Result.andThen_ok,rso _ h1,<- ha];rfl
  ·rw[hmod];simp[hl,World.putObj',hr]
  ·rw[he];exact h2
  ·rw[he];exact hfi
theorem a1Z {MT:TypeId} {w:World} {r:Nat} {l:List (KK×Value)} {key:KK} {st:Int} (h:b6w r kv l key st (hl w)) (v:Value):
  ∃w',(Instr.entryStore MT (.map (some r)) (goInt st) v).run P w= .ok () w'/\a9h r kv (O5 l key v) (hl w')/\w.grownBy w' (some r):=by
 obtain⟨es,clock,h1,h2,h3,h4,j,e0,u,he0,hkey,hst,hfi⟩:=h;have hr:r<w.heap.size:=(Array.getElem?_eq_some_iff.1 h1).1;have hmp:=a0R es.toList l key v 0 j u h2 hfi;rw[Nat.sub_zero]at hmp;have hmod:es.modify j (λe=>{e with val:=v})=es.modify j (λe=>{e with key:=kv key,val:=v}):=by
  apply Array.toList_inj.1;rw[Array.toList_modify,Array.toList_modify];apply List.ext_getElem?;intro i;rw[List.getElem?_modify,List.getElem?_modify]
  by_cases hij:j=i
  ·subst hij;rw[he0];simp only[Option.map_eq_map,Option.map_some,if_true,<- hkey]
  ·simp[hij]
 have hidx:es.findIdx? (λe=>((e.born:Nat):Int)==st)=some j:=by
  rw[Go.WideElems.findIdx_arr,<- hst];exact Go.WideElems.findIdx_born h3 he0
 refine⟨World.putObj' w r (.map (es.modify j λe=>{e with val:=v}) clock),?_,⟨es.modify j λe=>{e with val:=v},clock,?_,?_,?_,?_⟩,D0 _ _ _⟩
 ·simp only[Instr.entryStore,Sem.run_bind,rgo h1,Result.andThen_ok,goInt,asInt,asIntOf,Sem.run_pure,hidx,rso _ h1];rfl
 ·simp[hl,World.putObj',hr]
 ·rw[hmod,Array.toList_modify];exact hmp.1
 ·rw[hmod,Array.toList_modify,hmp.2];exact h3
 ·intro e he;have:e.born∈(es.modify j λe=>{e with val:=v}).toList.map (·.born):=List.mem_map_of_mem he;rw[hmod,Array.toList_modify,hmp.2]at this;obtain⟨e',he',hb⟩:=List.mem_map.1 this;have:=h4 e' he';omega
end
section
variable {X : Cx} {P : Program} {K : List KI} {E : Env} {L : List Atom} {N : Nat} {F : HP} {Post : Value → List Atom → Prop} {rs : List ResultVar} {KK : Type} [DecidableEq KK] {kv : KK → Value}
theorem J.mapEntry (hX:IsCx X P rs N F Post) {KT MT ET:TypeId} (hk:KeyOk P KT kv) (hm:P.underlying MT=some (.map KT ET)) {z:Value} (hz:∀w,(zeroValue ET).run P w= .ok z w) {ops:Array Oper} {C:Cl} {lt:Bool} {i:Nat} {t:PT} {o:Oper} {g:G} {x y:Operand} {r:Nat} {l:List (KK×Value)} (key:KK) {k1 k2 t1 t2:Nat} {g1 g2:G} {kvv:Value} {E':Value->Env} (im:Nat)
  (ho:p9 ops.toList i=some o) (hg:gd ops.toList E o=some g) (hgo:g.on=true) (hop:o.op= .mapEntry MT x y) (hx:ev E x=some ⟨k1, .map (some r),t1,g1⟩) (v1:g1.on=true) (hy:ev E y=some ⟨k2,kvv,t2,g2⟩) (v2:g2.on=true) (hkv:kvv=kv key)
  (hL:p9 L im=some (B6 r kv l)) (hd:∀v,E5 N o.dst v 0 .tt E=some (E' v)) {L2:Int->List Atom} (hL2:∀st,t6 L im (b7Q r kv (a0Y l key z) key st)=some (L2 st)) (hJ:∀st,Conj (x7 lt C (L2 st))/\J X (.reg ops C t::K) (E' (.tuple #[(y8 l key).getD z, .int .i64 st])) (L2 st)):J X (.reg ops C (.alt lt i t .non)::K) E L:=by
 refine J.op hX (S:=λv' L'=>∃st,v'= .tuple #[(y8 l key).getD z, .int .i64 st]/\L'=L.set im (b7Q r kv (a0Y l key z) key st)) 0 ho hg hgo (λa0 w hen hs=>?_) hd (λv L' ⟨st,e1,e2⟩=>by subst e1;subst e2;rw[<- B8 (hL2 st)];exact hJ st);rw[n8]at hL;have ex:=j6 hen hx;have ey:=j6 hen hy;simp only[Slot.val,v1,v2]at ex ey;rw[hkv]at ey;have hmap:a9h r kv l (hl w):=hs.get hL;obtain⟨w',st,r1,r2,r3⟩:=a3L (P:=P) hk hm hz hmap key;refine⟨_,_, .value _,w',⟨st,rfl,rfl⟩,by simp only[execOp,hop,ex,ey,Sem.run_bind,r1,Result.andThen_ok,Sem.run_pure];rfl, .inl rfl,?_,Ext.grown r3⟩;exact Sep.step hs hL (x:=some r) (x':=some r) (λh g ⟨es,c,h1,_⟩ e=>by injection e with e;subst e;exact⟨_,h1⟩) r3 (.inl rfl) (λh hh=>by
  obtain⟨es,c,h1,h2⟩:=r2;exact⟨es,c,(hh r rfl).trans h1,h2⟩)
theorem J.entryStore (hX:IsCx X P rs N F Post) {MT:TypeId} {ops:Array Oper} {C:Cl} {lt:Bool} {i:Nat} {t:PT} {o:Oper} {g:G} {x y u:Operand} {r:Nat} {l:List (KK×Value)} {key:KK} {st:Int} {k1 k2 k3 t1 t2 t3:Nat} {g1 g2 g3:G} {v:Value} {E':Value->Env} (im:Nat)
  (ho:p9 ops.toList i=some o) (hg:gd ops.toList E o=some g) (hgo:g.on=true) (hop:o.op= .entryStore MT x y u) (hx:ev E x=some ⟨k1, .map (some r),t1,g1⟩) (v1:g1.on=true) (hy:ev E y=some ⟨k2, .int .i64 st,t2,g2⟩) (v2:g2.on=true) (hu:ev E u=some ⟨k3,v,t3,g3⟩) (v3:g3.on=true)
  (hL:p9 L im=some (b7Q r kv l key st)) (hd:∀v,E5 N o.dst v 0 .tt E=some (E' v)) {L2:List Atom} (hL2:t6 L im (B6 r kv (O5 l key v))=some L2) (hJ:Conj (x7 lt C L2)/\J X (.reg ops C t::K) (E' undef) L2):J X (.reg ops C (.alt lt i t .non)::K) E L:=by
 refine J.op hX (S:=λv' L'=>v'=undef/\L'=L.set im (B6 r kv (O5 l key v))) 0 ho hg hgo (λa0 w hen hs=>?_) hd (λv L' ⟨e1,e2⟩=>by subst e1;subst e2;rw[<- B8 hL2];exact hJ);rw[n8]at hL;have ex:=j6 hen hx;have ey:=j6 hen hy;have eu:=j6 hen hu;simp only[Slot.val,v1,v2,v3]at ex ey eu;have hent:b6w r kv l key st (hl w):=hs.get hL;obtain⟨w',r1,r2,r3⟩:=a1Z (P:=P) (MT:=MT) hent v;refine⟨undef,_, .skip,w',⟨rfl,rfl⟩,by simp only[execOp,hop,ex,ey,eu,Sem.run_bind];rw[show(Value.int IntKind.i64 st)=goInt st from rfl,r1];rfl, .inr ⟨rfl,rfl⟩,?_,Ext.grown r3⟩;exact Sep.step hs hL (x:=some r) (x':=some r) (λh g ⟨es,c,h1,_⟩ e=>by injection e with e;subst e;exact⟨_,h1⟩) r3 (.inl rfl) (λh hh=>by
  obtain⟨es,c,h1,h2⟩:=r2;exact⟨es,c,(hh r rfl).trans h1,h2⟩)
end
end Go.Proofs.YtgkpkpbnonmopaaGreat
