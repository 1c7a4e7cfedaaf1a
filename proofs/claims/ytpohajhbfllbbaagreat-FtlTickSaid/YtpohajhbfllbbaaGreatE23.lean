/- Helpers. No condition. -/
import Derived.Test.YtpohajhbfllbbaaGreatE06
import Derived.Test.YtpohajhbfllbbaaGreatE16
import Derived.Test.YtpohajhbfllbbaaGreatE20
import Derived.Test.YtpohajhbfllbbaaGreatE21
import Derived.Test.YtpohajhbfllbbaaGreatE22
set_option maxRecDepth 20000
set_option linter.all false
namespace Go.Proofs.YtpohajhbfllbbaaGreat
open Go Go.RowKit
theorem a7G (f p n t l d:Nat) (Z:Fv) (k m:Nat) (hO:Z.Ok (Fv.cW+(1+k)) m) (hm:m<=12) (e:En) (hd:e.data.length=16):FP 84 [pp f,enV e] (FvP f p n t l d Z)
  (Ps (iI (Z.waits e).2) (FvP f p n t l d (Z.waits e).1)):=by
 have hwt:Z.waits e=(if Z.ask.off=true then(Z.ask,9)
  else if e.lpn<0\/e.lpn>=Z.ask.lg then(Z.ask,3)
  else if(Z.ask.L.length:Int)>=Z.ask.S.slots then
   let w:=Z.ask.writes
   if w.2≠0 then w else(w.1.put e,0)
  else(Z.ask.put e,0)):=rfl
 have hlen:=hO.len;refine FE [2,0] Tryz.func84 λX F hX=>?_;refine J.q λbz=>?_;refine J.cb (Q5 f n t l p d Z) [1,3] ?_;refine cpq ⟨_,rfl,trivial,?_⟩;have hOY:=hO.ask;obtain⟨Y,hY⟩:∃Y,Y=Z.ask:=⟨_,rfl⟩;have e1:Z.S=Y.S:=by rw[hY];rfl
 have e2:Z.L=Y.L:=by rw[hY];rfl
 rw[<- hY]at hwt hOY;rw[<- hY,e1,e2];rw[e2]at hlen;have hN:=hOY.dv.gd.ok;cases ho:Y.off with
 | true=>
  rw[ho,if_pos rfl]at hwt;refine J.qT λ_=>?_;refine J.qr [1,2,3,4,5,6] λ_=>?_;rw[hwt];exact⟨rfl,rfl⟩
 | false=>
  rw[ho,if_neg Bool.false_ne_true]at hwt;refine J.qF λ_=>?_;refine J.pq (.of [0,5,8,12,16,21,24,30,32,36]) [] [1,2,3,4,5,6,7] λ_ _=>?_;have hput:∀W:{W:Fv//Z.waits e=(W.put e,0)/\W.L.length<=200/\0<=W.nx/\W.nx<=4611686018427387904},Z.waits e=(W.1.put e,0):=λW=>W.2.1;refine J.gcase hX rfl rfl rfl stq (λhb=>?_) (λhb=>?_)
  ·have hi:decide (e.lpn<0)=false:=by simpa using hb
   rw[hi];refine J.qp (W6 f n t l p d Y hN) [1,3] λ_=>?_;simp only[decide_eq_false_iff_not]at hi;refine J.qd (λ_ h1=>?_) λ_ h1=>?_
   ·simp only[Bool.false_or,ge_iff_le,decide_eq_true_eq]at h1;rw[if_pos (.inr h1)]at hwt;refine J.qr [1,2,3,4,5,6] λ_=>?_;rw[hwt];exact⟨rfl,rfl⟩
   simp only[Bool.false_or,ge_iff_le,decide_eq_false_iff_not]at h1;rw[if_neg (by omega)]at hwt;have hbb:Y.S.t.b<=1000:=by have:=hOY.dv.t.b;have:=hN.bd16;omega
   refine J.p (.of [0,4,8,13,20,24,28,33,18,38,40]) [] [1,2,3,4,5,6,7] λ_=>?_;refine J.qp (a9N d Y.L) [6] λ_=>?_;refine J.qp (a7g p n t l Y.S hbb hOY.dv.t.len) [2,3,4,5] λ_=>?_;refine J.q λ_=>?_;refine J.join (α:={W:Fv//Z.waits e=(W.put e,0)/\W.L.length<=200/\0<=W.nx/\W.nx<=4611686018427387904}) (λ_=>[⟨0,pp f,2, .tt⟩,⟨3,pp (bz 0),8, .tt⟩]) (λW=>[.hp F,a0k f n t l p d W.1,R0 p n t l W.1.S,i5 n W.1.S.N,TlA t W.1.S.t,TbA l W.1.S.T,S8 d W.1.L, .pt (bz 0) 135 (enL e)]) (λhj=>?_) (λW=>?_)
   ·refine J.qd (λ_ h2=>?_) λ_ h2=>?_
    ·simp only[ge_iff_le,decide_eq_true_eq]at h2;rw[if_pos h2]at hwt;have hkw:=Fv.writes_keep hOY;refine J.qp (a5r f p n t l d Y (1+k) m hOY hm) [1,2,3,4,5,6] λ_=>?_;dsimp only at hwt;generalize Y.writes=w at hwt hkw ⊢;obtain⟨V,er⟩:=w;dsimp only at hwt hkw ⊢;refine J.qd (λ_ h3=>?_) λ_ h3=>?_
     ·simp only[bne_iff_ne,ne_eq]at h3;rw[if_pos h3]at hwt;refine J.qr [1,2,3,4,5,6] λ_=>?_;rw[hwt];exact⟨rfl,rfl⟩
     ·simp only[bne_eq_false_iff_eq]at h3;rw[if_neg (by rw[h3];decide)]at hwt;have hnx:=hkw.1.nx;refine J.qn 1 λ_=>?_;exact J.goto [0,1,2,3,4,5,6,7] (hj ⟨V,hwt,hkw.1.len,by omega,by omega⟩) ⟨rfl,rfl,trivial⟩ rfl rfl
    ·simp only[ge_iff_le,decide_eq_false_iff_not]at h2;rw[if_neg h2]at hwt;have hnx:=hOY.nx;refine J.qn 1 λ_=>?_;exact J.goto [0,1,2,3,4,5,6,7] (hj ⟨Y,hwt,hlen,by omega,by omega⟩) ⟨rfl,rfl,trivial⟩ rfl rfl
   obtain⟨W,hw1,hw2,hw3,hw4⟩:=W;dsimp only;refine J.p (.of [0,4,8,13,17,22]) [] [1,2,3,4,5,7] λ_=>?_;refine J.qp (a9M d W.L (by omega) {e with seq:=W.nx}) [6] λ_=>?_;refine J.qr [1,2,3,4,5,6] λ_=>?_;rw[hw1];exact⟨rfl,rfl⟩
  ·have hi:decide (e.lpn<0)=true:=by simpa using hb
   rw[hi];refine J.q λ_=>?_;refine J.vT (.bool false) rfl rfl (λhg a w he hC=>by simp[G.on]at hg) ?_;simp only[decide_eq_true_eq]at hi;rw[if_pos (.inl hi)]at hwt;refine J.qT λ_=>?_;refine J.qr [1,2,3,4,5,6] λ_=>?_;rw[hwt];exact⟨rfl,rfl⟩
theorem a3R (f p n t l d:Nat) (Z:Fv) (k m:Nat) (hO:Z.Ok (Fv.cW+(1+k)) m) (hm:m<=12) (i:Int) (x:List UInt8) (hx:x.length=16):FP 36 [pp f,iI i,a0g x] (FvP f p n t l d Z)
  (λv As=>v=iI (Z.write i x).2/\As=FvP f p n t l d (Z.write i x).1):=by
 refine FE [2,0,0] Tryz.func36 λX F hX=>?_;refine J.qp (a7G f p n t l d Z k m hO hm ⟨i,0,1,x⟩ hx) [1,2,3,4,5,6] λ_=>?_;exact J.qx [1,2,3,4,5,6]
theorem a9J (f p n t l d:Nat) (Z:Fv) (k m:Nat) (hO:Z.Ok (Fv.cW+(1+k)) m) (hm:m<=12) (i:Int):FP 37 [pp f,iI i] (FvP f p n t l d Z)
  (λv As=>v=iI (Z.trim i).2/\As=FvP f p n t l d (Z.trim i).1):=by
 refine FE [2,0] Tryz.func37 λX F hX=>?_;refine J.qp (a7G f p n t l d Z k m hO hm ⟨i,0,2,zeros16⟩ rfl) [1,2,3,4,5,6] λ_=>?_;exact J.qx [1,2,3,4,5,6]
theorem a7I (f p n t l d:Nat) (Z:Fv) (k m:Nat) (hO:Z.Ok (Fv.cW*200+k) m) (hm:m<=12):FP 21 [pp f] (FvP f p n t l d Z)
  (λv As=>v=iI Z.flush.2/\As=FvP f p n t l d Z.flush.1):=by
 have hfl:Z.flush=(if Z.ask.off=true then(Z.ask,9)else Fv.flushGo Z.ask.L.length Z.ask):=rfl;have hlen:=hO.len;refine FE [2] Tryz.func21 λX F hX=>?_;refine J.qp (Q5 f n t l p d Z) [1,3] λ_=>?_;have hOY:=hO.ask;obtain⟨Y,hY⟩:∃Y,Y=Z.ask:=⟨_,rfl⟩;have e1:Z.S=Y.S:=by rw[hY];rfl
 have e2:Z.L=Y.L:=by rw[hY];rfl
 rw[<- hY]at hfl hOY;rw[<- hY,e1,e2];rw[e2]at hlen;cases ho:Y.off with
 | true=>
  rw[ho,if_pos rfl]at hfl;refine J.qT λ_=>?_;refine J.qr [1,2,3,4,5,6] λ_=>?_;rw[hfl];exact⟨rfl,rfl⟩
 | false=>
  rw[ho,if_neg Bool.false_ne_true]at hfl;refine J.qF λ_=>?_;have hmul:Fv.cW*Y.L.length<=Fv.cW*200:=Nat.mul_le_mul_left _ hlen;refine J.q λ_=>?_;refine J.l (α:=(Nat×Fv)) (λz=>z.2.Ok (Fv.cW*z.1+k) m/\z.2.L.length<=z.1/\Fv.flushGo z.1 z.2=Z.flush) (λz=>[⟨0,pp f,2, .tt⟩]) [1,2,3,4,5,6] (λz=>FvP f p n t l d z.2) (λz=>z.1) ((Y.L.length,Y)) (⟨hOY.less (by dsimp only;omega),Nat.le_refl _,hfl.symm⟩) λz hI=>?_;obtain⟨j,V⟩:=z;dsimp only at hI ⊢;obtain⟨hV,hj,hw⟩:=hI;refine J.qp (a9N d V.L) [6] λ_=>?_;refine J.qd (λ_ h1=>?_) λ_ h1=>?_
  ·simp only[gt_iff_lt,decide_eq_true_eq]at h1;have hL0:V.L.length≠0:=by omega
   obtain⟨j,rfl⟩:∃i,j=i+1:=⟨j-1,by omega⟩;rw[Fv.flushGo,if_neg hL0]at hw;have hV1:V.Ok (Fv.cW+(Fv.cW*j+k)) m:=hV.less (by rw[Nat.mul_succ];omega);have hkw:=Fv.writes_keep hV1;refine J.qp (a5r f p n t l d V _ m hV1 hm) [1,2,3,4,5,6] λ_=>?_;dsimp only at hw;generalize V.writes=w at hw hkw ⊢;obtain⟨U,er⟩:=w;dsimp only at hw hkw ⊢;refine J.qd (λ_ h2=>?_) λ_ h2=>?_
   ·simp only[bne_iff_ne,ne_eq]at h2;rw[if_pos h2]at hw;refine J.qr [1,2,3,4,5,6] λ_=>?_;rw[<- hw];exact⟨rfl,rfl⟩
   ·simp only[bne_eq_false_iff_eq]at h2;rw[if_neg (by rw[h2];decide)]at hw;have:=hkw.2.2.2 h2 hL0;refine J.q λ_=>?_;refine J.n ((j,U)) (⟨hkw.1,by dsimp only;omega,hw⟩) (by dsimp only;omega) [0,1,2,3,4,5,6]
  ·simp only[gt_iff_lt,decide_eq_false_iff_not]at h1;have hz:Fv.flushGo j V=(V,0):=by
    cases j with
    | zero=>rfl
    | succ j=>rw[Fv.flushGo,if_pos (by omega)]
   refine J.qr [1,2,3,4,5,6] λ_=>?_;rw[<- hw,hz];exact⟨rfl,rfl⟩
theorem a6p (f p n t l d:Nat) (Z:Fv) (k m:Nat) (hO:Z.Ok (Dv.costS+k) m) (hm:m<=12):FP 19 [pp f] (FvP f p n t l d Z)
  (λv As=>v=iI Z.tick.2/\As=FvP f p n t l d Z.tick.1):=by
 have htk:Z.tick=(if Z.ask.off=true then(Z.ask,9)else({Z.ask with S:=(Z.ask.S.step 4).1}.told (Z.ask.S.step 4).2.2,(Z.ask.S.step 4).2.2)):=rfl;refine FE [2] Tryz.func19 λX F hX=>?_;refine J.qp (Q5 f n t l p d Z) [1,3] λ_=>?_;have hOY:=hO.ask;obtain⟨Y,hY⟩:∃Y,Y=Z.ask:=⟨_,rfl⟩;have e1:Z.S=Y.S:=by rw[hY];rfl
 have e2:Z.L=Y.L:=by rw[hY];rfl
 rw[<- hY]at htk hOY;rw[<- hY,e1,e2];cases ho:Y.off with
 | true=>
  rw[ho,if_pos rfl]at htk;refine J.qT λ_=>?_;refine J.qr [1,2,3,4,5,6] λ_=>?_;rw[htk];exact⟨rfl,rfl⟩
 | false=>
  rw[ho,if_neg Bool.false_ne_true]at htk;refine J.qF λ_=>?_;refine J.p (.of [0,4,8,13,16,20,24,29,32,36,40,45,48,52,56,61,66,68,72,76,80,84]) [21] [1,6] λ_=>?_;refine J.qp (a9y n t l p Y.S _ m hOY.dv hm 4) [2,3,4,5] λ_=>?_;generalize Y.S.step 4=w at htk ⊢;obtain⟨V,nn,er⟩:=w;dsimp only at htk ⊢;rw[show a0k f n t l p d Y=a0k f n t l p d {Y with S:=V}from rfl];refine J.qp (a6o f n t l p d {Y with S:=V} er) [1] λ_=>?_;refine J.qr [1,2,3,4,5,6] λ_=>?_;rw[htk];exact⟨rfl,rfl⟩
theorem a7H (f p n t l d:Nat) (Z:Fv) (k m:Nat) (hO:Z.Ok k m):FP 20 [pp f] (FvP f p n t l d Z)
  (λv As=>v= .bool Z.whole.2/\As=FvP f p n t l d Z.whole.1):=by
 have hwh:Z.whole=(if Z.ask.off=true then(Z.ask,false)else({Z.ask with S:=Z.ask.S.seen},Z.ask.S.seen.leftN==0)):=rfl;refine FE [2] Tryz.func20 λX F hX=>?_;refine J.qp (Q5 f n t l p d Z) [1,3] λ_=>?_;have hOY:=hO.ask;obtain⟨Y,hY⟩:∃Y,Y=Z.ask:=⟨_,rfl⟩;have e1:Z.S=Y.S:=by rw[hY];rfl
 have e2:Z.L=Y.L:=by rw[hY];rfl
 rw[<- hY]at hwh hOY;rw[<- hY,e1,e2];have hbd:=hOY.dv.gd.ok.bd16;have htd:=hOY.dv.t.d;cases ho:Y.off with
 | true=>
  rw[ho,if_pos rfl]at hwh;refine J.qT λ_=>?_;refine J.qr [1,2,3,4,5,6] λ_=>?_;rw[hwh];exact⟨rfl,rfl⟩
 | false=>
  rw[ho,if_neg Bool.false_ne_true]at hwh;refine J.qF λ_=>?_;refine J.qp (U0 n Y.S.N) [3] λ_=>?_;refine J.q λ_=>?_;refine J.l (α:=(Nat×Tl)) (λz=>z.1<=Y.S.N.dies/\(List.range z.1).foldl (λt (d:Nat)=>if Y.S.N.deadAt d then t.die d else t) Y.S.t=z.2/\z.2.Fit Y.S.N) (λz=>[si 13 z.1,si 12 Y.S.N.dies,⟨0,pp f,2, .tt⟩]) [4] (λz=>[TlA t z.2]) (λz=>Y.S.N.dies-z.1) ((0,Y.S.t)) (⟨Nat.zero_le _,rfl,hOY.dv.t⟩) λz hI=>?_;obtain⟨i,U⟩:=z;dsimp only at hI ⊢;obtain⟨hd,hfo,hU⟩:=hI;refine J.qd (λ_ h1=>?_) λ_ h1=>?_
  ·simp only[decide_eq_true_eq,Int.ofNat_lt]at h1;have hsu:(List.range (i+1)).foldl (λt (d:Nat)=>if Y.S.N.deadAt d then t.die d else t) Y.S.t=if Y.S.N.deadAt i then U.die i else U:=by rw[List.range_succ,List.foldl_append,hfo];rfl
   refine J.qp (a3C n Y.S.N hOY.dv.gd.ok i) [3] λ_=>?_;refine J.qd (λ_ h2=>?_) λ_ h2=>?_
   ·rw[if_pos h2]at hsu;refine J.qp (a0Q t U i) [4] λ_=>?_;refine J.q λ_=>?_;refine J.n ((i+1,U.die i)) (⟨by dsimp only;omega,hsu,hU.die i⟩) (by dsimp only;omega) [0,1,2,3,4,5,6]
   ·rw[if_neg (by rw[h2];decide)]at hsu;refine J.q λ_=>?_;refine J.n ((i+1,U)) (⟨by dsimp only;omega,hsu,hU⟩) (by dsimp only;omega) [0,1,2,3,4,5,6]
  simp only[decide_eq_false_iff_not,Int.ofNat_lt]at h1;obtain rfl:i=Y.S.N.dies:=by omega
  have hseen:Y.S.seen={Y.S with t:=U}:=by unfold Dv.seen Dv.seeDead;rw[htd,hfo]
  obtain⟨Q,hQ⟩:∃Q,Q=Y.S.seen:=⟨_,rfl⟩;have hQO:Q.Ok k m:=by rw[hQ];exact hOY.dv.seen
  have eT:Y.S.T=Q.T:=by rw[hQ];rfl
  have eU:U=Q.t:=by rw[hQ,hseen]
  rw[eT,eU];refine J.p (.of [0,4,8,13,16,20,24,29,34,36,40]) [10] [1,2,3,4,5,6] λ_=>?_;refine J.qp (a9z t l Q k m hQO) [4,5] λ_=>?_;refine J.qr [1,2,3,4,5,6] λ_=>?_;rw[hwh,<- hQ];refine⟨rfl,?_⟩;unfold FvP;dsimp only;rw[show R0 p n t l Y.S=R0 p n t l Q from by rw[hQ];rfl,show i5 n Y.S.N=i5 n Q.N from by rw[hQ];rfl];rfl
theorem Tl.seeDead_succ (N:Nand) (t:Tl) (i:Nat):(List.range (i+1)).foldl (λt (d:Nat)=>if N.deadAt d then t.die d else t) t=if N.deadAt i then((List.range i).foldl (λt (d:Nat)=>if N.deadAt d then t.die d else t) t).die i else(List.range i).foldl (λt (d:Nat)=>if N.deadAt d then t.die d else t) t:=by rw[List.range_succ,List.foldl_append];rfl
theorem Tl.ofB_succ (N:Nand) (t:Tl) (b i:Nat):(List.range (i+1)).foldl (Tl.ofD N b) t=Tl.ofD N b ((List.range i).foldl (Tl.ofD N b) t) i:=by rw[List.range_succ,List.foldl_append];rfl
theorem Tl.of_succ (N:Nand) (t:Tl) (i:Nat):(List.range (i+1)).foldl (Tl.ofB N) t=Tl.ofB N ((List.range i).foldl (Tl.ofB N) t) i:=by rw[List.range_succ,List.foldl_append];rfl
theorem b7w (n:Nat) (N:Nand) (hN:N.Ok):FP 76 [pp n] [i5 n N] (λv As=>∃q,v=pp q/\As=[i5 n N,TlA q (Tl.of N)]):=by
 have hbd:=hN.bd16;refine FE [2] Tryz.func76 λX F hX=>?_;refine J.qp (U0 n N) [1] λ_=>?_;refine J.q λ_=>?_;refine J.ca hX (by kernel_rfl) (a8j N.dies N.blocks N.pages hN.geo) [] 3 rfl rfl rfl rfl rfl rfl (λ_=>rfl) ?_;rintro v As ⟨q,rfl,rfl⟩;refine⟨_,rfl,trivial,?_⟩;refine J.qF λ_=>?_;refine J.o (α:=Nat) 2 λg=>?_;refine J.q λ_=>?_;refine J.cl (λg:Nat=>TlP q (Tl.new N.dies N.blocks N.pages) g) (g) [2,3] ?_;refine J.q λ_=>?_;refine J.l (α:=(Nat×Tl)) (λz=>z.1<=N.dies/\(List.range z.1).foldl (λt (d:Nat)=>if N.deadAt d then t.die d else t) (Tl.new N.dies N.blocks N.pages)=z.2/\z.2.Fit N) (λz=>[si 17 z.1,si 16 N.dies,⟨0,pp n,2, .tt⟩,⟨3,pp q,3, .tt⟩]) [2] (λz=>[TlA q z.2]) (λz=>N.dies-z.1) ((0,Tl.new N.dies N.blocks N.pages)) (⟨Nat.zero_le _,rfl,Tl.Fit.new N⟩) λz hI=>?_;obtain⟨i,U⟩:=z;dsimp only at hI ⊢;obtain⟨hd,hfo,hU⟩:=hI;refine J.qd (λ_ h1=>?_) λ_ h1=>?_
 ·simp only[decide_eq_true_eq,Int.ofNat_lt]at h1;have hsu:=Tl.seeDead_succ N (Tl.new N.dies N.blocks N.pages) i;rw[hfo]at hsu;refine J.qp (a3C n N hN i) [1] λ_=>?_;refine J.qd (λ_ h2=>?_) λ_ h2=>?_
  ·rw[if_pos h2]at hsu;refine J.qp (a0Q q U i) [2] λ_=>?_;refine J.q λ_=>?_;refine J.n ((i+1,U.die i)) (⟨by dsimp only;omega,hsu,hU.die i⟩) (by dsimp only;omega) [0,1,2,3]
  ·rw[if_neg (by rw[h2];decide)]at hsu;refine J.q λ_=>?_;refine J.n ((i+1,U)) (⟨by dsimp only;omega,hsu,hU⟩) (by dsimp only;omega) [0,1,2,3]
 simp only[decide_eq_false_iff_not,Int.ofNat_lt]at h1;obtain rfl:i=N.dies:=by omega
 have hsee:U=Dv.seeDead N (Tl.new N.dies N.blocks N.pages):=hfo.symm;have hUb:=hU.b;refine J.o (α:=Nat) 2 λg2=>?_;refine J.q λ_=>?_;refine J.cl (λg:Nat=>TlP q U g) (g2) [2,4] ?_;rw[hUb];refine J.q λ_=>?_;refine J.l (α:=(Nat×Tl)) (λz=>z.1<=N.blocks/\(List.range z.1).foldl (Tl.ofB N) U=z.2/\z.2.Fit N) (λz=>[si 32 z.1,si 31 N.blocks,⟨0,pp n,2, .tt⟩,⟨3,pp q,3, .tt⟩]) [2] (λz=>[TlA q z.2]) (λz=>N.blocks-z.1) ((0,U)) (⟨Nat.zero_le _,rfl,hU⟩) λz hI=>?_;obtain⟨b,T⟩:=z;dsimp only at hI ⊢;obtain⟨hb,hfb,hT⟩:=hI;refine J.qd (λ_ h3=>?_) λ_ h3=>?_
 ·simp only[decide_eq_true_eq,Int.ofNat_lt]at h3;have hsu:=Tl.of_succ N U b;rw[hfb]at hsu;have hTd:=hT.d;refine J.o (α:=Nat) 2 λg3=>?_;refine J.q λ_=>?_;refine J.cl (λg:Nat=>TlP q T g) (g3) [2,5] ?_;rw[hTd];refine J.q λ_=>?_;refine J.l (α:=(Nat×Tl)) (λz=>z.1<=N.dies/\(List.range z.1).foldl (Tl.ofD N b) T=z.2/\z.2.Fit N) (λz=>[si 40 z.1,si 39 N.dies,si 32 b,si 31 N.blocks,si 5 b,⟨0,pp n,2, .tt⟩,⟨3,pp q,3, .tt⟩]) [2] (λz=>[TlA q z.2]) (λz=>N.dies-z.1) ((0,T)) (⟨Nat.zero_le _,rfl,hT⟩) λz hI=>?_;obtain⟨d,V⟩:=z;dsimp only at hI ⊢;obtain⟨hd,hfd,hV⟩:=hI;refine J.qd (λ_ h4=>?_) λ_ h4=>?_
  ·simp only[decide_eq_true_eq,Int.ofNat_lt]at h4;have hsd:=Tl.ofB_succ N T b d;rw[hfd]at hsd;have hVb:=hV.b;have hod:Tl.ofD N b V d=if(L.has ((V.wore b (N.wornAt d b)).mask b) d&&decide ((N.next d b:Int)>0))=true then(V.wore b (N.wornAt d b)).clean b false else V.wore b (N.wornAt d b):=rfl
   rw[hod]at hsd;have hW:=hV.wore b (N.wornAt d b);refine J.qp (a8w n N hN d b) [1] λ_=>?_;refine J.qp (a5N q V (by omega) hV.len b (N.wornAt d b)) [2] λ_=>?_;obtain⟨Q,hQ⟩:∃Q,V.wore b (N.wornAt d b)=Q:=⟨_,rfl⟩;rw[hQ]at hsd hW ⊢;have hQb:=hW.b;refine J.qp (R1 q Q (by omega) hW.len b) [2] λ_=>?_;refine J.qp (a5i (Q.mask b) d) [] λ_=>?_;refine J.q λ_=>?_;refine J.gcase hX rfl rfl rfl trivial (λhb2=>?_) (λhb2=>?_)
   ·rw[hb2]at hsd ⊢;refine J.qp (b2H n N hN d b) [1] λ_=>?_;refine J.qd (λ_ h5=>?_) λ_ h5=>?_
    ·simp only[Bool.true_and]at h5 hsd;rw[if_pos h5]at hsd;refine J.qp (a2W q Q (by omega) hW.len b false) [2] λ_=>?_;refine J.q λ_=>?_;refine J.n ((d+1,Q.clean b false)) (⟨by dsimp only;omega,hsd,hW.clean b false⟩) (by dsimp only;omega) [0,1,2,3,4,5]
    ·simp only[Bool.true_and]at h5 hsd;rw[if_neg (by rw[h5];decide)]at hsd;refine J.q λ_=>?_;refine J.n ((d+1,Q)) (⟨by dsimp only;omega,hsd,hW⟩) (by dsimp only;omega) [0,1,2,3,4,5]
   ·rw[hb2]at hsd ⊢;rw[Bool.false_and,if_neg Bool.false_ne_true]at hsd;refine J.q λ_=>?_;refine J.v (.bool false) rfl rfl (λhg a w he hw=>by simp[G.on]at hg) ?_;refine J.qF λ_=>?_;refine J.q λ_=>?_;refine J.n ((d+1,Q)) (⟨by dsimp only;omega,hsd,hW⟩) (by dsimp only;omega) [0,1,2,3,4,5]
  simp only[decide_eq_false_iff_not,Int.ofNat_lt]at h4;obtain rfl:d=N.dies:=by omega
  have hsu2:(List.range (b+1)).foldl (Tl.ofB N) U=V:=by rw[hsu,<- hfd];rfl
  refine J.q λ_=>?_;refine J.n ((b+1,V)) (⟨by dsimp only;omega,hsu2,hV⟩) (by dsimp only;omega) [0,1,2,3,4]
 simp only[decide_eq_false_iff_not,Int.ofNat_lt]at h3;obtain rfl:b=N.blocks:=by omega
 have hof:T=Tl.of N:=by rw[<- hfb,hsee];rfl
 refine J.qr [1,2] λ_=>?_;exact⟨q,rfl,by rw[<- hof];rfl⟩
theorem a9e (q:Nat) (t:Tl) (hb:t.b<=1000) (hl:t.l.length=t.b) (k:Int) (on:Bool):FP 79 [pp q,iI k, .bool on] [TlA q t] (Ps (.tuple #[]) [TlA q (t.hold k on)]):=by
 refine FE [2,0,0] Tryz.func79 λX F hX=>?_;refine J.o (α:=Nat) 1 λg=>?_;refine J.qp (a1W q t hb g k) [1,2] λ_=>?_;cases hh:t.has k with
 | false=>
  rw[Tl.adr,hh,if_neg (by simp)];refine J.qF λ_=>?_;refine J.q λ_=>?_;refine J.cl (λg:Nat=>TlP q t g) g [1,2] ?_;refine J.q λ_=>?_;refine J.f [1] ?_;exact⟨rfl,by rw[Tl.hold,Tl.set,hh];rfl⟩
 | true=>
  rw[Tl.adr,hh,if_pos rfl];refine J.qT λ_=>?_;refine J.q λ_=>?_;refine J.s1 2 ((t.hold k on).l.flatMap sbL) ?_ ?_ ?_
  ·rw[t.len_l,hl];simp only[Tl.has,Bool.and_eq_true,decide_eq_true_eq]at hh;omega
  ·exact t.set_at hl hh 3 (by omega) _ _ rfl
  refine J.close (f:=λg:Nat=>TlP q (t.hold k on) g) g [1,2] rfl (by simp only[TlP,Tl.hold,Tl.set_d,Tl.set_b,Tl.set_p,Tl.set_dead];rfl) rfl ?_;refine J.q λ_=>?_;refine J.f [1] ?_;exact⟨rfl,rfl⟩
theorem a5o (t:Tl) (l:List Int) (on:Bool) {i:Nat} {x:Int} (h:l[i]? =some x):(l.take (i+1)).foldl (λt b=>t.hold b on) t=((l.take i).foldl (λt b=>t.hold b on) t).hold x on:=by
 rw[List.take_add_one,h,Option.toList_some,List.foldl_append];rfl
theorem a9q (a:Option Nat):oad a=y7 (a.map λg=>(g,0)):=by cases a<;>rfl
theorem a0c (n:Nat) (N:Nand) (k m:Nat) (hG:N.Gd (Dv.costK+k) m) (hm:m<=12) (hoff:N.off=false):FP 35 [pp n] [i5 n N]
  (λv As=>(s9 N).2=0/\(∃f p t l d,v= .tuple #[pp f,iI 0]/\As=FvP f p n t l d (Fv.of (s9 N).1))\/(s9 N).2≠0/\v= .tuple #[.pointer none,iI (s9 N).2]/\As=[i5 n (s9 N).1.N]):=by
 have hN:=hG.ok;have hbd:=hN.bd16;have hlg:=a8F N.dies N.blocks N.pages (by omega) (by omega);refine FE [2] Tryz.func35 λX F hX=>?_;refine J.qp (U0 n N) [1] λ_=>?_;refine J.qp (a1J N.dies N.blocks N.pages hN.geo) [] λ_=>?_;rw[hlg];refine J.qc (b1L n N hN hG.room hoff (lgN N.dies N.blocks N.pages)) [1] λ_=>?_;rintro v As ⟨q,a1,c1,a2,c2,rfl,rfl⟩;refine⟨_,rfl,trivial,?_⟩;obtain⟨en1,en2,en3,en4⟩:=a5R hN (lgN N.dies N.blocks N.pages);have h200:=W4 hN;obtain⟨tn1,tn2,tn3,tn4⟩:=a4N (N:=N) (m:=lgN N.dies N.blocks N.pages) (by omega);have hheld:=b0m hN (lgN N.dies N.blocks N.pages);have h0:=Dv.Ok.mt0 hG;have hmt:=a3E N;have e0:Dv.mt0 N=⟨N,Tl.of N,(V.scan N (lgN N.dies N.blocks N.pages)).tb,-1,0,0,max (V.scan N (lgN N.dies N.blocks N.pages)).next 1⟩:=rfl;obtain⟨sc,hsc⟩:∃sc,V.scan N (lgN N.dies N.blocks N.pages)=sc:=⟨_,rfl⟩;rw[hsc]at en1 en2 en3 en4 tn1 tn2 tn3 tn4 hheld hmt e0 ⊢;refine J.q λbs=>?_;refine J.cF ?_;refine J.know (λh' s=>J4 (show M9 _ _ a1 sc.torn.length c1 _ _ from s.get (i:=3) rfl)) λhcap1=>?_;refine J.know (λh' s=>a3w (show M9 _ _ a1 sc.torn.length c1 _ _ from s.get (i:=3) rfl)) λhnil1=>?_;refine J.know (λh' s=>J4 (show M9 _ _ a2 sc.held.length c2 _ _ from s.get (i:=4) rfl)) λhcap2=>?_;refine J.p (.of [0,4,12,17,10,22,24,31,32]) [6,7,8] [1,2,3,4,5] λ_=>?_;refine J.qc (b7w n N hN) [1] λ_=>?_;rintro v As ⟨t,rfl,rfl⟩;refine⟨_,rfl,stq,?_⟩;refine J.qc (b6e) [] λ_=>?_;rintro v As ⟨d,rfl,rfl⟩;refine⟨_,rfl,stq,?_⟩;refine J.q λbf=>?_;rw[a2E,a9q];refine J.p (.of [0,4,8,12,16,21,24,28,32,37,40,45,50,52,56,63]) [13,14,15] [1,2,3,4,5,6,7,8] λ_=>?_;refine J.qc (b2p n t q sc.next (by omega) N (Tl.of N) sc.tb) [] λ_=>?_;rintro v As ⟨p,rfl,rfl⟩;refine⟨_,rfl,stq,?_⟩;rw[<- e0];rw[show TlA t (Tl.of N)=TlA t (Dv.mt0 N).t from rfl,show i5 n N=i5 n (Dv.mt0 N).N from rfl,show TbA q sc.tb=TbA q (Dv.mt0 N).T from by rw[e0]];generalize Dv.mt0 N=S0 at h0 hmt ⊢;refine J.q λ_=>?_;refine J.l (α:=(Nat×Tl)) (λz=>z.1<=sc.held.length/\(sc.held.take z.1).foldl (λt b=>t.hold b true) S0.t=z.2/\z.2.Fit S0.N) (λz=>[si 52 z.1,si 51 sc.held.length,sv 50 (slv a2 sc.held.length c2),⟨0,pp n,2, .tt⟩,⟨4,pp (bs 0),6, .tt⟩,⟨6,pp (bf 0),9, .tt⟩]) [6] (λz=>[TlA t z.2]) (λz=>sc.held.length-z.1) ((0,S0.t)) (⟨Nat.zero_le _,rfl,h0.t⟩) λz hI=>?_;obtain⟨i,U⟩:=z;dsimp only at hI ⊢;obtain⟨hi,hfo,hU⟩:=hI;have hUb:=hU.b;have hS0:=h0.gd.ok.bd16;refine J.qd (λ_ h1=>?_) λ_ h1=>?_
 ·simp only[decide_eq_true_eq,Int.ofNat_lt]at h1;obtain⟨x,hx⟩:∃x,sc.held[i]? =some x:=⟨_,List.getElem?_eq_getElem h1⟩;have hsu:=a5o S0.t sc.held true hx;rw[hfo]at hsu;refine J.know (λh' s=>i7 (c:=(a2,c2)) (by omega) (s.get (i:=4) rfl)) λhg=>?_;obtain⟨g,rfl⟩:=hg;refine J.q λ_=>?_;refine J.v (iI x) rfl rfl (λhg aa w he hw=>j9 tk rfl rfl he rfl rfl rfl (hw.get (i:=4) rfl) (by rw[show 0+(i:Int).toNat*1=i from by omega,f9,List.getElem?_map,hx];rfl)) ?_;refine J.qp (a9e t U (by omega) hU.len x true) [6] λ_=>?_;refine J.q λ_=>?_;refine J.n ((i+1,U.hold x true)) (⟨by dsimp only;omega,hsu,hU.hold x true⟩) (by dsimp only;omega) [0,1,2,3,4,5,6,7,8,9]
 simp only[decide_eq_false_iff_not,Int.ofNat_lt]at h1;obtain rfl:i=sc.held.length:=by omega
 rw[List.take_of_length_le (Nat.le_refl _)]at hfo;have hA:S0.holds sc.held true={S0 with t:=U}:=by unfold Dv.holds;rw[hfo]
 have hAO:=h0.holds sc.held true;dsimp only at hmt;obtain⟨Q,hQ⟩:∃Q,Q=S0.holds sc.held true:=⟨_,rfl⟩;rw[<- hQ]at hAO hmt;rw[show i5 n S0.N=i5 n Q.N from by rw[hQ];rfl,show TbA q S0.T=TbA q Q.T from by rw[hQ];rfl,show TlA t U=TlA t Q.t from by rw[hQ,hA],show R0 p n t q S0=R0 p n t q Q from by rw[hQ];rfl];have hf200:sc.first<=200:=by rw[List.length_take]at tn2;omega
 have hRdA:Rd (c9 135 19 a1 sc.torn.length c1 (d6 sc.torn)) (y7 (a1.map λg=>(g,0))) 19 sc.torn.length (d6 sc.torn):=by
  have:=C7 135 19 a1 sc.torn.length c1 (d6 sc.torn)
  rwa [a9q]at this
 have hRd1:Rd (c9 135 19 a1 sc.torn.length c1 (d6 sc.torn)) (y7 (a1.map λg=>(g,0))) 19 sc.first (d6 (sc.torn.take sc.first)):=by
  have:=hRdA.take sc.first tn1
  rwa [X2]at this
 have hnil2:(a1.map λg=>(g,0))=none->c1=0:=λe=>hnil1 (by cases a1 with | none=>rfl | some g=>cases e);have hd1:∀s∈sc.torn.take sc.first,s.data.length=16:=λs hs=>en3 s (List.mem_of_mem_take hs);have hd2:∀s∈sc.torn.drop sc.first,s.data.length=16:=λs hs=>en3 s (List.mem_of_mem_drop hs);have hct1:Dv.costT*sc.first<=Dv.costT*200:=Nat.mul_le_mul_left _ hf200;have hlt1:(sc.torn.take sc.first).length=sc.first:=by rw[List.length_take];omega
 have hAO1:Q.Ok (Dv.costT*sc.first+(96+(Dv.costT*200+(Dv.costM+k)))) m:=hAO.less (by unfold Dv.costK;omega);have hka:=Dv.torn_keep (k:=96+(Dv.costT*200+(Dv.costM+k))) (c:=sc.first) hAO1 (by omega) hd1;refine J.pn 17 (.of [0,4,8,12,17,20,24,28,33,36,40,44,49,52,57,60,65,68,75,76]) [18,19] [5,8] λ_ _=>?_;refine J.vT (.slice (y7 (a1.map λg=>(g,0))) sc.first c1) rfl rfl (λhg aa w he hC=>a0h tk rfl rfl rfl he rfl rfl rfl rfl (by omega)) ?_;refine J.q λ_=>?_;refine J.ca hX (by kernel_rfl) (a6e n t q p Q _ m (c9 135 19 a1 sc.torn.length c1 (d6 sc.torn)) (a1.map λg=>(g,0)) sc.first c1 (sc.torn.take sc.first) hRd1 hlt1 (by omega) (by omega) hnil2 hd1 hAO1 hm) [9,1,6,2,3] 0 rfl rfl rfl rfl rfl rfl (λ_=>rfl) ?_;refine cpq ⟨_,rfl,stq,?_⟩;clear hAO hAO1;generalize Q.torn (sc.torn.take sc.first)=W at hmt hka ⊢;obtain⟨P,er⟩:=W;dsimp only at hmt hka ⊢;refine J.qd (λ_ h2=>?_) λ_ h2=>?_
 ·simp only[bne_iff_ne,ne_eq]at h2;rw[if_pos h2]at hmt;refine J.qr [1] λ_=>?_;rw[hmt];exact .inr ⟨h2,rfl,rfl⟩
 simp only[bne_eq_false_iff_eq]at h2;rw[if_neg (by rw[h2];decide)]at hmt;have hPO:=hka.1;clear hka hU hUb hfo hA hQ h0 e0;refine J.q λ_=>?_;refine J.l (α:=(Nat×Tl)) (λz=>z.1<=sc.held.length/\(sc.held.take z.1).foldl (λt b=>t.hold b false) P.t=z.2/\z.2.Fit P.N) (λz=>[si 88 z.1,si 87 sc.held.length,sv 86 (slv a2 sc.held.length c2),⟨0,pp n,2, .tt⟩,⟨4,pp (bs 0),6, .tt⟩,⟨6,pp (bf 0),9, .tt⟩]) [6] (λz=>[TlA t z.2]) (λz=>sc.held.length-z.1) ((0,P.t)) (⟨Nat.zero_le _,rfl,hPO.t⟩) λz hI=>?_;obtain⟨i,U2⟩:=z;dsimp only at hI ⊢;obtain⟨hi2,hfo,hU⟩:=hI;have hUb:=hU.b;have hP0:=hPO.gd.ok.bd16;refine J.qd (λ_ h3=>?_) λ_ h3=>?_
 ·simp only[decide_eq_true_eq,Int.ofNat_lt]at h3;obtain⟨x,hx⟩:∃x,sc.held[i]? =some x:=⟨_,List.getElem?_eq_getElem h3⟩;have hsu:=a5o P.t sc.held false hx;rw[hfo]at hsu;refine J.know (λh' s=>i7 (c:=(a2,c2)) (by omega) (s.get (i:=4) rfl)) λhg=>?_;obtain⟨g,rfl⟩:=hg;refine J.q λ_=>?_;refine J.v (iI x) rfl rfl (λhg aa w he hw=>j9 tk rfl rfl he rfl rfl rfl (hw.get (i:=4) rfl) (by rw[show 0+(i:Int).toNat*1=i from by omega,f9,List.getElem?_map,hx];rfl)) ?_;refine J.qp (a9e t U2 (by omega) hU.len x false) [6] λ_=>?_;refine J.q λ_=>?_;refine J.n ((i+1,U2.hold x false)) (⟨by dsimp only;omega,hsu,hU.hold x false⟩) (by dsimp only;omega) [0,1,2,3,4,5,6,7,8,9]
 simp only[decide_eq_false_iff_not,Int.ofNat_lt]at h3;obtain rfl:i=sc.held.length:=by omega
 rw[List.take_of_length_le (Nat.le_refl _)]at hfo;have hA:P.holds sc.held false={P with t:=U2}:=by unfold Dv.holds;rw[hfo]
 have hBO:=hPO.holds sc.held false;obtain⟨B,hB⟩:∃B,B=P.holds sc.held false:=⟨_,rfl⟩;rw[<- hB]at hBO hmt;rw[show i5 n P.N=i5 n B.N from by rw[hB];rfl,show TbA q P.T=TbA q B.T from by rw[hB];rfl,show TlA t U2=TlA t B.t from by rw[hB,hA],show R0 p n t q P=R0 p n t q B from by rw[hB];rfl];clear hPO hU hUb hfo hA hB;have hkb:=Dv.clear_keep hBO;have hcl:B.clear=({B with N:=(Dv.clearX B.N B.t B.T B.op).1,t:=(Dv.clearX B.N B.t B.T B.op).2.1},(Dv.clearX B.N B.t B.T B.op).2.2):=rfl;rw[hcl]at hmt hkb;dsimp only at hmt hkb;refine J.p (.of [0,4,8,12,17,20,24,28,33,36,40,44,49,54,58,60]) [15] [5,8] λ_=>?_;refine J.qp (V3 p n t q B) [9] λ_=>?_;refine J.qp (a0U n t q B.N B.t B.T _ m hBO.gd hm hBO.t B.op) [1,6,2] λ_=>?_;generalize Dv.clearX B.N B.t B.T B.op=W at hmt hkb ⊢;obtain⟨N1,t1,er1⟩:=W;dsimp only at hmt hkb ⊢;obtain⟨D,hD⟩:∃D:Dv,D={B with N:=N1,t:=t1}:=⟨_,rfl⟩;rw[<- hD]at hmt hkb;have hDO:=hkb.1;rw[show i5 n N1=i5 n D.N from by rw[hD],show TbA q B.T=TbA q D.T from by rw[hD],show TlA t t1=TlA t D.t from by rw[hD],show R0 p n t q B=R0 p n t q D from by rw[hD];rfl];clear hBO hkb hD hcl;refine J.qd (λ_ h4=>?_) λ_ h4=>?_
 ·simp only[bne_iff_ne,ne_eq]at h4;rw[if_pos h4]at hmt;refine J.qr [1] λ_=>?_;rw[hmt];exact .inr ⟨h4,rfl,rfl⟩
 simp only[bne_eq_false_iff_eq]at h4;rw[if_neg (by rw[h4];decide)]at hmt;have hlt2:(sc.torn.drop sc.first).length=sc.torn.length-sc.first:=List.length_drop;have hl200:(sc.torn.drop sc.first).length<=200:=by omega
 have hct2:Dv.costT*(sc.torn.drop sc.first).length<=Dv.costT*200:=Nat.mul_le_mul_left _ hl200;have hDO1:D.Ok (Dv.costT*(sc.torn.drop sc.first).length+(Dv.costM+k)) m:=hDO.less (by omega);have hkc:=Dv.torn_keep (k:=Dv.costM+k) (c:=(sc.torn.drop sc.first).length) hDO1 (Nat.le_refl _) hd2;have hRd2:Rd (c9 135 19 a1 sc.torn.length c1 (d6 sc.torn)) (y7 (U9 (a1.map λg=>(g,0)) 19 sc.first c1)) 19 (sc.torn.drop sc.first).length (d6 (sc.torn.drop sc.first)):=λh s=>a9l (hRdA h s) rfl tn1 hcap1;refine J.pn 17 (.of [0,4,8,12,17,20,24,28,33,36,40,44,49,52,57,60,65,68,75,76]) [18,19] [5,8] λ_ _=>?_;refine J.vT (.slice (y7 (U9 (a1.map λg=>(g,0)) 19 sc.first c1)) (sc.torn.length-sc.first) (c1-sc.first)) rfl rfl (λhg aa w he hC=>W9 tk rfl rfl rfl he rfl rfl rfl rfl rfl tn1) ?_;rw[<- hlt2];refine J.q λ_=>?_;refine J.ca hX (by kernel_rfl) (a6e n t q p D _ m (c9 135 19 a1 sc.torn.length c1 (d6 sc.torn)) (U9 (a1.map λg=>(g,0)) 19 sc.first c1) (sc.torn.drop sc.first).length (c1-sc.first) (sc.torn.drop sc.first) hRd2 rfl (by omega) (by omega) (a0t hnil2) hd2 hDO1 hm) [9,1,6,2,3] 0 rfl rfl rfl rfl rfl rfl (λ_=>rfl) ?_;refine cpq ⟨_,rfl,stq,?_⟩;clear hDO hDO1;generalize D.torn (sc.torn.drop sc.first)=W at hmt hkc ⊢;obtain⟨P2,er2⟩:=W;dsimp only at hmt hkc ⊢;refine J.qd (λ_ h5=>?_) λ_ h5=>?_
 ·simp only[bne_iff_ne,ne_eq]at h5;rw[if_pos h5]at hmt;refine J.qr [1] λ_=>?_;rw[hmt];exact .inr ⟨h5,rfl,rfl⟩
 simp only[bne_eq_false_iff_eq]at h5;rw[if_neg (by rw[h5];decide)]at hmt;refine J.p (.of [0,4,8,12,17,20,24,28,33,36,40,44,49,55,56]) [13,14] [5,8] λ_=>?_;refine J.qp (a0T n t q p P2 _ m hkc.1 hm) [9,1,6,2] λ_=>?_;generalize P2.room=W at hmt ⊢;obtain⟨P3,er3⟩:=W;dsimp only at hmt ⊢;refine J.qd (λ_ h6=>?_) λ_ h6=>?_
 ·simp only[bne_iff_ne,ne_eq]at h6;refine J.qr [1] λ_=>?_;rw[hmt];exact .inr ⟨h6,rfl,rfl⟩
 simp only[bne_eq_false_iff_eq]at h6;refine J.qr [8,9,1,6,2,7] λ_=>?_;rw[hmt];exact .inl ⟨h6,bf 0,p,t,q,d,rfl,rfl⟩
def Fl.turn (f:Fl):Bool:=if f.kind≠5 then decide (f.n=0)&&decide (f.xx=0)else decide (f.n>=0)&&decide (f.n<32)&&decide (f.xx>=1)&&decide (f.xx<=255)
def Fl.may (D B P:Nat) (f:Fl):Bool:=decide (f.at_>=0)&&decide (f.kind>=1)&&decide (f.kind<=5)&&C0 D B P f.x f.y f.z&&f.turn
theorem b6o (x y:Fl):FP 93 [flV x,flV y] [] (Ps (iI (C1 x.at_ y.at_)) []):=by
 refine FE [0,0] Tryz.func93 λX F hX=>?_;refine J.qp (K9 x.at_ y.at_) [] λ_=>?_;exact J.qx []
theorem b7u (D B P:Nat) (hD:D<=1000) (hB:B<=1000) (hP:P<=1000) (f:Fl):FP 91 [.agg #[iI D,iI B,iI P],flV f] [] (Ps (.bool (f.may D B P)) []):=by
 refine FE [0,0] Tryz.func91 λX F hX=>?_;have fin:∀(T:Bool),T=f.turn->Fl.may D B P f=(decide (f.at_>=0)&&decide (f.kind>=1)&&decide (f.kind<=5)&&C0 D B P f.x f.y f.z&&T):=λT h=>by rw[h];rfl
 refine J.run hX tk 400 (λb4=>rfl) (λb4=>?_) (λb4=>?_)
 ·(repeat' (first | exact Conj.nil | refine Conj.cons ?_ ?_ | exact rfl | exact hq | (exact Bool.noConfusion hq) | (rw[hq];rfl) | (rw[(Bool.not_eq_true' _).mp hq]) | intro hq | omega | (simp;done)))
 refine J.qd (λ_ h1=>?_) λ_ h1=>?_
 ·have hk:f.kind≠5:=by simpa using h1
  have hT:(decide (f.n=0)&&decide (f.xx=0))=f.turn:=by unfold Fl.turn;rw[if_pos hk]
  have fin:=fin _ hT;refine J.run hX tk 400 (λb6=>rfl) (λb6=>?_) (λb6=>?_)
  ·(repeat' (first | exact Conj.nil | refine Conj.cons ?_ ?_ | exact rfl | exact hq | (exact Bool.noConfusion hq) | (rw[hq];rfl) | (rw[(Bool.not_eq_true' _).mp hq]) | intro hq | omega | (simp;done)))
  cases hb:(decide (f.at_>=0)&&decide (f.kind>=1)&&decide (f.kind<=5))with
  | true=>
   rw[hb,Bool.true_and]at fin;refine J.qp (a7L D B P f.x f.y f.z (by omega) (by omega) (by omega)) [] λ_=>?_;refine J.run hX tk 400 (λb8=>rfl) (λb8=>?_) (λb8=>?_)
   ·(repeat' (first | exact Conj.nil | refine Conj.cons ?_ ?_ | exact rfl | exact hq | (exact Bool.noConfusion hq) | (rw[hq];rfl) | (rw[(Bool.not_eq_true' _).mp hq]) | intro hq | omega | (simp;done)))
   refine J.qr [] λ_=>?_;exact⟨by rw[fin];rfl,rfl⟩
  | false=>
   rw[hb,Bool.false_and,Bool.false_and]at fin;refine J.v (.bool false) rfl rfl (λhg a w he hw=>by simp[G.on]at hg) ?_;refine J.run hX tk 400 (λb10=>rfl) (λb10=>?_) (λb10=>?_)
   ·(repeat' (first | exact Conj.nil | refine Conj.cons ?_ ?_ | exact rfl | exact hq | (exact Bool.noConfusion hq) | (rw[hq];rfl) | (rw[(Bool.not_eq_true' _).mp hq]) | intro hq | omega | (simp;done)))
   refine J.qr [] λ_=>?_;exact⟨by rw[fin];rfl,rfl⟩
 ·have hk:¬f.kind≠5:=by simpa using h1
  have hT:(decide (f.n>=0)&&decide (f.n<32)&&decide (f.xx>=1)&&decide (f.xx<=255))=f.turn:=by unfold Fl.turn;rw[if_neg hk]
  have fin:=fin _ hT;refine J.run hX tk 400 (λb12=>rfl) (λb12=>?_) (λb12=>?_)
  ·(repeat' (first | exact Conj.nil | refine Conj.cons ?_ ?_ | exact rfl | exact hq | (exact Bool.noConfusion hq) | (rw[hq];rfl) | (rw[(Bool.not_eq_true' _).mp hq]) | intro hq | omega | (simp;done)))
  cases hb:(decide (f.at_>=0)&&decide (f.kind>=1)&&decide (f.kind<=5))with
  | true=>
   rw[hb,Bool.true_and]at fin;refine J.qp (a7L D B P f.x f.y f.z (by omega) (by omega) (by omega)) [] λ_=>?_;refine J.run hX tk 400 (λb14=>rfl) (λb14=>?_) (λb14=>?_)
   ·(repeat' (first | exact Conj.nil | refine Conj.cons ?_ ?_ | exact rfl | exact hq | (exact Bool.noConfusion hq) | (rw[hq];rfl) | (rw[(Bool.not_eq_true' _).mp hq]) | intro hq | omega | (simp;done)))
   refine J.qr [] λ_=>?_;exact⟨by rw[fin];rfl,rfl⟩
  | false=>
   rw[hb,Bool.false_and,Bool.false_and]at fin;refine J.v (.bool false) rfl rfl (λhg a w he hw=>by simp[G.on]at hg) ?_;refine J.run hX tk 400 (λb16=>rfl) (λb16=>?_) (λb16=>?_)
   ·(repeat' (first | exact Conj.nil | refine Conj.cons ?_ ?_ | exact rfl | exact hq | (exact Bool.noConfusion hq) | (rw[hq];rfl) | (rw[(Bool.not_eq_true' _).mp hq]) | intro hq | omega | (simp;done)))
   refine J.qr [] λ_=>?_;exact⟨by rw[fin];rfl,rfl⟩
theorem b3r (c:Nat) (a:Option Nat) (cap:Nat):FP 199 [slv a 0 cap,iI 0,iI 0,fnV c] [] (Ps (.tuple #[]) []):=by
 refine FE [0,0,0,0] Tryz.func199 λX F hX=>?_;refine J.q λ_=>?_;refine J.l (α:=Unit) (λ_u=>True) (λ_u=>[si 8 1,si 2 0]) [] (λ_u=>[]) (λ_u=>0) (()) (trivial) λ_u hI=>?_;refine J.qF λ_=>?_;refine J.q λ_=>?_;refine J.f [] ?_;exact⟨rfl,rfl⟩
def X0 (x y:Fl):Int:=C1 x.at_ y.at_
theorem b1M (g n cap:Nat) (l:List Fl) (hl:l.length=n) (hn:n<=15) (r:List Value):FP 144 [.slice (some ⟨g,0,none⟩) n cap,iI n,fnV 93] [.pt g 35 (f6 l++r)] (Ps (.tuple #[]) [.pt g 35 (f6 (B5 X0 l)++r)]):=by
 refine FE [2,0,0] Tryz.func144 λX F hX=>?_;refine J.q λ_=>?_;refine J.l (α:=Unit) (λ_u=>True) (λ_u=>[si 8 20,si 7 0,si 6 20,⟨0, .slice (some ⟨g,0,none⟩) n cap,2, .tt⟩,si 1 n,⟨2,fnV 93,0, .tt⟩]) [] (λ_u=>[]) (λ_u=>0) (()) (trivial) λ_u hI=>?_;refine J.qd (λ_ h1=>?_) λ_ h1=>?_
 ·simp only[decide_eq_true_eq]at h1;omega
 refine J.qp (b5t 93 X0 (by kernel_rfl) b6o g n cap l hl (by omega) r) [1] λ_=>?_;refine J.q λ_=>?_;refine J.l (α:=Unit) (λ_u=>True) (λ_u=>[si 6 20,⟨0, .slice (some ⟨g,0,none⟩) n cap,2, .tt⟩,si 1 n,⟨2,fnV 93,0, .tt⟩]) [] (λ_u=>[]) (λ_u=>0) (()) (trivial) λ_u hI=>?_;refine J.qd (λ_ h2=>?_) λ_ h2=>?_
 ·simp only[decide_eq_true_eq]at h2;omega
 refine J.q λ_=>?_;refine J.f [1] ?_;exact⟨rfl,rfl⟩
theorem b0f (a:Option Nat) (cap:Nat):FP 144 [slv a 0 cap,iI 0,fnV 93] [] (Ps (.tuple #[]) []):=by
 refine FE [0,0,0] Tryz.func144 λX F hX=>?_;refine J.q λ_=>?_;refine J.l (α:=Unit) (λ_u=>True) (λ_u=>[si 8 20,si 7 0,si 6 20,sv 0 (slv a 0 cap),si 1 0,⟨2,fnV 93,0, .tt⟩]) [] (λ_u=>[]) (λ_u=>0) (()) (trivial) λ_u hI=>?_;refine J.qF λ_=>?_;refine J.qp (b3r 93 a cap) [] λ_=>?_;refine J.q λ_=>?_;refine J.l (α:=Unit) (λ_u=>True) (λ_u=>[si 6 20,si 1 0]) [] (λ_u=>[]) (λ_u=>0) (()) (trivial) λ_u hI=>?_;refine J.qF λ_=>?_;refine J.q λ_=>?_;refine J.f [] ?_;exact⟨rfl,rfl⟩
theorem b6n (a:Option Nat) (n cap:Nat) (l:List Fl) (hl:l.length=n) (hn:n<=15):FP 92 [slv a n cap,fnV 93] [c9 35 7 a n cap (f6 l)] (Ps (.tuple #[]) [c9 35 7 a n cap (f6 (B5 X0 l))]):=by
 refine FE [0,0] Tryz.func92 λX F hX=>?_;refine J.q λ_=>?_;rcases Nat.eq_zero_or_pos n with h0 | h0
 ·subst h0;obtain rfl:l=[]:=List.length_eq_zero_iff.1 hl;refine J.qp (b0f a cap) [] λ_=>?_;refine J.q λ_=>?_;refine J.f [1] ?_;exact⟨rfl,rfl⟩
 refine J.know (λh' s=>i7 (c:=(a,cap)) (by omega) (s.get (i:=1) rfl)) λhg=>?_;obtain⟨g,rfl⟩:=hg;refine J.openOwn 1 rfl rfl (λ_=>rfl) λr q1 q2 q3 q4=>?_;refine J.qp (b1M g n cap l hl hn r) [1] λ_=>?_;have hlen:(B5 X0 l).length=n:=by rw[(a2g X0 l).length_eq,hl]
 refine J.closeOwn (e:=35) (size:=7) (n:=n) (cap:=cap) (xs:=f6 (B5 X0 l)) 1 rfl rfl (by rw[C5,hlen]) q2 q3 (by rw[List.length_append,C5,hlen];rw[C5,hl]at q4;exact q4) (List.take_left' (by rw[C5,hlen])) rfl ?_;refine J.q λ_=>?_;refine J.f [1] ?_;exact⟨rfl,rfl⟩
def plF (D B P:Nat) (l:List Fl):List Fl:=l.filter (Fl.may D B P)
theorem b2q (D B P:Nat) (l:List Fl) (k:Nat) (x:Fl) (h:l[k]? =some x):plF D B P (l.take (k+1))=if x.may D B P then plF D B P (l.take k)++[x]else plF D B P (l.take k):=by
 unfold plF;rw[List.take_add_one,h,Option.toList_some,List.filter_append]
 by_cases hx:x.may D B P
 ·rw[if_pos hx,List.filter_cons_of_pos hx];rfl
 ·rw[if_neg hx,List.filter_cons_of_neg hx,List.filter_nil,List.append_nil]
theorem b2r (D B P:Nat) (l:List Fl):(plF D B P l).length<=l.length:=List.length_filter_le _ _
theorem a1p (l:List Fl) (x:Fl):f6 l++flC x=f6 (l++[x]):=by unfold f6;rw[List.flatMap_append];simp
theorem b5S (D B P:Nat) (hD:D<=1000) (hB:B<=1000) (hP:P<=1000) (A:Atom) (ad:Option Addr) (n c:Nat) (l:List Fl) (hA:Rd A ad 7 n (f6 l)) (hl:l.length=n) (hn:n<=15):FP 49 [.agg #[iI D,iI B,iI P], .slice ad n c] [A]
  (λv As=>∃p a c,v=pp p/\As=[A, .pt p 155 [slv a (plF D B P l).length c],c9 35 7 a (plF D B P l).length c (f6 (B5 X0 (plF D B P l)))]):=by
 refine FE [0,0] Tryz.func49 λX F hX=>?_;refine J.q λbp=>?_;refine J.turn1 [] rfl (As:=[c9 35 7 none 0 0 (f6 [])]) (λh s=>Sep.one ⟨rfl,rfl,rfl⟩) rfl ?_;refine J.q λ_=>?_;refine J.l (α:=(Nat×Option Nat×Nat)) (λz=>z.1<=n) (λz=>[si 12 z.1,si 11 n,sv 10 (.slice ad n c),⟨5,pp (bp (0+1)),4, .tt⟩,⟨2,pp (bp 0),3, .tt⟩]) [3,4] (λz=>[.pt (bp (0+1)) 155 [slv z.2.1 (plF D B P (l.take z.1)).length z.2.2],c9 35 7 z.2.1 (plF D B P (l.take z.1)).length z.2.2 (f6 (plF D B P (l.take z.1)))]) (λz=>n-z.1) ((0,none,0)) (Nat.zero_le _) λz hI=>?_;obtain⟨k,ga,ca⟩:=z;dsimp only at hI ⊢;refine J.qd (λ_ h1=>?_) λ_ h1=>?_
 ·simp only[decide_eq_true_eq,Int.ofNat_lt]at h1;obtain⟨x,hx⟩:∃x,l[k]? =some x:=⟨_,List.getElem?_eq_getElem (by omega)⟩;have hsn:=b2q D B P l k x hx;have hle:=b2r D B P (l.take k);rw[List.length_take]at hle;refine J.know (p:=∃g o,ad=some ⟨g,o,none⟩) (λh' s=>Rd.addr (hA _ (s.get (i:=1) rfl)) (by omega)) λhk2=>?_;obtain⟨g,o,rfl⟩:=hk2;refine J.q λ_=>?_;refine J.v (flV x) rfl rfl (λhg a w he hw=>?_) ?_
  ·exact R2 tk rfl rfl he rfl rfl rfl (hA _ (hw.get (i:=1) rfl)) (by omega) (j:=k*7) (by omega) (by have:=C9 l [] k _ hx;rwa [List.append_nil]at this) rfl
  refine J.qp (b7u D B P hD hB hP x) [] λ_=>?_;refine J.qd (λ_ h2=>?_) λ_ h2=>?_
  ·rw[if_pos h2]at hsn;refine J.pq (.of [0,4,8,12,17,21,26,30,32,36,43]) [8,9,10] [3,5] λ_ _=>?_;refine J.ap 4 6 0 (a1p (plF D B P (l.take k)) x) λa3 c3=>?_;refine J.q λ_=>?_;rw[show(plF D B P (l.take k)).length+1=(plF D B P (l.take (k+1))).length from by rw[hsn,List.length_append];rfl,<- hsn];refine J.q λ_=>?_;refine J.n ((k+1,a3,c3)) (by dsimp only;omega) (by dsimp only;omega) [0,1,2,3,4]
  ·rw[if_neg (by rw[h2];decide)]at hsn;refine J.q λ_=>?_;rw[<- hsn];refine J.q λ_=>?_;refine J.n ((k+1,ga,ca)) (by dsimp only;omega) (by dsimp only;omega) [0,1,2,3,4]
 simp only[decide_eq_false_iff_not,Int.ofNat_lt]at h1;obtain rfl:k=n:=by omega
 rw[List.take_of_length_le (by omega)];have hle:=b2r D B P l;refine J.q λ_=>?_;refine J.ca hX (by kernel_rfl) (b6n ga _ ca (plF D B P l) rfl (by omega)) [4] 0 rfl rfl rfl rfl rfl rfl (λ_=>rfl) ?_;refine cpq ⟨_,rfl,trivial,?_⟩;refine J.qr [1,3,4] λ_=>?_;exact⟨bp (0+1),ga,ca,rfl,rfl⟩
theorem a1q (L:List Fl):∀k,(f6 L).drop (k*7)=f6 (L.drop k):=by
 induction L with
 | nil=>intro k;simp[f6]
 | cons x l ih=>
  intro k;cases k with
  | zero=>simp
  | succ k=>
   have e1:f6 (x::l)=flC x++f6 l:=by simp[f6]
   rw[e1,List.drop_succ_cons,<- ih k,show(k+1)*7=(flC x).length+k*7 from by show _=7+k*7;omega,<- List.drop_drop,List.drop_left' rfl]
theorem a6y (L:List Fl):∀k,(f6 L).take (k*7)=f6 (L.take k):=by
 induction L with
 | nil=>intro k;simp[f6]
 | cons x l ih=>
  intro k;cases k with
  | zero=>simp[f6]
  | succ k=>
   have e1:∀m,f6 (x::m)=flC x++f6 m:=λm=>by simp[f6]
   rw[e1,List.take_succ_cons,e1,<- ih k,show(k+1)*7=(flC x).length+k*7 from by show _=7+k*7;omega,List.take_length_add_append]
theorem a7V (L:List Fl):∀u∈f6 L,u.oneCell'=true:=by
 intro u hu;unfold f6 at hu;obtain⟨x,_,hx⟩:=List.mem_flatMap.1 hu;simp only[flC,List.mem_cons,List.not_mem_nil,or_false]at hx;rcases hx with rfl | rfl | rfl | rfl | rfl | rfl | rfl<;>rfl
theorem a9d {α:Type} (p:α->Bool):∀(L:List α) (k:Nat) (x:α),k<=(L.takeWhile p).length->L[k]? =some x->(p x=true->k+1<=(L.takeWhile p).length)/\(p x=false->k=(L.takeWhile p).length)
 | [],k,x,_,h=>by simp at h
 | y::L,0,x,_,h=>by
  simp only[List.getElem?_cons_zero,Option.some.injEq]at h;subst h;rw[List.takeWhile_cons];constructor
  ·intro e;rw[if_pos e,List.length_cons];omega
  ·intro e;rw[if_neg (by rw[e];decide)];rfl
 | y::L,k+1,x,hk,h=>by
  rw[List.takeWhile_cons]at hk ⊢
  by_cases e:p y=true
  ·rw[if_pos e]at hk ⊢;rw[List.length_cons]at hk ⊢;have:=a9d p L k x (by omega) (by simpa using h);constructor
   ·intro h1;have:=this.1 h1;omega
   ·intro h1;have:=this.2 h1;omega
  ·rw[if_neg e]at hk;simp at hk
theorem b5T {α:Type} (p:α->Bool) (L:List α):(L.takeWhile p).length<=L.length:=by
 have:=congrArg List.length (List.takeWhile_append_dropWhile (p:=p) (l:=L));rw[List.length_append]at this;omega
theorem b4v {α:Type} (p:α->Bool) (L:List α):L.take (L.takeWhile p).length=L.takeWhile p/\L.drop (L.takeWhile p).length=L.dropWhile p:=by
 have h:=List.takeWhile_append_dropWhile (p:=p) (l:=L);constructor
 ·conv=>lhs;arg 2;rw[<- h]
  exact List.take_left' rfl
 ·conv=>lhs;arg 2;rw[<- h]
  exact List.drop_left' rfl
def a5I (p:Nat) (a:Option (Nat×Nat)) (c:Nat) (L:List Fl):List Atom:=[.pt p 155 [.slice (y7 a) L.length c],rdA (y7 a) 7 L.length (f6 L)]
theorem a4G (a:Option (Nat×Nat)) (n c k:Nat) (L:List Fl) (hl:L.length=n) (hz:a=none->c=0) (hk:k<=n) (hc:n<=c) (hn:n<=1000000):FP 146 [.slice (y7 a) k c] [rdA (y7 a) 7 n (f6 L)]
  (λv As=>∃a' c',v=slv a' k c'/\As=[rdA (y7 a) 7 n (f6 L),c9 35 7 a' k c' (f6 (L.take k))]):=by
 refine FE [0] Tryz.func146 λX F hX=>?_;cases a with
 | none=>
  have:=hz rfl;obtain rfl:k=0:=by omega
  refine J.qT λ_=>?_;refine J.turn1 [] rfl (As:=[c9 35 7 none 0 0 (f6 [])]) (λh s=>Sep.one ⟨rfl,rfl,rfl⟩) rfl ?_;refine J.qr [1,2] λ_=>?_;exact⟨none,0,rfl,rfl⟩
 | some g=>
  refine J.qF λ_=>?_;refine J.qn 5 λbb=>?_;refine J.closeOwn (e:=35) (size:=7) (n:=0) (cap:=0) (xs:=[]) 2 rfl rfl rfl (Nat.le_refl _) (Nat.zero_le _) rfl rfl rfl ?_;refine J.q λ_=>?_;have hRd:Rd (rdA (y7 (some g)) 7 n (f6 L)) (y7 (some g)) 7 k (f6 (L.take k)):=by
   have:=(a5W (y7 (some g)) 7 n (f6 L)).take k hk
   rwa [a6y]at this
  refine J.appendRO hX tk (a:=some (bb 0)) (n:=0) (cap:=0) (xs:=[]) (Ay:=rdA (y7 (some g)) 7 n (f6 L)) 2 1 (λe=>by cases e) rfl rfl rfl rfl rfl rfl rfl rfl rfl hRd rfl rfl rfl rfl (a7V _) ?_ ?_ (λ_=>rfl) λa' c'=>⟨_,rfl,trivial,?_⟩
  ·simp only[maxLen];omega
  ·omega
  rw[Nat.zero_add k,List.nil_append];refine J.qr [1,2] λ_=>?_;exact⟨a',c',rfl,rfl⟩
def b5G (ops:Int) (f:Fl):Bool:=decide (f.at_<=ops)
def B1 (ops:Int) (L:List Fl):List Fl:=L.takeWhile (b5G ops)
def Z9 (ops:Int) (L:List Fl):List Fl:=L.dropWhile (b5G ops)
theorem b7v (p:Nat) (a:Option (Nat×Nat)) (c:Nat) (L:List Fl) (hz:a=none->c=0) (hc:L.length<=c) (hn:L.length<=1000) (ops:Int):FP 95 [pp p,iI ops] (a5I p a c L)
  (λv As=>∃a' c' a2 c2,(a'=none->c'=0)/\(Z9 ops L).length<=c'/\v=slv a2 (B1 ops L).length c2/\As=a5I p a' c' (Z9 ops L)++[c9 35 7 a2 (B1 ops L).length c2 (f6 (B1 ops L))]):=by
 refine FE [2,0] Tryz.func95 λX F hX=>?_;refine J.qF λ_=>?_;refine J.q λ_=>?_;refine J.l (α:=Nat) (λk=>k<=(B1 ops L).length) (λk=>[si 5 k,⟨0,pp p,2, .tt⟩,si 1 ops]) [] (λk=>[]) (λk=>L.length-k) (0) (Nat.zero_le _) λk hI=>?_;have hle:(B1 ops L).length<=L.length:=b5T _ _;obtain⟨htk,hdr⟩:=b4v (b5G ops) L;have htk:L.take (B1 ops L).length=B1 ops L:=htk;have hdr:L.drop (B1 ops L).length=Z9 ops L:=hdr;refine J.qn 10 λ_=>?_;rcases Nat.lt_or_ge k L.length with h1 | h1
 ·obtain⟨x,hx⟩:∃x,L[k]? =some x:=⟨_,List.getElem?_eq_getElem h1⟩;have htw:=a9d (b5G ops) L k x hI hx;refine J.know (λh' s=>b0B (show rdP (y7 a) 7 L.length (f6 L) h' from s.get (i:=2) rfl) (by omega)) λhg=>?_;obtain⟨⟨g,o⟩,rfl⟩:=hg;rw[show decide ((k:Int)<(L.length:Int))=true from decide_eq_true (by omega)];refine J.q λ_=>?_;refine J.v (iI x.at_) rfl rfl (λhg aa w he hw=>a0V tk rfl rfl he rfl rfl rfl (a5W _ _ _ _ _ (hw.get (i:=2) rfl)) (by omega) (j:=k*7+0) (by omega) (K7 flC 7 (λ_=>rfl) hx 0 (by omega))) ?_;refine J.qd (λ_ h2=>?_) λ_ h2=>?_
  ·simp only[Bool.true_and]at h2;have hk:=htw.1 h2;refine J.q λ_=>?_;refine J.n (k+1) (hk) (by omega) [0,1,2]
  ·simp only[Bool.true_and]at h2;have hk:k=(B1 ops L).length:=htw.2 h2;subst hk;refine J.qn 8 λ_=>?_;refine J.v (.slice (y7 (some (g,o))) (B1 ops L).length c) rfl rfl (λhg aa w he hw=>a0h tk rfl rfl rfl he rfl rfl rfl rfl (by omega)) ?_;refine J.qc (a4G (some (g,o)) L.length c (B1 ops L).length L rfl hz hle hc (by omega)) [2] λ_=>?_;rintro v As ⟨a2,c2,rfl,rfl⟩;refine⟨_,rfl,trivial,?_⟩;refine J.qn 10 λ_=>?_;refine J.v (.slice (y7 (U9 (some (g,o)) 7 (B1 ops L).length c)) (L.length-(B1 ops L).length) (c-(B1 ops L).length)) rfl rfl (λhg aa w he hw=>W9 tk rfl rfl rfl he rfl rfl rfl rfl rfl hle) ?_;refine J.q λ_=>?_;refine J.turn1 [2] rfl (As:=[rdA (y7 (U9 (some (g,o)) 7 (B1 ops L).length c)) 7 (L.length-(B1 ops L).length) ((f6 L).drop ((B1 ops L).length*7))]) (λh s=>Sep.one (a5V (show rdP (y7 (some (g,o))) 7 L.length (f6 L) h from s.get (i:=0) rfl) hle hc)) rfl ?_;refine J.qr [1,2,3] λ_=>?_;refine⟨U9 (some (g,o)) 7 (B1 ops L).length c,c-(B1 ops L).length,a2,c2,a0t hz,by rw[<- hdr,List.length_drop];omega,rfl,?_⟩;unfold a5I;rw[<- hdr,List.length_drop,a1q,htk];rfl
 ·have hk:k=(B1 ops L).length:=by omega
  rw[show decide ((k:Int)<(L.length:Int))=false from decide_eq_false (by omega)];refine J.qn 6 λ_=>?_;refine J.v (pp 0) rfl rfl (λhg a w he hw=>by simp[G.on]at hg) ?_;refine J.qn 1 λ_=>?_;refine J.v (iI 0) rfl rfl (λhg a w he hw=>by simp[G.on]at hg) ?_;refine J.qF λ_=>?_;subst hk;refine J.qn 8 λ_=>?_;refine J.v (.slice (y7 (a)) (B1 ops L).length c) rfl rfl (λhg aa w he hw=>a0h tk rfl rfl rfl he rfl rfl rfl rfl (by omega)) ?_;refine J.qc (a4G (a) L.length c (B1 ops L).length L rfl hz hle hc (by omega)) [2] λ_=>?_;rintro v As ⟨a2,c2,rfl,rfl⟩;refine⟨_,rfl,trivial,?_⟩;refine J.qn 10 λ_=>?_;refine J.v (.slice (y7 (U9 (a) 7 (B1 ops L).length c)) (L.length-(B1 ops L).length) (c-(B1 ops L).length)) rfl rfl (λhg aa w he hw=>W9 tk rfl rfl rfl he rfl rfl rfl rfl rfl hle) ?_;refine J.q λ_=>?_;refine J.turn1 [2] rfl (As:=[rdA (y7 (U9 (a) 7 (B1 ops L).length c)) 7 (L.length-(B1 ops L).length) ((f6 L).drop ((B1 ops L).length*7))]) (λh s=>Sep.one (a5V (show rdP (y7 (a)) 7 L.length (f6 L) h from s.get (i:=0) rfl) hle hc)) rfl ?_;refine J.qr [1,2,3] λ_=>?_;refine⟨U9 (a) 7 (B1 ops L).length c,c-(B1 ops L).length,a2,c2,a0t hz,by rw[<- hdr,List.length_drop];omega,rfl,?_⟩;unfold a5I;rw[<- hdr,List.length_drop,a1q,htk];rfl
def flN (N:Nand) (f:Fl):Nand:=(N.fault f.kind f.x f.y f.z f.n f.xx).2
def O5 (N:Nand) (l:List Fl):Nand:=l.foldl flN N
theorem b1d (N:Nand) (l:List Fl) {k:Nat} {x:Fl} (h:l[k]? =some x):O5 N (l.take (k+1))=flN (O5 N (l.take k)) x:=by
 unfold O5;rw[List.take_add_one,h,Option.toList_some,List.foldl_append];rfl
theorem a2N {N:Nand} {k m:Nat} (h:N.Gd k m):∀(l:List Fl),(O5 N l).Gd k (m+l.length)
 | []=>h
 | f::l=>by
  have:=a2N (h.fault f.kind f.x f.y f.z f.n f.xx) l;rw[List.length_cons,show m+(l.length+1)=m+1+l.length from by omega];exact this
theorem b7t (p n:Nat) (a:Option (Nat×Nat)) (c:Nat) (L:List Fl) (hz:a=none->c=0) (hc:L.length<=c) (hn:L.length<=1000) (N:Nand) (k m:Nat) (hG:N.Gd k m):FP 50 [pp p,pp n] (a5I p a c L++[i5 n N])
  (λv As=>∃a' c',(a'=none->c'=0)/\(Z9 N.ops L).length<=c'/\v=iI (B1 N.ops L).length/\As=a5I p a' c' (Z9 N.ops L)++[i5 n (O5 N (B1 N.ops L))]):=by
 refine FE [2,4] Tryz.func50 λX F hX=>?_;refine J.qp (a9u n N) [3] λ_=>?_;refine J.qc (b7v p a c L hz hc hn N.ops) [1,2] λ_=>?_;rintro v As ⟨a',c',a2,c2,hz',hc',rfl,rfl⟩;refine⟨_,rfl,trivial,?_⟩;have hle:(B1 N.ops L).length<=L.length:=b5T _ _;obtain⟨R,hR⟩:∃R,Z9 N.ops L=R:=⟨_,rfl⟩;obtain⟨D,hD⟩:∃D,B1 N.ops L=D:=⟨_,rfl⟩;rw[hR]at hc' ⊢;rw[hD]at hle ⊢;refine J.q λ_=>?_;refine J.l (α:=Nat) (λj=>j<=D.length) (λj=>[si 14 j,si 13 D.length,sv 12 (slv a2 D.length c2),sv 5 (slv a2 D.length c2),⟨1,pp n,4, .tt⟩]) [3] (λj=>[i5 n (O5 N (D.take j))]) (λj=>D.length-j) (0) (Nat.zero_le _) λj hI=>?_;refine J.qd (λ_ h1=>?_) λ_ h1=>?_
 ·simp only[decide_eq_true_eq,Int.ofNat_lt]at h1;obtain⟨x,hx⟩:∃x,D[j]? =some x:=⟨_,List.getElem?_eq_getElem (by omega)⟩;have hsn:=b1d N D hx;have hOk:=(a2N hG (D.take j)).ok;refine J.know (λh' s=>i7 (c:=(a2,c2)) (by omega) (s.get (i:=4) rfl)) λhg=>?_;obtain⟨g,rfl⟩:=hg;refine J.q λ_=>?_;refine J.v (flV x) rfl rfl (λhg aa w he hw=>o0 tk rfl rfl he rfl rfl rfl (hw.get (i:=4) rfl) (by rw[show 0+(j:Int).toNat*7=j*7 from by omega];exact J6 flC 7 (λ_=>rfl) D j x hx) rfl) ?_;refine J.qp (a0o n (O5 N (D.take j)) hOk x.at_ x.kind x.x x.y x.z x.n x.xx) [3] λ_=>?_;rw[show((O5 N (D.take j)).fault x.kind x.x x.y x.z x.n x.xx).2=O5 N (D.take (j+1))from hsn.symm];refine J.q λ_=>?_;refine J.n (j+1) (by omega) (by omega) [0,1,2,3,4]
 simp only[decide_eq_false_iff_not,Int.ofNat_lt]at h1;obtain rfl:j=D.length:=by omega
 rw[List.take_of_length_le (Nat.le_refl _)];refine J.qr [1,2,3] λ_=>?_;rw[hR,hD];exact⟨a',c',hz',hc',rfl,rfl⟩
end Go.Proofs.YtpohajhbfllbbaaGreat
