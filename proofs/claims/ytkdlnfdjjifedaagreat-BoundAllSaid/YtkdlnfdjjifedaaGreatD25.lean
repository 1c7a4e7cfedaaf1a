/- Helpers, proved here. No condition. -/
import Derived.Test.YtkdlnfdjjifedaaGreatD06
import Derived.Test.YtkdlnfdjjifedaaGreatD09
import Derived.Test.YtkdlnfdjjifedaaGreatD19
import Derived.Test.YtkdlnfdjjifedaaGreatD23
import Derived.Test.YtkdlnfdjjifedaaGreatD24
set_option maxRecDepth 20000
set_option linter.all false
namespace Go.Proofs.YtkdlnfdjjifedaaGreat
open Go Go.RowKit
theorem ft_Write (f p n t l d:Nat) (Z:Fv) (k m:Nat) (hO:Z.Ok (Fv.cW+(1+k)) m) (hm:m<=12) (i:Int) (x:List UInt8) (hx:x.length=16):Fn Tryz.prog 31 [.pointer (some ⟨f,0,none⟩), .int .i64 i,datV x] (FvP f p n t l d Z)
  (λv As=>v= .int .i64 (Z.write i x).2/\As=FvP f p n t l d (Z.write i x).1):=by
 refine Fn.enter [2,0,0] Tryz.func31 rfl rfl rfl λX F hX=>?_;refine J.q hX λ_=>?_;refine J.cb hX (ft_waits f p n t l d Z k m hO hm ⟨i,0,1,x⟩ hx) [1,2,3,4,5,6] ?_;refine cpq ⟨_,rfl,trivial,?_⟩;refine J.q hX λ_=>?_;exact J.ru hX [1,2,3,4,5,6] ⟨rfl,rfl⟩
theorem ft_Trim (f p n t l d:Nat) (Z:Fv) (k m:Nat) (hO:Z.Ok (Fv.cW+(1+k)) m) (hm:m<=12) (i:Int):Fn Tryz.prog 32 [.pointer (some ⟨f,0,none⟩), .int .i64 i] (FvP f p n t l d Z)
  (λv As=>v= .int .i64 (Z.trim i).2/\As=FvP f p n t l d (Z.trim i).1):=by
 refine Fn.enter [2,0] Tryz.func32 rfl rfl rfl λX F hX=>?_;refine J.q hX λ_=>?_;refine J.cb hX (ft_waits f p n t l d Z k m hO hm ⟨i,0,2,zeros16⟩ rfl) [1,2,3,4,5,6] ?_;refine cpq ⟨_,rfl,trivial,?_⟩;refine J.q hX λ_=>?_;exact J.ru hX [1,2,3,4,5,6] ⟨rfl,rfl⟩
theorem ft_Flush (f p n t l d:Nat) (Z:Fv) (k m:Nat) (hO:Z.Ok (Fv.cW*200+k) m) (hm:m<=12):Fn Tryz.prog 34 [.pointer (some ⟨f,0,none⟩)] (FvP f p n t l d Z)
  (λv As=>v= .int .i64 Z.flush.2/\As=FvP f p n t l d Z.flush.1):=by
 have hfl:Z.flush=(if Z.ask.off=true then(Z.ask,9)else Fv.flushGo Z.ask.L.length Z.ask):=rfl;have hlen:=hO.len;refine Fn.enter [2] Tryz.func34 rfl rfl rfl λX F hX=>?_;refine J.q hX λ_=>?_;refine J.cb hX (ft_refuses f n t l p d Z) [1,3] ?_;refine cpq ⟨_,rfl,trivial,?_⟩;have hOY:=hO.ask;obtain⟨Y,hY⟩:∃Y,Y=Z.ask:=⟨_,rfl⟩;have e1:Z.S=Y.S:=by rw[hY];rfl
 have e2:Z.L=Y.L:=by rw[hY];rfl
 rw[<- hY]at hfl hOY;rw[<- hY,e1,e2];rw[e2]at hlen;cases ho:Y.off with
 | true=>
  rw[ho,if_pos rfl]at hfl;refine J.q hX λ_=>?_;refine J.cT ?_;refine J.q hX λ_=>?_;refine J.ru hX [1,2,3,4,5,6] ?_;rw[hfl];exact⟨rfl,rfl⟩
 | false=>
  rw[ho,if_neg Bool.false_ne_true]at hfl;refine J.q hX λ_=>?_;refine J.cF ?_;have hmul:Fv.cW*Y.L.length<=Fv.cW*200:=Nat.mul_le_mul_left _ hlen;refine J.q hX λ_=>?_;refine J.lo (α:=(Nat×Fv)) (λz=>z.2.Ok (Fv.cW*z.1+k) m/\z.2.L.length<=z.1/\Fv.flushGo z.1 z.2=Z.flush) (λz=>[⟨0, .pointer (some ⟨f,0,none⟩),2, .tt⟩]) [1,2,3,4,5,6] (λz=>FvP f p n t l d z.2) (λz=>z.1) ((Y.L.length,Y)) (⟨hOY.less (by dsimp only;omega),Nat.le_refl _,hfl.symm⟩) rfl ?_ (λ_=>rfl) λz hI=>?_
  ·rfl
  obtain⟨j,V⟩:=z;dsimp only at hI ⊢;obtain⟨hV,hj,hw⟩:=hI;refine J.q hX λ_=>?_;refine J.cb hX (d_Len d V.L) [6] ?_;refine cpq ⟨_,rfl,trivial,?_⟩;refine J.q hX λ_=>?_;refine J.cond rfl (λh1=>?_) (λh1=>?_)
  ·simp only[gt_iff_lt,decide_eq_true_eq]at h1;have hL0:V.L.length≠0:=by omega
   obtain⟨j,rfl⟩:∃i,j=i+1:=⟨j-1,by omega⟩;rw[Fv.flushGo,if_neg hL0]at hw;have hV1:V.Ok (Fv.cW+(Fv.cW*j+k)) m:=hV.less (by rw[Nat.mul_succ];omega);have hkw:=Fv.writes_keep hV1;refine J.q hX λ_=>?_;refine J.cb hX (ft_writes f p n t l d V _ m hV1 hm) [1,2,3,4,5,6] ?_;refine cpq ⟨_,rfl,trivial,?_⟩;dsimp only at hw;generalize V.writes=w at hw hkw ⊢;obtain⟨U,er⟩:=w;dsimp only at hw hkw ⊢;refine J.q hX λ_=>?_;refine J.cond rfl (λh2=>?_) (λh2=>?_)
   ·simp only[bne_iff_ne,ne_eq]at h2;rw[if_pos h2]at hw;refine J.q hX λ_=>?_;refine J.ru hX [1,2,3,4,5,6] ?_;rw[<- hw];exact⟨rfl,rfl⟩
   ·simp only[bne_eq_false_iff_eq]at h2;rw[if_neg (by rw[h2];decide)]at hw;have:=hkw.2.2.2 h2 hL0;refine J.q hX λ_=>?_;refine J.nS ((j,U)) (⟨hkw.1,by dsimp only;omega,hw⟩) (by dsimp only;omega) [0,1,2,3,4,5,6] rfl rfl
  ·simp only[gt_iff_lt,decide_eq_false_iff_not]at h1;have hz:Fv.flushGo j V=(V,0):=by
    cases j with
    | zero=>rfl
    | succ j=>rw[Fv.flushGo,if_pos (by omega)]
   refine J.q hX λ_=>?_;refine J.ru hX [1,2,3,4,5,6] ?_;rw[<- hw,hz];exact⟨rfl,rfl⟩
theorem ft_Tick (f p n t l d:Nat) (Z:Fv) (k m:Nat) (hO:Z.Ok (Dv.costS+k) m) (hm:m<=12):Fn Tryz.prog 35 [.pointer (some ⟨f,0,none⟩)] (FvP f p n t l d Z)
  (λv As=>v= .int .i64 Z.tick.2/\As=FvP f p n t l d Z.tick.1):=by
 have htk:Z.tick=(if Z.ask.off=true then(Z.ask,9)else({Z.ask with S:=(Z.ask.S.step 4).1}.told (Z.ask.S.step 4).2.2,(Z.ask.S.step 4).2.2)):=rfl;refine Fn.enter [2] Tryz.func35 rfl rfl rfl λX F hX=>?_;refine J.q hX λ_=>?_;refine J.cb hX (ft_refuses f n t l p d Z) [1,3] ?_;refine cpq ⟨_,rfl,trivial,?_⟩;have hOY:=hO.ask;obtain⟨Y,hY⟩:∃Y,Y=Z.ask:=⟨_,rfl⟩;have e1:Z.S=Y.S:=by rw[hY];rfl
 have e2:Z.L=Y.L:=by rw[hY];rfl
 rw[<- hY]at htk hOY;rw[<- hY,e1,e2];cases ho:Y.off with
 | true=>
  rw[ho,if_pos rfl]at htk;refine J.q hX λ_=>?_;refine J.cT ?_;refine J.q hX λ_=>?_;refine J.ru hX [1,2,3,4,5,6] ?_;rw[htk];exact⟨rfl,rfl⟩
 | false=>
  rw[ho,if_neg Bool.false_ne_true]at htk;refine J.q hX λ_=>?_;refine J.cF ?_;refine J.q hX λ_=>?_;refine J.plan (.of [0,4,8,13,16,20,24,29,32,36,40,45,48,52,56,61,66,68,72,76,80,84]) [21] [1,6] (by rw[hX.hP];kernel_rfl) (by kernel_rfl) ?_;refine J.q hX λ_=>?_;refine J.cb hX (mn_Step n t l p Y.S _ m hOY.dv hm 4) [2,3,4,5] ?_;refine cpq ⟨_,rfl,(by first | exact trivial | (repeat' (first | exact trivial | refine⟨rfl,?_⟩))),?_⟩;generalize Y.S.step 4=w at htk ⊢;obtain⟨V,nn,er⟩:=w;dsimp only at htk ⊢;rw[show FtlA f n t l p d Y=FtlA f n t l p d {Y with S:=V}from rfl];refine J.q hX λ_=>?_;refine J.cb hX (ft_told f n t l p d {Y with S:=V} er) [1] ?_;refine cpq ⟨_,rfl,trivial,?_⟩;refine J.q hX λ_=>?_;refine J.ru hX [1,2,3,4,5,6] ?_;rw[htk];exact⟨rfl,rfl⟩
theorem ft_Whole (f p n t l d:Nat) (Z:Fv) (k m:Nat) (hO:Z.Ok k m):Fn Tryz.prog 36 [.pointer (some ⟨f,0,none⟩)] (FvP f p n t l d Z)
  (λv As=>v= .bool Z.whole.2/\As=FvP f p n t l d Z.whole.1):=by
 have hwh:Z.whole=(if Z.ask.off=true then(Z.ask,false)else({Z.ask with S:=Z.ask.S.seen},Z.ask.S.seen.leftN==0)):=rfl;refine Fn.enter [2] Tryz.func36 rfl rfl rfl λX F hX=>?_;refine J.q hX λ_=>?_;refine J.cb hX (ft_refuses f n t l p d Z) [1,3] ?_;refine cpq ⟨_,rfl,trivial,?_⟩;have hOY:=hO.ask;obtain⟨Y,hY⟩:∃Y,Y=Z.ask:=⟨_,rfl⟩;have e1:Z.S=Y.S:=by rw[hY];rfl
 have e2:Z.L=Y.L:=by rw[hY];rfl
 rw[<- hY]at hwh hOY;rw[<- hY,e1,e2];have hbd:=hOY.dv.gd.ok.bd16;have htd:=hOY.dv.t.d;cases ho:Y.off with
 | true=>
  rw[ho,if_pos rfl]at hwh;refine J.q hX λ_=>?_;refine J.cT ?_;refine J.q hX λ_=>?_;refine J.ru hX [1,2,3,4,5,6] ?_;rw[hwh];exact⟨rfl,rfl⟩
 | false=>
  rw[ho,if_neg Bool.false_ne_true]at hwh;refine J.q hX λ_=>?_;refine J.cF ?_;refine J.q hX λ_=>?_;refine J.cb hX (n_Geo n Y.S.N) [3] ?_;refine cpq ⟨_,rfl,trivial,?_⟩;refine J.q hX λ_=>?_;refine J.lo (α:=(Nat×Tl)) (λz=>z.1<=Y.S.N.dies/\(List.range z.1).foldl (λt (d:Nat)=>if Y.S.N.deadAt d then t.die d else t) Y.S.t=z.2/\z.2.Fit Y.S.N) (λz=>[⟨13, .int .i64 z.1,0, .tt⟩,⟨12, .int .i64 Y.S.N.dies,0, .tt⟩,⟨0, .pointer (some ⟨f,0,none⟩),2, .tt⟩]) [4] (λz=>[TlA t z.2]) (λz=>Y.S.N.dies-z.1) ((0,Y.S.t)) (⟨Nat.zero_le _,rfl,hOY.dv.t⟩) rfl ?_ (λ_=>rfl) λz hI=>?_
  ·rfl
  obtain⟨i,U⟩:=z;dsimp only at hI ⊢;obtain⟨hd,hfo,hU⟩:=hI;refine J.q hX λ_=>?_;refine J.cond rfl (λh1=>?_) (λh1=>?_)
  ·simp only[decide_eq_true_eq,Int.ofNat_lt]at h1;have hsu:(List.range (i+1)).foldl (λt (d:Nat)=>if Y.S.N.deadAt d then t.die d else t) Y.S.t=if Y.S.N.deadAt i then U.die i else U:=by rw[List.range_succ,List.foldl_append,hfo];rfl
   refine J.q hX λ_=>?_;refine J.cb hX (n_Dead n Y.S.N hOY.dv.gd.ok i) [3] ?_;refine cpq ⟨_,rfl,trivial,?_⟩;refine J.q hX λ_=>?_;refine J.cond rfl (λh2=>?_) (λh2=>?_)
   ·rw[if_pos h2]at hsu;refine J.q hX λ_=>?_;refine J.cb hX (tl_Dead t U i) [4] ?_;refine cpq ⟨_,rfl,trivial,?_⟩;refine J.q hX λ_=>?_;refine J.nS ((i+1,U.die i)) (⟨by dsimp only;omega,hsu,hU.die i⟩) (by dsimp only;omega) [0,1,2,3,4,5,6] rfl rfl
   ·rw[if_neg (by rw[h2];decide)]at hsu;refine J.q hX λ_=>?_;refine J.nS ((i+1,U)) (⟨by dsimp only;omega,hsu,hU⟩) (by dsimp only;omega) [0,1,2,3,4,5,6] rfl rfl
  simp only[decide_eq_false_iff_not,Int.ofNat_lt]at h1;obtain rfl:i=Y.S.N.dies:=by omega
  have hseen:Y.S.seen={Y.S with t:=U}:=by unfold Dv.seen Dv.seeDead;rw[htd,hfo]
  obtain⟨Q,hQ⟩:∃Q,Q=Y.S.seen:=⟨_,rfl⟩;have hQO:Q.Ok k m:=by rw[hQ];exact hOY.dv.seen
  have eT:Y.S.T=Q.T:=by rw[hQ];rfl
  have eU:U=Q.t:=by rw[hQ,hseen]
  rw[eT,eU];refine J.q hX λ_=>?_;refine J.plan (.of [0,4,8,13,16,20,24,29,34,36,40]) [10] [1,2,3,4,5,6] (by rw[hX.hP];kernel_rfl) (by kernel_rfl) ?_;refine J.q hX λ_=>?_;refine J.cb hX (mn_Left t l Q k m hQO) [4,5] ?_;refine cpq ⟨_,rfl,(by first | exact trivial | (repeat' (first | exact trivial | refine⟨rfl,?_⟩))),?_⟩;refine J.q hX λ_=>?_;refine J.ru hX [1,2,3,4,5,6] ?_;rw[hwh,<- hQ];refine⟨rfl,?_⟩;unfold FvP;dsimp only;rw[show PenA p n t l Y.S=PenA p n t l Q from by rw[hQ];rfl,show NandA n Y.S.N=NandA n Q.N from by rw[hQ];rfl];rfl
theorem Tl.seeDead_succ (N:Nand) (t:Tl) (i:Nat):(List.range (i+1)).foldl (λt (d:Nat)=>if N.deadAt d then t.die d else t) t=if N.deadAt i then((List.range i).foldl (λt (d:Nat)=>if N.deadAt d then t.die d else t) t).die i else(List.range i).foldl (λt (d:Nat)=>if N.deadAt d then t.die d else t) t:=by rw[List.range_succ,List.foldl_append];rfl
theorem Tl.ofB_succ (N:Nand) (t:Tl) (b i:Nat):(List.range (i+1)).foldl (Tl.ofD N b) t=Tl.ofD N b ((List.range i).foldl (Tl.ofD N b) t) i:=by rw[List.range_succ,List.foldl_append];rfl
theorem Tl.of_succ (N:Nand) (t:Tl) (i:Nat):(List.range (i+1)).foldl (Tl.ofB N) t=Tl.ofB N ((List.range i).foldl (Tl.ofB N) t) i:=by rw[List.range_succ,List.foldl_append];rfl
theorem tl_Of (n:Nat) (N:Nand) (hN:N.Ok):Fn Tryz.prog 77 [.pointer (some ⟨n,0,none⟩)] [NandA n N] (λv As=>∃q,v= .pointer (some ⟨q,0,none⟩)/\As=[NandA n N,TlA q (Tl.of N)]):=by
 have hbd:=hN.bd16;refine Fn.enter [2] Tryz.func77 rfl rfl rfl λX F hX=>?_;refine J.q hX λ_=>?_;refine J.cb hX (n_Geo n N) [1] ?_;refine cpq ⟨_,rfl,trivial,?_⟩;refine J.q hX λ_=>?_;refine J.ca hX (by kernel_rfl) (tl_New N.dies N.blocks N.pages hN.geo) [] 3 rfl rfl rfl rfl rfl rfl (λ_=>rfl) ?_;rintro v As ⟨q,rfl,rfl⟩;refine⟨_,rfl,trivial,?_⟩;refine J.q hX λ_=>?_;refine J.cF ?_;refine J.open_ (α:=Nat) 2 rfl rfl (λ_=>rfl) λg=>?_;refine J.q hX λ_=>?_;refine J.close (f:=λg:Nat=>TlP q (Tl.new N.dies N.blocks N.pages) g) (g) [2,3] rfl rfl rfl ?_;refine J.q hX λ_=>?_;refine J.lo (α:=(Nat×Tl)) (λz=>z.1<=N.dies/\(List.range z.1).foldl (λt (d:Nat)=>if N.deadAt d then t.die d else t) (Tl.new N.dies N.blocks N.pages)=z.2/\z.2.Fit N) (λz=>[⟨17, .int .i64 z.1,0, .tt⟩,⟨16, .int .i64 N.dies,0, .tt⟩,⟨0, .pointer (some ⟨n,0,none⟩),2, .tt⟩,⟨3, .pointer (some ⟨q,0,none⟩),3, .tt⟩]) [2] (λz=>[TlA q z.2]) (λz=>N.dies-z.1) ((0,Tl.new N.dies N.blocks N.pages)) (⟨Nat.zero_le _,rfl,Tl.Fit.new N⟩) rfl ?_ (λ_=>rfl) λz hI=>?_
 ·rfl
 obtain⟨i,U⟩:=z;dsimp only at hI ⊢;obtain⟨hd,hfo,hU⟩:=hI;refine J.q hX λ_=>?_;refine J.cond rfl (λh1=>?_) (λh1=>?_)
 ·simp only[decide_eq_true_eq,Int.ofNat_lt]at h1;have hsu:=Tl.seeDead_succ N (Tl.new N.dies N.blocks N.pages) i;rw[hfo]at hsu;refine J.q hX λ_=>?_;refine J.cb hX (n_Dead n N hN i) [1] ?_;refine cpq ⟨_,rfl,trivial,?_⟩;refine J.q hX λ_=>?_;refine J.cond rfl (λh2=>?_) (λh2=>?_)
  ·rw[if_pos h2]at hsu;refine J.q hX λ_=>?_;refine J.cb hX (tl_Dead q U i) [2] ?_;refine cpq ⟨_,rfl,trivial,?_⟩;refine J.q hX λ_=>?_;refine J.nS ((i+1,U.die i)) (⟨by dsimp only;omega,hsu,hU.die i⟩) (by dsimp only;omega) [0,1,2,3] rfl rfl
  ·rw[if_neg (by rw[h2];decide)]at hsu;refine J.q hX λ_=>?_;refine J.nS ((i+1,U)) (⟨by dsimp only;omega,hsu,hU⟩) (by dsimp only;omega) [0,1,2,3] rfl rfl
 simp only[decide_eq_false_iff_not,Int.ofNat_lt]at h1;obtain rfl:i=N.dies:=by omega
 have hsee:U=Dv.seeDead N (Tl.new N.dies N.blocks N.pages):=hfo.symm;have hUb:=hU.b;refine J.open_ (α:=Nat) 2 rfl rfl (λ_=>rfl) λg2=>?_;refine J.q hX λ_=>?_;refine J.close (f:=λg:Nat=>TlP q U g) (g2) [2,4] rfl rfl rfl ?_;rw[hUb];refine J.q hX λ_=>?_;refine J.lo (α:=(Nat×Tl)) (λz=>z.1<=N.blocks/\(List.range z.1).foldl (Tl.ofB N) U=z.2/\z.2.Fit N) (λz=>[⟨32, .int .i64 z.1,0, .tt⟩,⟨31, .int .i64 N.blocks,0, .tt⟩,⟨0, .pointer (some ⟨n,0,none⟩),2, .tt⟩,⟨3, .pointer (some ⟨q,0,none⟩),3, .tt⟩]) [2] (λz=>[TlA q z.2]) (λz=>N.blocks-z.1) ((0,U)) (⟨Nat.zero_le _,rfl,hU⟩) rfl ?_ (λ_=>rfl) λz hI=>?_
 ·rfl
 obtain⟨b,T⟩:=z;dsimp only at hI ⊢;obtain⟨hb,hfb,hT⟩:=hI;refine J.q hX λ_=>?_;refine J.cond rfl (λh3=>?_) (λh3=>?_)
 ·simp only[decide_eq_true_eq,Int.ofNat_lt]at h3;have hsu:=Tl.of_succ N U b;rw[hfb]at hsu;have hTd:=hT.d;refine J.open_ (α:=Nat) 2 rfl rfl (λ_=>rfl) λg3=>?_;refine J.q hX λ_=>?_;refine J.close (f:=λg:Nat=>TlP q T g) (g3) [2,5] rfl rfl rfl ?_;rw[hTd];refine J.q hX λ_=>?_;refine J.lo (α:=(Nat×Tl)) (λz=>z.1<=N.dies/\(List.range z.1).foldl (Tl.ofD N b) T=z.2/\z.2.Fit N) (λz=>[⟨40, .int .i64 z.1,0, .tt⟩,⟨39, .int .i64 N.dies,0, .tt⟩,⟨32, .int .i64 b,0, .tt⟩,⟨31, .int .i64 N.blocks,0, .tt⟩,⟨5, .int .i64 b,0, .tt⟩,⟨0, .pointer (some ⟨n,0,none⟩),2, .tt⟩,⟨3, .pointer (some ⟨q,0,none⟩),3, .tt⟩]) [2] (λz=>[TlA q z.2]) (λz=>N.dies-z.1) ((0,T)) (⟨Nat.zero_le _,rfl,hT⟩) rfl ?_ (λ_=>rfl) λz hI=>?_
  ·rfl
  obtain⟨d,V⟩:=z;dsimp only at hI ⊢;obtain⟨hd,hfd,hV⟩:=hI;refine J.q hX λ_=>?_;refine J.cond rfl (λh4=>?_) (λh4=>?_)
  ·simp only[decide_eq_true_eq,Int.ofNat_lt]at h4;have hsd:=Tl.ofB_succ N T b d;rw[hfd]at hsd;have hVb:=hV.b;have hod:Tl.ofD N b V d=if(L.has ((V.wore b (N.wornAt d b)).mask b) d&&decide ((N.next d b:Int)>0))=true then(V.wore b (N.wornAt d b)).clean b false else V.wore b (N.wornAt d b):=rfl
   rw[hod]at hsd;have hW:=hV.wore b (N.wornAt d b);refine J.q hX λ_=>?_;refine J.cb hX (n_Worn n N hN d b) [1] ?_;refine cpq ⟨_,rfl,trivial,?_⟩;refine J.q hX λ_=>?_;refine J.cb hX (tl_Wore q V (by omega) hV.len b (N.wornAt d b)) [2] ?_;refine cpq ⟨_,rfl,trivial,?_⟩;obtain⟨Q,hQ⟩:∃Q,V.wore b (N.wornAt d b)=Q:=⟨_,rfl⟩;rw[hQ]at hsd hW ⊢;have hQb:=hW.b;refine J.q hX λ_=>?_;refine J.cb hX (tl_Mask q Q (by omega) hW.len b) [2] ?_;refine cpq ⟨_,rfl,trivial,?_⟩;refine J.q hX λ_=>?_;refine J.cb hX (l_Has (Q.mask b) d) [] ?_;refine cpq ⟨_,rfl,trivial,?_⟩;refine J.q hX λ_=>?_;refine J.gcase hX rfl rfl rfl trivial (λhb2=>?_) (λhb2=>?_)
   ·rw[hb2]at hsd ⊢;refine J.q hX λ_=>?_;refine J.cb hX (n_Next n N hN d b) [1] ?_;refine cpq ⟨_,rfl,trivial,?_⟩;refine J.q hX λ_=>?_;refine J.cond rfl (λh5=>?_) (λh5=>?_)
    ·simp only[Bool.true_and]at h5 hsd;rw[if_pos h5]at hsd;refine J.q hX λ_=>?_;refine J.cb hX (tl_Clean q Q (by omega) hW.len b false) [2] ?_;refine cpq ⟨_,rfl,trivial,?_⟩;refine J.q hX λ_=>?_;refine J.nS ((d+1,Q.clean b false)) (⟨by dsimp only;omega,hsd,hW.clean b false⟩) (by dsimp only;omega) [0,1,2,3,4,5] rfl rfl
    ·simp only[Bool.true_and]at h5 hsd;rw[if_neg (by rw[h5];decide)]at hsd;refine J.q hX λ_=>?_;refine J.nS ((d+1,Q)) (⟨by dsimp only;omega,hsd,hW⟩) (by dsimp only;omega) [0,1,2,3,4,5] rfl rfl
   ·rw[hb2]at hsd ⊢;rw[Bool.false_and,if_neg Bool.false_ne_true]at hsd;refine J.q hX λ_=>?_;refine J.val hX (.bool false) 0 rfl rfl (λhg a w he hw=>by simp[G.on]at hg) rfl trivial ?_;refine J.q hX λ_=>?_;refine J.cF ?_;refine J.q hX λ_=>?_;refine J.nS ((d+1,Q)) (⟨by dsimp only;omega,hsd,hW⟩) (by dsimp only;omega) [0,1,2,3,4,5] rfl rfl
  simp only[decide_eq_false_iff_not,Int.ofNat_lt]at h4;obtain rfl:d=N.dies:=by omega
  have hsu2:(List.range (b+1)).foldl (Tl.ofB N) U=V:=by rw[hsu,<- hfd];rfl
  refine J.q hX λ_=>?_;refine J.nS ((b+1,V)) (⟨by dsimp only;omega,hsu2,hV⟩) (by dsimp only;omega) [0,1,2,3,4] rfl rfl
 simp only[decide_eq_false_iff_not,Int.ofNat_lt]at h3;obtain rfl:b=N.blocks:=by omega
 have hof:T=Tl.of N:=by rw[<- hfb,hsee];rfl
 refine J.q hX λ_=>?_;refine J.ru hX [1,2] ?_;exact⟨q,rfl,by rw[<- hof];rfl⟩
theorem tl_Hold (q:Nat) (t:Tl) (hb:t.b<=1000) (hl:t.l.length=t.b) (k:Int) (on:Bool):Fn Tryz.prog 80 [.pointer (some ⟨q,0,none⟩), .int .i64 k, .bool on] [TlA q t] (λv As=>v= .tuple #[]/\As=[TlA q (t.hold k on)]):=by
 refine Fn.enter [2,0,0] Tryz.func80 rfl rfl rfl λX F hX=>?_;refine J.open_ (α:=Nat) 1 rfl rfl (λ_=>rfl) λg=>?_;refine J.q hX λ_=>?_;refine J.cb hX (tl_at q t hb g k) [1,2] ?_;refine cpq ⟨_,rfl,trivial,?_⟩;cases hh:t.has k with
 | false=>
  rw[Tl.adr,hh,if_neg (by simp)];refine J.q hX λ_=>?_;refine J.cF ?_;refine J.q hX λ_=>?_;refine J.close (f:=λg:Nat=>TlP q t g) g [1,2] rfl rfl rfl ?_;refine J.q hX λ_=>?_;refine J.fi hX tk [1] rfl rfl rfl ?_;exact⟨rfl,by rw[Tl.hold,Tl.set,hh];rfl⟩
 | true=>
  rw[Tl.adr,hh,if_pos rfl];refine J.q hX λ_=>?_;refine J.cT ?_;refine J.q hX λ_=>?_;refine J.store1 hX tk 2 rfl rfl rfl rfl rfl rfl rfl rfl rfl rfl rfl rfl rfl ?_ ((t.hold k on).l.flatMap sbL) ?_ rfl (λ_=>rfl) ⟨trivial,?_⟩
  ·rw[t.len_l,hl];simp only[Tl.has,Bool.and_eq_true,decide_eq_true_eq]at hh;omega
  ·exact t.set_at hl hh 3 (by omega) _ _ rfl
  refine J.close (f:=λg:Nat=>TlP q (t.hold k on) g) g [1,2] rfl (by simp only[TlP,Tl.hold,Tl.set_d,Tl.set_b,Tl.set_p,Tl.set_dead];rfl) rfl ?_;refine J.q hX λ_=>?_;refine J.fi hX tk [1] rfl rfl rfl ?_;exact⟨rfl,rfl⟩
theorem hold_take (t:Tl) (l:List Int) (on:Bool) {i:Nat} {x:Int} (h:l[i]? =some x):(l.take (i+1)).foldl (λt b=>t.hold b on) t=((l.take i).foldl (λt b=>t.hold b on) t).hold x on:=by
 rw[List.take_add_one,h,Option.toList_some,List.foldl_append];rfl
theorem oad_two (a:Option Nat):oad a=oad2 (a.map λg=>(g,0)):=by cases a<;>rfl
theorem ft_Mount (n:Nat) (N:Nand) (k m:Nat) (hG:N.Gd (Dv.costK+k) m) (hm:m<=12) (hoff:N.off=false):Fn Tryz.prog 27 [.pointer (some ⟨n,0,none⟩)] [NandA n N]
  (λv As=>(mount N).2=0/\(∃f p t l d,v= .tuple #[.pointer (some ⟨f,0,none⟩), .int .i64 0]/\As=FvP f p n t l d (Fv.of (mount N).1))\/(mount N).2≠0/\v= .tuple #[.pointer none, .int .i64 (mount N).2]/\As=[NandA n (mount N).1.N]):=by
 have hN:=hG.ok;have hbd:=hN.bd16;have hlg:=lgN_eq N.dies N.blocks N.pages (by omega) (by omega);refine Fn.enter [2] Tryz.func27 rfl rfl rfl λX F hX=>?_;refine J.q hX λ_=>?_;refine J.cb hX (n_Geo n N) [1] ?_;refine cpq ⟨_,rfl,trivial,?_⟩;refine J.q hX λ_=>?_;refine J.cb hX (g_Logical N.dies N.blocks N.pages hN.geo) [] ?_;refine cpq ⟨_,rfl,trivial,?_⟩;rw[hlg];refine J.q hX λ_=>?_;refine J.cb hX (v_Scan n N hN hG.room hoff (lgN N.dies N.blocks N.pages)) [1] ?_;rintro v As ⟨q,a1,c1,a2,c2,rfl,rfl⟩;refine⟨_,rfl,trivial,?_⟩;obtain⟨en1,en2,en3,en4⟩:=scan_en hN (lgN N.dies N.blocks N.pages);have h200:=lgN_200 hN;obtain⟨tn1,tn2,tn3,tn4⟩:=scan_torn (N:=N) (m:=lgN N.dies N.blocks N.pages) (by omega);have hheld:=scan_held hN (lgN N.dies N.blocks N.pages);have h0:=Dv.Ok.mt0 hG;have hmt:=mount_eq N;have e0:Dv.mt0 N=⟨N,Tl.of N,(V.scan N (lgN N.dies N.blocks N.pages)).tb,-1,0,0,max (V.scan N (lgN N.dies N.blocks N.pages)).next 1⟩:=rfl;obtain⟨sc,hsc⟩:∃sc,V.scan N (lgN N.dies N.blocks N.pages)=sc:=⟨_,rfl⟩;rw[hsc]at en1 en2 en3 en4 tn1 tn2 tn3 tn4 hheld hmt e0 ⊢;refine J.q hX λbs=>?_;refine J.cF ?_;refine J.know (λh' s=>ownP_cap (show ownP _ _ a1 sc.torn.length c1 _ _ from s.get (i:=3) rfl)) λhcap1=>?_;refine J.know (λh' s=>ownP_nil (show ownP _ _ a1 sc.torn.length c1 _ _ from s.get (i:=3) rfl)) λhnil1=>?_;refine J.know (λh' s=>ownP_cap (show ownP _ _ a2 sc.held.length c2 _ _ from s.get (i:=4) rfl)) λhcap2=>?_;refine J.q hX λ_=>?_;refine J.plan (.of [0,4,12,17,10,22,24,31,32]) [6,7,8] [1,2,3,4,5] (by rw[hX.hP];kernel_rfl) (by kernel_rfl) ?_;refine J.q hX λ_=>?_;refine J.cb hX (tl_Of n N hN) [1] ?_;rintro v As ⟨t,rfl,rfl⟩;refine⟨_,rfl,(by first | exact trivial | (repeat' (first | exact trivial | refine⟨rfl,?_⟩))),?_⟩;refine J.q hX λ_=>?_;refine J.cb hX (d_New) [] ?_;rintro v As ⟨d,rfl,rfl⟩;refine⟨_,rfl,(by first | exact trivial | (repeat' (first | exact trivial | refine⟨rfl,?_⟩))),?_⟩;refine J.q hX λbf=>?_;rw[slv_oad,oad_two];refine J.q hX λ_=>?_;refine J.plan (.of [0,4,8,12,16,21,24,28,32,37,40,45,50,52,56,63]) [13,14,15] [1,2,3,4,5,6,7,8] (by rw[hX.hP];kernel_rfl) (by kernel_rfl) ?_;refine J.q hX λ_=>?_;refine J.cb hX (pn_New n t q sc.next (by omega) N (Tl.of N) sc.tb) [] ?_;rintro v As ⟨p,rfl,rfl⟩;refine⟨_,rfl,(by first | exact trivial | (repeat' (first | exact trivial | refine⟨rfl,?_⟩))),?_⟩;rw[<- e0];rw[show TlA t (Tl.of N)=TlA t (Dv.mt0 N).t from rfl,show NandA n N=NandA n (Dv.mt0 N).N from rfl,show TbA q sc.tb=TbA q (Dv.mt0 N).T from by rw[e0]];generalize Dv.mt0 N=S0 at h0 hmt ⊢;refine J.q hX λ_=>?_;refine J.lo (α:=(Nat×Tl)) (λz=>z.1<=sc.held.length/\(sc.held.take z.1).foldl (λt b=>t.hold b true) S0.t=z.2/\z.2.Fit S0.N) (λz=>[⟨52, .int .i64 z.1,0, .tt⟩,⟨51, .int .i64 sc.held.length,0, .tt⟩,⟨50,slv a2 sc.held.length c2,0, .tt⟩,⟨0, .pointer (some ⟨n,0,none⟩),2, .tt⟩,⟨4, .pointer (some ⟨bs 0,0,none⟩),6, .tt⟩,⟨6, .pointer (some ⟨bf 0,0,none⟩),9, .tt⟩]) [6] (λz=>[TlA t z.2]) (λz=>sc.held.length-z.1) ((0,S0.t)) (⟨Nat.zero_le _,rfl,h0.t⟩) rfl ?_ (λ_=>rfl) λz hI=>?_
 ·rfl
 obtain⟨i,U⟩:=z;dsimp only at hI ⊢;obtain⟨hi,hfo,hU⟩:=hI;have hUb:=hU.b;have hS0:=h0.gd.ok.bd16;refine J.q hX λ_=>?_;refine J.cond rfl (λh1=>?_) (λh1=>?_)
 ·simp only[decide_eq_true_eq,Int.ofNat_lt]at h1;obtain⟨x,hx⟩:∃x,sc.held[i]? =some x:=⟨_,List.getElem?_eq_getElem h1⟩;have hsu:=hold_take S0.t sc.held true hx;rw[hfo]at hsu;refine J.know (λh' s=>own_some (c:=(a2,c2)) (by omega) (s.get (i:=4) rfl)) λhg=>?_;obtain⟨g,rfl⟩:=hg;refine J.q hX λ_=>?_;refine J.val hX (.int .i64 x) 0 rfl rfl (λhg aa w he hw=>own1_run tk rfl rfl he rfl rfl rfl (hw.get (i:=4) rfl) (by rw[show 0+(i:Int).toNat*1=i from by omega,cellsI,List.getElem?_map,hx];rfl)) rfl trivial ?_;refine J.q hX λ_=>?_;refine J.cb hX (tl_Hold t U (by omega) hU.len x true) [6] ?_;refine cpq ⟨_,rfl,trivial,?_⟩;refine J.q hX λ_=>?_;refine J.nS ((i+1,U.hold x true)) (⟨by dsimp only;omega,hsu,hU.hold x true⟩) (by dsimp only;omega) [0,1,2,3,4,5,6,7,8,9] rfl rfl
 simp only[decide_eq_false_iff_not,Int.ofNat_lt]at h1;obtain rfl:i=sc.held.length:=by omega
 rw[List.take_of_length_le (Nat.le_refl _)]at hfo;have hA:S0.holds sc.held true={S0 with t:=U}:=by unfold Dv.holds;rw[hfo]
 have hAO:=h0.holds sc.held true;dsimp only at hmt;obtain⟨Q,hQ⟩:∃Q,Q=S0.holds sc.held true:=⟨_,rfl⟩;rw[<- hQ]at hAO hmt;rw[show NandA n S0.N=NandA n Q.N from by rw[hQ];rfl,show TbA q S0.T=TbA q Q.T from by rw[hQ];rfl,show TlA t U=TlA t Q.t from by rw[hQ,hA],show PenA p n t q S0=PenA p n t q Q from by rw[hQ];rfl];have hf200:sc.first<=200:=by rw[List.length_take]at tn2;omega
 have hRdA:Rd (ownA 133 19 a1 sc.torn.length c1 (cellsE sc.torn)) (oad2 (a1.map λg=>(g,0))) 19 sc.torn.length (cellsE sc.torn):=by
  have:=own_rd 133 19 a1 sc.torn.length c1 (cellsE sc.torn)
  rwa [oad_two]at this
 have hRd1:Rd (ownA 133 19 a1 sc.torn.length c1 (cellsE sc.torn)) (oad2 (a1.map λg=>(g,0))) 19 sc.first (cellsE (sc.torn.take sc.first)):=by
  have:=hRdA.take sc.first tn1
  rwa [cellsE_take']at this
 have hnil2:(a1.map λg=>(g,0))=none->c1=0:=λe=>hnil1 (by cases a1 with | none=>rfl | some g=>cases e);have hd1:∀s∈sc.torn.take sc.first,s.data.length=16:=λs hs=>en3 s (List.mem_of_mem_take hs);have hd2:∀s∈sc.torn.drop sc.first,s.data.length=16:=λs hs=>en3 s (List.mem_of_mem_drop hs);have hct1:Dv.costT*sc.first<=Dv.costT*200:=Nat.mul_le_mul_left _ hf200;have hlt1:(sc.torn.take sc.first).length=sc.first:=by rw[List.length_take];omega
 have hAO1:Q.Ok (Dv.costT*sc.first+(96+(Dv.costT*200+(Dv.costM+k)))) m:=hAO.less (by unfold Dv.costK;omega);have hka:=Dv.torn_keep (k:=96+(Dv.costT*200+(Dv.costM+k))) (c:=sc.first) hAO1 (by omega) hd1;refine J.q hX λ_=>?_;refine J.plan (.of [0,4,8,12,17,20,24,28,33,36,40,44,49,52,57,60,65,68,75,76]) [18,19] [5,8] (by rw[hX.hP];kernel_rfl) (by kernel_rfl) ?_;refine J.qn hX 17 λ_=>?_;refine J.valT hX (.slice (oad2 (a1.map λg=>(g,0))) sc.first c1) 0 rfl rfl (λhg aa w he hC=>cutH_run tk rfl rfl rfl he rfl rfl rfl rfl (by omega)) rfl ?_;refine J.q hX λ_=>?_;refine J.ca hX (by kernel_rfl) (mn_Torn n t q p Q _ m (ownA 133 19 a1 sc.torn.length c1 (cellsE sc.torn)) (a1.map λg=>(g,0)) sc.first c1 (sc.torn.take sc.first) hRd1 hlt1 (by omega) (by omega) hnil2 hd1 hAO1 hm) [9,1,6,2,3] 0 rfl rfl rfl rfl rfl rfl (λ_=>rfl) ?_;refine cpq ⟨_,rfl,(by first | exact trivial | (repeat' (first | exact trivial | refine⟨rfl,?_⟩))),?_⟩;clear hAO hAO1;generalize Q.torn (sc.torn.take sc.first)=W at hmt hka ⊢;obtain⟨P,er⟩:=W;dsimp only at hmt hka ⊢;refine J.q hX λ_=>?_;refine J.cond rfl (λh2=>?_) (λh2=>?_)
 ·simp only[bne_iff_ne,ne_eq]at h2;rw[if_pos h2]at hmt;refine J.q hX λ_=>?_;refine J.ru hX [1] ?_;rw[hmt];exact .inr ⟨h2,rfl,rfl⟩
 simp only[bne_eq_false_iff_eq]at h2;rw[if_neg (by rw[h2];decide)]at hmt;have hPO:=hka.1;clear hka hU hUb hfo hA hQ h0 e0;refine J.q hX λ_=>?_;refine J.lo (α:=(Nat×Tl)) (λz=>z.1<=sc.held.length/\(sc.held.take z.1).foldl (λt b=>t.hold b false) P.t=z.2/\z.2.Fit P.N) (λz=>[⟨88, .int .i64 z.1,0, .tt⟩,⟨87, .int .i64 sc.held.length,0, .tt⟩,⟨86,slv a2 sc.held.length c2,0, .tt⟩,⟨0, .pointer (some ⟨n,0,none⟩),2, .tt⟩,⟨4, .pointer (some ⟨bs 0,0,none⟩),6, .tt⟩,⟨6, .pointer (some ⟨bf 0,0,none⟩),9, .tt⟩]) [6] (λz=>[TlA t z.2]) (λz=>sc.held.length-z.1) ((0,P.t)) (⟨Nat.zero_le _,rfl,hPO.t⟩) rfl ?_ (λ_=>rfl) λz hI=>?_
 ·rfl
 obtain⟨i,U2⟩:=z;dsimp only at hI ⊢;obtain⟨hi2,hfo,hU⟩:=hI;have hUb:=hU.b;have hP0:=hPO.gd.ok.bd16;refine J.q hX λ_=>?_;refine J.cond rfl (λh3=>?_) (λh3=>?_)
 ·simp only[decide_eq_true_eq,Int.ofNat_lt]at h3;obtain⟨x,hx⟩:∃x,sc.held[i]? =some x:=⟨_,List.getElem?_eq_getElem h3⟩;have hsu:=hold_take P.t sc.held false hx;rw[hfo]at hsu;refine J.know (λh' s=>own_some (c:=(a2,c2)) (by omega) (s.get (i:=4) rfl)) λhg=>?_;obtain⟨g,rfl⟩:=hg;refine J.q hX λ_=>?_;refine J.val hX (.int .i64 x) 0 rfl rfl (λhg aa w he hw=>own1_run tk rfl rfl he rfl rfl rfl (hw.get (i:=4) rfl) (by rw[show 0+(i:Int).toNat*1=i from by omega,cellsI,List.getElem?_map,hx];rfl)) rfl trivial ?_;refine J.q hX λ_=>?_;refine J.cb hX (tl_Hold t U2 (by omega) hU.len x false) [6] ?_;refine cpq ⟨_,rfl,trivial,?_⟩;refine J.q hX λ_=>?_;refine J.nS ((i+1,U2.hold x false)) (⟨by dsimp only;omega,hsu,hU.hold x false⟩) (by dsimp only;omega) [0,1,2,3,4,5,6,7,8,9] rfl rfl
 simp only[decide_eq_false_iff_not,Int.ofNat_lt]at h3;obtain rfl:i=sc.held.length:=by omega
 rw[List.take_of_length_le (Nat.le_refl _)]at hfo;have hA:P.holds sc.held false={P with t:=U2}:=by unfold Dv.holds;rw[hfo]
 have hBO:=hPO.holds sc.held false;obtain⟨B,hB⟩:∃B,B=P.holds sc.held false:=⟨_,rfl⟩;rw[<- hB]at hBO hmt;rw[show NandA n P.N=NandA n B.N from by rw[hB];rfl,show TbA q P.T=TbA q B.T from by rw[hB];rfl,show TlA t U2=TlA t B.t from by rw[hB,hA],show PenA p n t q P=PenA p n t q B from by rw[hB];rfl];clear hPO hU hUb hfo hA hB;have hkb:=Dv.clear_keep hBO;have hcl:B.clear=({B with N:=(Dv.clearX B.N B.t B.T B.op).1,t:=(Dv.clearX B.N B.t B.T B.op).2.1},(Dv.clearX B.N B.t B.T B.op).2.2):=rfl;rw[hcl]at hmt hkb;dsimp only at hmt hkb;refine J.q hX λ_=>?_;refine J.plan (.of [0,4,8,12,17,20,24,28,33,36,40,44,49,54,58,60]) [15] [5,8] (by rw[hX.hP];kernel_rfl) (by kernel_rfl) ?_;refine J.q hX λ_=>?_;refine J.cb hX (pn_Open p n t q B) [9] ?_;refine cpq ⟨_,rfl,(by first | exact trivial | (repeat' (first | exact trivial | refine⟨rfl,?_⟩))),?_⟩;refine J.q hX λ_=>?_;refine J.cb hX (sw_Clear n t q B.N B.t B.T _ m hBO.gd hm hBO.t B.op) [1,6,2] ?_;refine cpq ⟨_,rfl,(by first | exact trivial | (repeat' (first | exact trivial | refine⟨rfl,?_⟩))),?_⟩;generalize Dv.clearX B.N B.t B.T B.op=W at hmt hkb ⊢;obtain⟨N1,t1,er1⟩:=W;dsimp only at hmt hkb ⊢;obtain⟨D,hD⟩:∃D:Dv,D={B with N:=N1,t:=t1}:=⟨_,rfl⟩;rw[<- hD]at hmt hkb;have hDO:=hkb.1;rw[show NandA n N1=NandA n D.N from by rw[hD],show TbA q B.T=TbA q D.T from by rw[hD],show TlA t t1=TlA t D.t from by rw[hD],show PenA p n t q B=PenA p n t q D from by rw[hD];rfl];clear hBO hkb hD hcl;refine J.q hX λ_=>?_;refine J.cond rfl (λh4=>?_) (λh4=>?_)
 ·simp only[bne_iff_ne,ne_eq]at h4;rw[if_pos h4]at hmt;refine J.q hX λ_=>?_;refine J.ru hX [1] ?_;rw[hmt];exact .inr ⟨h4,rfl,rfl⟩
 simp only[bne_eq_false_iff_eq]at h4;rw[if_neg (by rw[h4];decide)]at hmt;have hlt2:(sc.torn.drop sc.first).length=sc.torn.length-sc.first:=List.length_drop;have hl200:(sc.torn.drop sc.first).length<=200:=by omega
 have hct2:Dv.costT*(sc.torn.drop sc.first).length<=Dv.costT*200:=Nat.mul_le_mul_left _ hl200;have hDO1:D.Ok (Dv.costT*(sc.torn.drop sc.first).length+(Dv.costM+k)) m:=hDO.less (by omega);have hkc:=Dv.torn_keep (k:=Dv.costM+k) (c:=(sc.torn.drop sc.first).length) hDO1 (Nat.le_refl _) hd2;have hRd2:Rd (ownA 133 19 a1 sc.torn.length c1 (cellsE sc.torn)) (oad2 (cutA (a1.map λg=>(g,0)) 19 sc.first c1)) 19 (sc.torn.drop sc.first).length (cellsE (sc.torn.drop sc.first)):=λh s=>rd_drop (hRdA h s) rfl tn1 hcap1;refine J.q hX λ_=>?_;refine J.plan (.of [0,4,8,12,17,20,24,28,33,36,40,44,49,52,57,60,65,68,75,76]) [18,19] [5,8] (by rw[hX.hP];kernel_rfl) (by kernel_rfl) ?_;refine J.qn hX 17 λ_=>?_;refine J.valT hX (.slice (oad2 (cutA (a1.map λg=>(g,0)) 19 sc.first c1)) (sc.torn.length-sc.first) (c1-sc.first)) 0 rfl rfl (λhg aa w he hC=>cutlo2_run tk rfl rfl rfl he rfl rfl rfl rfl rfl tn1) rfl ?_;rw[<- hlt2];refine J.q hX λ_=>?_;refine J.ca hX (by kernel_rfl) (mn_Torn n t q p D _ m (ownA 133 19 a1 sc.torn.length c1 (cellsE sc.torn)) (cutA (a1.map λg=>(g,0)) 19 sc.first c1) (sc.torn.drop sc.first).length (c1-sc.first) (sc.torn.drop sc.first) hRd2 rfl (by omega) (by omega) (cutA_none hnil2) hd2 hDO1 hm) [9,1,6,2,3] 0 rfl rfl rfl rfl rfl rfl (λ_=>rfl) ?_;refine cpq ⟨_,rfl,(by first | exact trivial | (repeat' (first | exact trivial | refine⟨rfl,?_⟩))),?_⟩;clear hDO hDO1;generalize D.torn (sc.torn.drop sc.first)=W at hmt hkc ⊢;obtain⟨P2,er2⟩:=W;dsimp only at hmt hkc ⊢;refine J.q hX λ_=>?_;refine J.cond rfl (λh5=>?_) (λh5=>?_)
 ·simp only[bne_iff_ne,ne_eq]at h5;rw[if_pos h5]at hmt;refine J.q hX λ_=>?_;refine J.ru hX [1] ?_;rw[hmt];exact .inr ⟨h5,rfl,rfl⟩
 simp only[bne_eq_false_iff_eq]at h5;rw[if_neg (by rw[h5];decide)]at hmt;refine J.q hX λ_=>?_;refine J.plan (.of [0,4,8,12,17,20,24,28,33,36,40,44,49,55,56]) [13,14] [5,8] (by rw[hX.hP];kernel_rfl) (by kernel_rfl) ?_;refine J.q hX λ_=>?_;refine J.cb hX (sw_Room n t q p P2 _ m hkc.1 hm) [9,1,6,2] ?_;refine cpq ⟨_,rfl,(by first | exact trivial | (repeat' (first | exact trivial | refine⟨rfl,?_⟩))),?_⟩;generalize P2.room=W at hmt ⊢;obtain⟨P3,er3⟩:=W;dsimp only at hmt ⊢;refine J.q hX λ_=>?_;refine J.cond rfl (λh6=>?_) (λh6=>?_)
 ·simp only[bne_iff_ne,ne_eq]at h6;refine J.q hX λ_=>?_;refine J.ru hX [1] ?_;rw[hmt];exact .inr ⟨h6,rfl,rfl⟩
 simp only[bne_eq_false_iff_eq]at h6;refine J.q hX λ_=>?_;refine J.ru hX [8,9,1,6,2,7] ?_;rw[hmt];exact .inl ⟨h6,bf 0,p,t,q,d,rfl,rfl⟩
def Fl.turn (f:Fl):Bool:=if f.kind≠5 then decide (f.n=0)&&decide (f.xx=0)else decide (f.n>=0)&&decide (f.n<32)&&decide (f.xx>=1)&&decide (f.xx<=255)
def Fl.may (D B P:Nat) (f:Fl):Bool:=decide (f.at_>=0)&&decide (f.kind>=1)&&decide (f.kind<=5)&&geoIn D B P f.x f.y f.z&&f.turn
theorem u_Less (x y:Fl):Fn Tryz.prog 148 [flV x,flV y] [] (λv As=>v= .int .i64 (cmpI x.at_ y.at_)/\As=[]):=by
 refine Fn.enter [0,0] Tryz.func148 rfl rfl rfl λX F hX=>?_;refine J.q hX λ_=>?_;refine J.cb hX (c_Compare x.at_ y.at_) [] ?_;refine cpq ⟨_,rfl,trivial,?_⟩;refine J.q hX λ_=>?_;exact J.ru hX [] ⟨rfl,rfl⟩
theorem u_May (D B P:Nat) (hD:D<=1000) (hB:B<=1000) (hP:P<=1000) (f:Fl):Fn Tryz.prog 146 [.agg #[.int .i64 D, .int .i64 B, .int .i64 P],flV f] [] (λv As=>v= .bool (f.may D B P)/\As=[]):=by
 refine Fn.enter [0,0] Tryz.func146 rfl rfl rfl λX F hX=>?_;have fin:∀(T:Bool),T=f.turn->Fl.may D B P f=(decide (f.at_>=0)&&decide (f.kind>=1)&&decide (f.kind<=5)&&geoIn D B P f.x f.y f.z&&T):=λT h=>by rw[h];rfl
 refine J.run hX tk 400 (λb4=>rfl) (λb4=>?_) (λb4=>?_)
 ·(repeat' (first | exact Conj.nil | refine Conj.cons ?_ ?_ | exact rfl | exact hq | (exact Bool.noConfusion hq) | (rw[hq];rfl) | (rw[(Bool.not_eq_true' _).mp hq]) | intro hq | omega | (simp;done)))
 refine J.q hX λ_=>?_;refine J.cond rfl (λh1=>?_) (λh1=>?_)
 ·have hk:f.kind≠5:=by simpa using h1
  have hT:(decide (f.n=0)&&decide (f.xx=0))=f.turn:=by unfold Fl.turn;rw[if_pos hk]
  have fin:=fin _ hT;refine J.run hX tk 400 (λb6=>rfl) (λb6=>?_) (λb6=>?_)
  ·(repeat' (first | exact Conj.nil | refine Conj.cons ?_ ?_ | exact rfl | exact hq | (exact Bool.noConfusion hq) | (rw[hq];rfl) | (rw[(Bool.not_eq_true' _).mp hq]) | intro hq | omega | (simp;done)))
  cases hb:(decide (f.at_>=0)&&decide (f.kind>=1)&&decide (f.kind<=5))with
  | true=>
   rw[hb,Bool.true_and]at fin;refine J.q hX λ_=>?_;refine J.cb hX (f_In D B P f.x f.y f.z (by omega) (by omega) (by omega)) [] ?_;refine cpq ⟨_,rfl,trivial,?_⟩;refine J.run hX tk 400 (λb8=>rfl) (λb8=>?_) (λb8=>?_)
   ·(repeat' (first | exact Conj.nil | refine Conj.cons ?_ ?_ | exact rfl | exact hq | (exact Bool.noConfusion hq) | (rw[hq];rfl) | (rw[(Bool.not_eq_true' _).mp hq]) | intro hq | omega | (simp;done)))
   refine J.q hX λ_=>?_;refine J.ru hX [] ?_;exact⟨by rw[fin];rfl,rfl⟩
  | false=>
   rw[hb,Bool.false_and,Bool.false_and]at fin;refine J.val hX (.bool false) 0 rfl rfl (λhg a w he hw=>by simp[G.on]at hg) rfl trivial ?_;refine J.run hX tk 400 (λb10=>rfl) (λb10=>?_) (λb10=>?_)
   ·(repeat' (first | exact Conj.nil | refine Conj.cons ?_ ?_ | exact rfl | exact hq | (exact Bool.noConfusion hq) | (rw[hq];rfl) | (rw[(Bool.not_eq_true' _).mp hq]) | intro hq | omega | (simp;done)))
   refine J.q hX λ_=>?_;refine J.ru hX [] ?_;exact⟨by rw[fin];rfl,rfl⟩
 ·have hk:¬f.kind≠5:=by simpa using h1
  have hT:(decide (f.n>=0)&&decide (f.n<32)&&decide (f.xx>=1)&&decide (f.xx<=255))=f.turn:=by unfold Fl.turn;rw[if_neg hk]
  have fin:=fin _ hT;refine J.run hX tk 400 (λb12=>rfl) (λb12=>?_) (λb12=>?_)
  ·(repeat' (first | exact Conj.nil | refine Conj.cons ?_ ?_ | exact rfl | exact hq | (exact Bool.noConfusion hq) | (rw[hq];rfl) | (rw[(Bool.not_eq_true' _).mp hq]) | intro hq | omega | (simp;done)))
  cases hb:(decide (f.at_>=0)&&decide (f.kind>=1)&&decide (f.kind<=5))with
  | true=>
   rw[hb,Bool.true_and]at fin;refine J.q hX λ_=>?_;refine J.cb hX (f_In D B P f.x f.y f.z (by omega) (by omega) (by omega)) [] ?_;refine cpq ⟨_,rfl,trivial,?_⟩;refine J.run hX tk 400 (λb14=>rfl) (λb14=>?_) (λb14=>?_)
   ·(repeat' (first | exact Conj.nil | refine Conj.cons ?_ ?_ | exact rfl | exact hq | (exact Bool.noConfusion hq) | (rw[hq];rfl) | (rw[(Bool.not_eq_true' _).mp hq]) | intro hq | omega | (simp;done)))
   refine J.q hX λ_=>?_;refine J.ru hX [] ?_;exact⟨by rw[fin];rfl,rfl⟩
  | false=>
   rw[hb,Bool.false_and,Bool.false_and]at fin;refine J.val hX (.bool false) 0 rfl rfl (λhg a w he hw=>by simp[G.on]at hg) rfl trivial ?_;refine J.run hX tk 400 (λb16=>rfl) (λb16=>?_) (λb16=>?_)
   ·(repeat' (first | exact Conj.nil | refine Conj.cons ?_ ?_ | exact rfl | exact hq | (exact Bool.noConfusion hq) | (rw[hq];rfl) | (rw[(Bool.not_eq_true' _).mp hq]) | intro hq | omega | (simp;done)))
   refine J.q hX λ_=>?_;refine J.ru hX [] ?_;exact⟨by rw[fin];rfl,rfl⟩
theorem i_SortF0 (c:Nat) (a:Option Nat) (cap:Nat):Fn Tryz.prog 245 [slv a 0 cap, .int .i64 0, .int .i64 0,fnV c] [] (λv As=>v= .tuple #[]/\As=[]):=by
 refine Fn.enter [0,0,0,0] Tryz.func245 rfl rfl rfl λX F hX=>?_;refine J.q hX λ_=>?_;refine J.lo (α:=Unit) (λ_u=>True) (λ_u=>[⟨8, .int .i64 1,0, .tt⟩,⟨2, .int .i64 0,0, .tt⟩]) [] (λ_u=>[]) (λ_u=>0) (()) (trivial) rfl ?_ (λ_=>rfl) λ_u hI=>?_
 ·rfl
 refine J.q hX λ_=>?_;refine J.cF ?_;refine J.q hX λ_=>?_;refine J.fi hX tk [] rfl rfl rfl ?_;exact⟨rfl,rfl⟩
def cmpF (x y:Fl):Int:=cmpI x.at_ y.at_
theorem u_Stable (g n cap:Nat) (l:List Fl) (hl:l.length=n) (hn:n<=15) (r:List Value):Fn Tryz.prog 207 [.slice (some ⟨g,0,none⟩) n cap, .int .i64 n,fnV 148] [.pt g 34 (cellsFl l++r)] (λv As=>v= .tuple #[]/\As=[.pt g 34 (cellsFl (isortF cmpF l)++r)]):=by
 refine Fn.enter [2,0,0] Tryz.func207 rfl rfl rfl λX F hX=>?_;refine J.q hX λ_=>?_;refine J.lo (α:=Unit) (λ_u=>True) (λ_u=>[⟨8, .int .i64 20,0, .tt⟩,⟨7, .int .i64 0,0, .tt⟩,⟨6, .int .i64 20,0, .tt⟩,⟨0, .slice (some ⟨g,0,none⟩) n cap,2, .tt⟩,⟨1, .int .i64 n,0, .tt⟩,⟨2,fnV 148,0, .tt⟩]) [] (λ_u=>[]) (λ_u=>0) (()) (trivial) rfl ?_ (λ_=>rfl) λ_u hI=>?_
 ·rfl
 refine J.q hX λ_=>?_;refine J.cond rfl (λh1=>?_) (λh1=>?_)
 ·simp only[decide_eq_true_eq]at h1;omega
 refine J.q hX λ_=>?_;refine J.cb hX (i_SortF 148 cmpF (by kernel_rfl) u_Less g n cap l hl (by omega) r) [1] ?_;refine cpq ⟨_,rfl,trivial,?_⟩;refine J.q hX λ_=>?_;refine J.lo (α:=Unit) (λ_u=>True) (λ_u=>[⟨6, .int .i64 20,0, .tt⟩,⟨0, .slice (some ⟨g,0,none⟩) n cap,2, .tt⟩,⟨1, .int .i64 n,0, .tt⟩,⟨2,fnV 148,0, .tt⟩]) [] (λ_u=>[]) (λ_u=>0) (()) (trivial) rfl ?_ (λ_=>rfl) λ_u hI=>?_
 ·rfl
 refine J.q hX λ_=>?_;refine J.cond rfl (λh2=>?_) (λh2=>?_)
 ·simp only[decide_eq_true_eq]at h2;omega
 refine J.q hX λ_=>?_;refine J.fi hX tk [1] rfl rfl rfl ?_;exact⟨rfl,rfl⟩
theorem u_Stable0 (a:Option Nat) (cap:Nat):Fn Tryz.prog 207 [slv a 0 cap, .int .i64 0,fnV 148] [] (λv As=>v= .tuple #[]/\As=[]):=by
 refine Fn.enter [0,0,0] Tryz.func207 rfl rfl rfl λX F hX=>?_;refine J.q hX λ_=>?_;refine J.lo (α:=Unit) (λ_u=>True) (λ_u=>[⟨8, .int .i64 20,0, .tt⟩,⟨7, .int .i64 0,0, .tt⟩,⟨6, .int .i64 20,0, .tt⟩,⟨0,slv a 0 cap,0, .tt⟩,⟨1, .int .i64 0,0, .tt⟩,⟨2,fnV 148,0, .tt⟩]) [] (λ_u=>[]) (λ_u=>0) (()) (trivial) rfl ?_ (λ_=>rfl) λ_u hI=>?_
 ·rfl
 refine J.q hX λ_=>?_;refine J.cF ?_;refine J.q hX λ_=>?_;refine J.cb hX (i_SortF0 148 a cap) [] ?_;refine cpq ⟨_,rfl,trivial,?_⟩;refine J.q hX λ_=>?_;refine J.lo (α:=Unit) (λ_u=>True) (λ_u=>[⟨6, .int .i64 20,0, .tt⟩,⟨1, .int .i64 0,0, .tt⟩]) [] (λ_u=>[]) (λ_u=>0) (()) (trivial) rfl ?_ (λ_=>rfl) λ_u hI=>?_
 ·rfl
 refine J.q hX λ_=>?_;refine J.cF ?_;refine J.q hX λ_=>?_;refine J.fi hX tk [] rfl rfl rfl ?_;exact⟨rfl,rfl⟩
theorem u_Sort (a:Option Nat) (n cap:Nat) (l:List Fl) (hl:l.length=n) (hn:n<=15):Fn Tryz.prog 147 [slv a n cap,fnV 148] [ownA 34 7 a n cap (cellsFl l)] (λv As=>v= .tuple #[]/\As=[ownA 34 7 a n cap (cellsFl (isortF cmpF l))]):=by
 refine Fn.enter [0,0] Tryz.func147 rfl rfl rfl λX F hX=>?_;refine J.q hX λ_=>?_;rcases Nat.eq_zero_or_pos n with h0 | h0
 ·subst h0;obtain rfl:l=[]:=List.length_eq_zero_iff.1 hl;refine J.q hX λ_=>?_;refine J.cb hX (u_Stable0 a cap) [] ?_;refine cpq ⟨_,rfl,trivial,?_⟩;refine J.q hX λ_=>?_;refine J.fi hX tk [1] rfl rfl rfl ?_;exact⟨rfl,rfl⟩
 refine J.know (λh' s=>own_some (c:=(a,cap)) (by omega) (s.get (i:=1) rfl)) λhg=>?_;obtain⟨g,rfl⟩:=hg;refine J.openOwn 1 rfl rfl (λ_=>rfl) λr q1 q2 q3 q4=>?_;refine J.q hX λ_=>?_;refine J.cb hX (u_Stable g n cap l hl hn r) [1] ?_;refine cpq ⟨_,rfl,trivial,?_⟩;have hlen:(isortF cmpF l).length=n:=by rw[(isortF_perm cmpF l).length_eq,hl]
 refine J.closeOwn (e:=34) (size:=7) (n:=n) (cap:=cap) (xs:=cellsFl (isortF cmpF l)) 1 rfl rfl (by rw[cellsFl_len,hlen]) q2 q3 (by rw[List.length_append,cellsFl_len,hlen];rw[cellsFl_len,hl]at q4;exact q4) (List.take_left' (by rw[cellsFl_len,hlen])) rfl ?_;refine J.q hX λ_=>?_;refine J.fi hX tk [1] rfl rfl rfl ?_;exact⟨rfl,rfl⟩
def plF (D B P:Nat) (l:List Fl):List Fl:=l.filter (Fl.may D B P)
theorem plF_snoc (D B P:Nat) (l:List Fl) (k:Nat) (x:Fl) (h:l[k]? =some x):plF D B P (l.take (k+1))=if x.may D B P then plF D B P (l.take k)++[x]else plF D B P (l.take k):=by
 unfold plF;rw[List.take_add_one,h,Option.toList_some,List.filter_append]
 by_cases hx:x.may D B P
 ·rw[if_pos hx,List.filter_cons_of_pos hx];rfl
 ·rw[if_neg hx,List.filter_cons_of_neg hx,List.filter_nil,List.append_nil]
theorem plF_le (D B P:Nat) (l:List Fl):(plF D B P l).length<=l.length:=List.length_filter_le _ _
theorem cellsFl_snoc (l:List Fl) (x:Fl):cellsFl l++flC x=cellsFl (l++[x]):=by unfold cellsFl;rw[List.flatMap_append];simp
theorem u_New (D B P:Nat) (hD:D<=1000) (hB:B<=1000) (hP:P<=1000) (A:Atom) (ad:Option Addr) (n c:Nat) (l:List Fl) (hA:Rd A ad 7 n (cellsFl l)) (hl:l.length=n) (hn:n<=15):Fn Tryz.prog 96 [.agg #[.int .i64 D, .int .i64 B, .int .i64 P], .slice ad n c] [A]
  (λv As=>∃p a c,v= .pointer (some ⟨p,0,none⟩)/\As=[A, .pt p 235 [slv a (plF D B P l).length c],ownA 34 7 a (plF D B P l).length c (cellsFl (isortF cmpF (plF D B P l)))]):=by
 refine Fn.enter [0,0] Tryz.func96 rfl rfl rfl λX F hX=>?_;refine J.q hX λbp=>?_;refine J.turn1 [] rfl (As:=[ownA 34 7 none 0 0 (cellsFl [])]) (λh s=>Sep.one ⟨rfl,rfl,rfl⟩) rfl ?_;refine J.q hX λ_=>?_;refine J.lo (α:=(Nat×Option Nat×Nat)) (λz=>z.1<=n) (λz=>[⟨12, .int .i64 z.1,0, .tt⟩,⟨11, .int .i64 n,0, .tt⟩,⟨10, .slice ad n c,0, .tt⟩,⟨5, .pointer (some ⟨bp (0+1),0,none⟩),4, .tt⟩,⟨2, .pointer (some ⟨bp 0,0,none⟩),3, .tt⟩]) [3,4] (λz=>[.pt (bp (0+1)) 235 [slv z.2.1 (plF D B P (l.take z.1)).length z.2.2],ownA 34 7 z.2.1 (plF D B P (l.take z.1)).length z.2.2 (cellsFl (plF D B P (l.take z.1)))]) (λz=>n-z.1) ((0,none,0)) (Nat.zero_le _) rfl ?_ (λ_=>rfl) λz hI=>?_
 ·rfl
 obtain⟨k,ga,ca⟩:=z;dsimp only at hI ⊢;refine J.q hX λ_=>?_;refine J.cond rfl (λh1=>?_) (λh1=>?_)
 ·simp only[decide_eq_true_eq,Int.ofNat_lt]at h1;obtain⟨x,hx⟩:∃x,l[k]? =some x:=⟨_,List.getElem?_eq_getElem (by omega)⟩;have hsn:=plF_snoc D B P l k x hx;have hle:=plF_le D B P (l.take k);rw[List.length_take]at hle;refine J.know (p:=∃g o,ad=some ⟨g,o,none⟩) (λh' s=>Rd.addr (hA _ (s.get (i:=1) rfl)) (by omega)) λhk2=>?_;obtain⟨g,o,rfl⟩:=hk2;refine J.q hX λ_=>?_;refine J.val hX (flV x) 0 rfl rfl (λhg a w he hw=>?_) rfl trivial ?_
  ·exact rdN_run tk rfl rfl he rfl rfl rfl (hA _ (hw.get (i:=1) rfl)) (by omega) (j:=k*7) (by omega) (by have:=cellsFl_at l [] k _ hx;rwa [List.append_nil]at this) rfl
  refine J.q hX λ_=>?_;refine J.cb hX (u_May D B P hD hB hP x) [] ?_;refine cpq ⟨_,rfl,trivial,?_⟩;refine J.q hX λ_=>?_;refine J.cond rfl (λh2=>?_) (λh2=>?_)
  ·rw[if_pos h2]at hsn;refine J.q hX λ_=>?_;refine J.plan (.of [0,4,8,12,17,21,26,30,32,36,43]) [8,9,10] [3,5] (by rw[hX.hP];kernel_rfl) (by kernel_rfl) ?_;refine J.q hX λ_=>?_;refine J.append hX tk 4 6 0 rfl rfl rfl rfl rfl rfl rfl rfl rfl rfl rfl rfl rfl rfl rfl rfl ?_ ?_ (λ_=>rfl) λa3 c3=>⟨_,(congrArg (λz=>lset _ 4 (ownA _ _ _ _ _ z)) (cellsFl_snoc (plF D B P (l.take k)) x)).trans rfl,(by first | exact trivial | (repeat' (first | exact trivial | refine⟨rfl,?_⟩))),?_⟩
   ·simp only[maxLen];omega
   ·omega
   refine J.q hX λ_=>?_;rw[show(plF D B P (l.take k)).length+1=(plF D B P (l.take (k+1))).length from by rw[hsn,List.length_append];rfl,<- hsn];refine J.q hX λ_=>?_;refine J.nS ((k+1,a3,c3)) (by dsimp only;omega) (by dsimp only;omega) [0,1,2,3,4] rfl rfl
  ·rw[if_neg (by rw[h2];decide)]at hsn;refine J.q hX λ_=>?_;rw[<- hsn];refine J.q hX λ_=>?_;refine J.nS ((k+1,ga,ca)) (by dsimp only;omega) (by dsimp only;omega) [0,1,2,3,4] rfl rfl
 simp only[decide_eq_false_iff_not,Int.ofNat_lt]at h1;obtain rfl:k=n:=by omega
 rw[List.take_of_length_le (by omega)];have hle:=plF_le D B P l;refine J.q hX λ_=>?_;refine J.ca hX (by kernel_rfl) (u_Sort ga _ ca (plF D B P l) rfl (by omega)) [4] 0 rfl rfl rfl rfl rfl rfl (λ_=>rfl) ?_;refine cpq ⟨_,rfl,trivial,?_⟩;refine J.q hX λ_=>?_;refine J.ru hX [1,3,4] ?_;exact⟨bp (0+1),ga,ca,rfl,rfl⟩
theorem cellsFl_drop (L:List Fl):∀k,(cellsFl L).drop (k*7)=cellsFl (L.drop k):=by
 induction L with
 | nil=>intro k;simp[cellsFl]
 | cons x l ih=>
  intro k;cases k with
  | zero=>simp
  | succ k=>
   have e1:cellsFl (x::l)=flC x++cellsFl l:=by simp[cellsFl]
   rw[e1,List.drop_succ_cons,<- ih k,show(k+1)*7=(flC x).length+k*7 from by show _=7+k*7;omega,<- List.drop_drop,List.drop_left' rfl]
theorem cellsFl_take (L:List Fl):∀k,(cellsFl L).take (k*7)=cellsFl (L.take k):=by
 induction L with
 | nil=>intro k;simp[cellsFl]
 | cons x l ih=>
  intro k;cases k with
  | zero=>simp[cellsFl]
  | succ k=>
   have e1:∀m,cellsFl (x::m)=flC x++cellsFl m:=λm=>by simp[cellsFl]
   rw[e1,List.take_succ_cons,e1,<- ih k,show(k+1)*7=(flC x).length+k*7 from by show _=7+k*7;omega,List.take_length_add_append]
theorem cellsFl_one (L:List Fl):∀u∈cellsFl L,u.oneCell'=true:=by
 intro u hu;unfold cellsFl at hu;obtain⟨x,_,hx⟩:=List.mem_flatMap.1 hu;simp only[flC,List.mem_cons,List.not_mem_nil,or_false]at hx;rcases hx with rfl | rfl | rfl | rfl | rfl | rfl | rfl<;>rfl
theorem tw_step {α:Type} (p:α->Bool):∀(L:List α) (k:Nat) (x:α),k<=(L.takeWhile p).length->L[k]? =some x->(p x=true->k+1<=(L.takeWhile p).length)/\(p x=false->k=(L.takeWhile p).length)
 | [],k,x,_,h=>by simp at h
 | y::L,0,x,_,h=>by
  simp only[List.getElem?_cons_zero,Option.some.injEq]at h;subst h;rw[List.takeWhile_cons];constructor
  ·intro e;rw[if_pos e,List.length_cons];omega
  ·intro e;rw[if_neg (by rw[e];decide)];rfl
 | y::L,k+1,x,hk,h=>by
  rw[List.takeWhile_cons]at hk ⊢
  by_cases e:p y=true
  ·rw[if_pos e]at hk ⊢;rw[List.length_cons]at hk ⊢;have:=tw_step p L k x (by omega) (by simpa using h);constructor
   ·intro h1;have:=this.1 h1;omega
   ·intro h1;have:=this.2 h1;omega
  ·rw[if_neg e]at hk;simp at hk
theorem tw_le {α:Type} (p:α->Bool) (L:List α):(L.takeWhile p).length<=L.length:=by
 have:=congrArg List.length (List.takeWhile_append_dropWhile (p:=p) (l:=L));rw[List.length_append]at this;omega
theorem tw_take {α:Type} (p:α->Bool) (L:List α):L.take (L.takeWhile p).length=L.takeWhile p/\L.drop (L.takeWhile p).length=L.dropWhile p:=by
 have h:=List.takeWhile_append_dropWhile (p:=p) (l:=L);constructor
 ·conv=>lhs;arg 2;rw[<- h]
  exact List.take_left' rfl
 ·conv=>lhs;arg 2;rw[<- h]
  exact List.drop_left' rfl
def PlanP (p:Nat) (a:Option (Nat×Nat)) (c:Nat) (L:List Fl):List Atom:=[.pt p 235 [.slice (oad2 a) L.length c],rdA (oad2 a) 7 L.length (cellsFl L)]
theorem x_CloneFl (a:Option (Nat×Nat)) (n c k:Nat) (L:List Fl) (hl:L.length=n) (hz:a=none->c=0) (hk:k<=n) (hc:n<=c) (hn:n<=1000000):Fn Tryz.prog 209 [.slice (oad2 a) k c] [rdA (oad2 a) 7 n (cellsFl L)]
  (λv As=>∃a' c',v=slv a' k c'/\As=[rdA (oad2 a) 7 n (cellsFl L),ownA 34 7 a' k c' (cellsFl (L.take k))]):=by
 refine Fn.enter [0] Tryz.func209 rfl rfl rfl λX F hX=>?_;cases a with
 | none=>
  have:=hz rfl;obtain rfl:k=0:=by omega
  refine J.q hX λ_=>?_;refine J.cT ?_;refine J.turn1 [] rfl (As:=[ownA 34 7 none 0 0 (cellsFl [])]) (λh s=>Sep.one ⟨rfl,rfl,rfl⟩) rfl ?_;refine J.q hX λ_=>?_;refine J.ru hX [1,2] ?_;exact⟨none,0,rfl,rfl⟩
 | some g=>
  refine J.q hX λ_=>?_;refine J.cF ?_;refine J.qn hX 5 λbb=>?_;refine J.closeOwn (e:=34) (size:=7) (n:=0) (cap:=0) (xs:=[]) 2 rfl rfl rfl (Nat.le_refl _) (Nat.zero_le _) rfl rfl rfl ?_;refine J.q hX λ_=>?_;have hRd:Rd (rdA (oad2 (some g)) 7 n (cellsFl L)) (oad2 (some g)) 7 k (cellsFl (L.take k)):=by
   have:=(rdA_rd (oad2 (some g)) 7 n (cellsFl L)).take k hk
   rwa [cellsFl_take]at this
  refine J.appendRO hX tk (a:=some (bb 0)) (n:=0) (cap:=0) (xs:=[]) (Ay:=rdA (oad2 (some g)) 7 n (cellsFl L)) 2 1 (λe=>by cases e) rfl rfl rfl rfl rfl rfl rfl rfl rfl hRd rfl rfl rfl rfl (cellsFl_one _) ?_ ?_ (λ_=>rfl) λa' c'=>⟨_,rfl,trivial,?_⟩
  ·simp only[maxLen];omega
  ·omega
  rw[Nat.zero_add k,List.nil_append];refine J.q hX λ_=>?_;refine J.ru hX [1,2] ?_;exact⟨a',c',rfl,rfl⟩
end Go.Proofs.YtkdlnfdjjifedaaGreat
