/- Helpers. No condition. -/
import Derived.Test.YtmafiplddapokaaGreatU33
import Derived.Below
import Derived.BigQuiet
import Derived.ChangeOld
import Derived.Deep.AppendLies
import Derived.Deep.DeepCutAuto
import Derived.Deep.DrawnRows
import Derived.Deep.Draws
import Derived.Deep.MidRow
import Derived.Deep.QuietTactic
import Derived.Deep.RegionHeld3
import Derived.Deep.RegionLaw
import Derived.Deep.Slices
import Derived.Deep.Strs
import Derived.Defers
import Derived.JoinedOf
import Derived.Laws.AppendOwn
import Derived.Laws.CopyOwn
import Derived.Laws.MakeOwn
import Derived.Laws.OwnMore
import Derived.Laws.ResultCell
import Derived.Laws.StructEq
import Derived.Lib.Hide
import Derived.Lib.SmallJoins
import Derived.Maps.AppendAt
import Derived.Maps.RangeRun
import Derived.OpenShut
import Derived.ProofKit
import Derived.Shelf.GgSortFunc.InsertionK
import Derived.Shelf.SlLaysF0
import Derived.Shelf.SlSortCmp.WholeK
import Derived.Shelf.Sort.Plain
import Derived.Sort.Grow
import Derived.StillTailTactics
import Derived.WalkKit
import Derived.WalkLawsBesides
import Derived.WalkSpells
import Derived.WideKeyEntry
set_option maxRecDepth 20000
set_option linter.all false
namespace Go.Proofs.YtmafiplddapokaaGreat
section
open Go Go.RowKit
theorem b1Z (f p n t l d:Nat) (Z:Fv) (k m:Nat) (hO:Z.Ok (Fv.cW+(1+k)) m) (hm:m<=1000) (e:En) (hd:e.data.length=16):FP 48 [pp f,enV e] (FvP f p n t l d Z)
  (Ps (iI (Z.waits e).2) (FvP f p n t l d (Z.waits e).1)):=by
 have hwt:Z.waits e=(if Z.ask.off=true then(Z.ask,9)
  else if e.lpn<0\/e.lpn>=Z.ask.lg then(Z.ask,3)
  else if(Z.ask.L.length:Int)>=Z.ask.S.slots then
   let w:=Z.ask.writes
   if w.2≠0 then w else(w.1.put e,0)
  else(Z.ask.put e,0)):=rfl
 have hlen:=hO.len;refine FE [2,0] Tryz.func48 λX F hX=>?_;refine J.q λbz=>?_;refine J.cb (a1R f n t l p d Z) [1,3] ?_;refine cpq ⟨_,rfl,trivial,?_⟩;have hOY:=hO.ask;obtain⟨Y,hY⟩:∃Y,Y=Z.ask:=⟨_,rfl⟩;have e1:Z.S=Y.S:=by rw[hY];rfl
 have e2:Z.L=Y.L:=by rw[hY];rfl
 rw[<- hY]at hwt hOY;rw[<- hY,e1,e2];rw[e2]at hlen;have hN:=hOY.dv.gd.ok;cases ho:Y.off with
 | true=>
  rw[ho,d8 rfl]at hwt;refine J.qT λ_=>?_;refine J.qr [1,2,3,4,5,6] λ_=>?_;rw[hwt];exact⟨rfl,rfl⟩
 | false=>
  rw[ho,d6 l9]at hwt;refine J.qF λ_=>?_;refine J.pq (.of [0,5,8,12,16,21,24,30,32,36]) [] [1,2,3,4,5,6,7] λ_ _=>?_;have hput:∀W:{W:Fv//Z.waits e=(W.put e,0)/\W.L.length<=200/\0<=W.nx/\W.nx<=4611686018427387904},Z.waits e=(W.1.put e,0):=λW=>W.2.1;refine J.gcase hX rfl rfl rfl stq (λhb=>?_) (λhb=>?_)
  ·have hi:decide (e.lpn<0)=false:=by simpa using hb
   rw[hi];refine J.qp (a1a f n t l p d Y hN) [1,3] λ_=>?_;simp only[c8]at hi;refine J.qd (λ_ h1=>?_) λ_ h1=>?_
   ·simp only[D2,a0S,d5]at h1;rw[d8 (.inr h1)]at hwt;refine J.qr [1,2,3,4,5,6] λ_=>?_;rw[hwt];exact⟨rfl,rfl⟩
   simp only[D2,a0S,c8]at h1;rw[d6 (by omega)]at hwt;have hbb:Y.S.t.b<=1000:=by have:=hOY.dv.t.b;have:=hN.bd16;omega
   refine J.p (.of [0,4,8,13,20,24,28,33,18,38,40]) [] [1,2,3,4,5,6,7] λ_=>?_;refine J.qp (b4b d Y.L) [6] λ_=>?_;refine J.qp (b1z p n t l Y.S hbb hOY.dv.t.len) [2,3,4,5] λ_=>?_;refine J.q λ_=>?_;refine J.join (α:={W:Fv//Z.waits e=(W.put e,0)/\W.L.length<=200/\0<=W.nx/\W.nx<=4611686018427387904}) (λ_=>[⟨0,pp f,2, .tt⟩,⟨3,pp (bz 0),8, .tt⟩]) (λW=>[.hp F,a3V f n t l p d W.1,a1W p n t l W.1.S,B8 n W.1.S.N,TlA t W.1.S.t,TbA l W.1.S.T,a2q d W.1.L, .pt (bz 0) 101 (enL e)]) (λhj=>?_) (λW=>?_)
   ·refine J.qd (λ_ h2=>?_) λ_ h2=>?_
    ·simp only[a0S,d5]at h2;rw[d8 h2]at hwt;have hkw:=Fv.writes_keep hOY;refine J.qp (a9K f p n t l d Y (1+k) m hOY hm) [1,2,3,4,5,6] λ_=>?_;dsimp only at hwt;generalize Y.writes=w at hwt hkw ⊢;obtain⟨V,er⟩:=w;dsimp only at hwt hkw ⊢;refine J.qd (λ_ h3=>?_) λ_ h3=>?_
     ·simp only[E6,H5]at h3;rw[d8 h3]at hwt;refine J.qr [1,2,3,4,5,6] λ_=>?_;rw[hwt];exact⟨rfl,rfl⟩
     ·simp only[z7]at h3;rw[d6 (by rw[h3];decide)]at hwt;have hnx:=hkw.1.nx;refine J.qn 1 λ_=>?_;exact J.goto [0,1,2,3,4,5,6,7] (hj ⟨V,hwt,hkw.1.len,by omega,by omega⟩) ⟨rfl,rfl,trivial⟩ rfl rfl
    ·simp only[a0S,c8]at h2;rw[d6 h2]at hwt;have hnx:=hOY.nx;refine J.qn 1 λ_=>?_;exact J.goto [0,1,2,3,4,5,6,7] (hj ⟨Y,hwt,hlen,by omega,by omega⟩) ⟨rfl,rfl,trivial⟩ rfl rfl
   obtain⟨W,hw1,hw2,hw3,hw4⟩:=W;dsimp only;refine J.p (.of [0,4,8,13,17,22]) [] [1,2,3,4,5,7] λ_=>?_;refine J.qp (b4a d W.L (by omega) {e with seq:=W.nx}) [6] λ_=>?_;refine J.qr [1,2,3,4,5,6] λ_=>?_;rw[hw1];exact⟨rfl,rfl⟩
  ·have hi:decide (e.lpn<0)=true:=by simpa using hb
   rw[hi];refine J.q λ_=>?_;refine J.vT (.bool false) rfl rfl (λhg a w he hC=>by simp[G.on]at hg) ?_;simp only[d5]at hi;rw[d8 (.inl hi)]at hwt;refine J.qT λ_=>?_;refine J.qr [1,2,3,4,5,6] λ_=>?_;rw[hwt];exact⟨rfl,rfl⟩
theorem a3M (f p n t l d:Nat) (Z:Fv) (k m:Nat) (hO:Z.Ok (Fv.cW+(1+k)) m) (hm:m<=1000) (i:Int) (x:List UInt8) (hx:x.length=16):FP 11 [pp f,iI i,a5t x] (FvP f p n t l d Z)
  (λv As=>v=iI (Z.write i x).2/\As=FvP f p n t l d (Z.write i x).1):=by
 refine FE [2,0,0] Tryz.func11 λX F hX=>?_;refine J.qp (b1Z f p n t l d Z k m hO hm ⟨i,0,1,x⟩ hx) [1,2,3,4,5,6] λ_=>?_;exact J.qx [1,2,3,4,5,6]
theorem b3W (f p n t l d:Nat) (Z:Fv) (k m:Nat) (hO:Z.Ok (Fv.cW+(1+k)) m) (hm:m<=1000) (i:Int):FP 36 [pp f,iI i] (FvP f p n t l d Z)
  (λv As=>v=iI (Z.trim i).2/\As=FvP f p n t l d (Z.trim i).1):=by
 refine FE [2,0] Tryz.func36 λX F hX=>?_;refine J.qp (b1Z f p n t l d Z k m hO hm ⟨i,0,2,zeros16⟩ rfl) [1,2,3,4,5,6] λ_=>?_;exact J.qx [1,2,3,4,5,6]
theorem a5k (f p n t l d:Nat) (Z:Fv) (k m:Nat) (hO:Z.Ok (Fv.cW*200+k) m) (hm:m<=1000):FP 12 [pp f] (FvP f p n t l d Z)
  (λv As=>v=iI Z.flush.2/\As=FvP f p n t l d Z.flush.1):=by
 have hfl:Z.flush=(if Z.ask.off=true then(Z.ask,9)else Fv.flushGo Z.ask.L.length Z.ask):=rfl;have hlen:=hO.len;refine FE [2] Tryz.func12 λX F hX=>?_;refine J.qp (a1R f n t l p d Z) [1,3] λ_=>?_;have hOY:=hO.ask;obtain⟨Y,hY⟩:∃Y,Y=Z.ask:=⟨_,rfl⟩;have e1:Z.S=Y.S:=by rw[hY];rfl
 have e2:Z.L=Y.L:=by rw[hY];rfl
 rw[<- hY]at hfl hOY;rw[<- hY,e1,e2];rw[e2]at hlen;cases ho:Y.off with
 | true=>
  rw[ho,d8 rfl]at hfl;refine J.qT λ_=>?_;refine J.qr [1,2,3,4,5,6] λ_=>?_;rw[hfl];exact⟨rfl,rfl⟩
 | false=>
  rw[ho,d6 l9]at hfl;refine J.qF λ_=>?_;have hmul:Fv.cW*Y.L.length<=Fv.cW*200:=y9 _ hlen;refine J.q λ_=>?_;refine J.l (α:=(Nat×Fv)) (λz=>z.2.Ok (Fv.cW*z.1+k) m/\z.2.L.length<=z.1/\Fv.flushGo z.1 z.2=Z.flush) (λz=>[⟨0,pp f,2, .tt⟩]) [1,2,3,4,5,6] (λz=>FvP f p n t l d z.2) (λz=>z.1) ((Y.L.length,Y)) (⟨hOY.less (by dsimp only;omega),i7 _,hfl.symm⟩) λz hI=>?_;obtain⟨j,V⟩:=z;dsimp only at hI ⊢;obtain⟨hV,hj,hw⟩:=hI;refine J.qp (b4b d V.L) [6] λ_=>?_;refine J.qd (λ_ h1=>?_) λ_ h1=>?_
  ·simp only[gt_iff_lt,d5]at h1;have hL0:V.L.length≠0:=by omega
   obtain⟨j,rfl⟩:∃i,j=i+1:=⟨j-1,by omega⟩;rw[Fv.flushGo,d6 hL0]at hw;have hV1:V.Ok (Fv.cW+(Fv.cW*j+k)) m:=hV.less (by rw[H3];omega);have hkw:=Fv.writes_keep hV1;refine J.qp (a9K f p n t l d V _ m hV1 hm) [1,2,3,4,5,6] λ_=>?_;dsimp only at hw;generalize V.writes=w at hw hkw ⊢;obtain⟨U,er⟩:=w;dsimp only at hw hkw ⊢;refine J.qd (λ_ h2=>?_) λ_ h2=>?_
   ·simp only[E6,H5]at h2;rw[d8 h2]at hw;refine J.qr [1,2,3,4,5,6] λ_=>?_;rw[<- hw];exact⟨rfl,rfl⟩
   ·simp only[z7]at h2;rw[d6 (by rw[h2];decide)]at hw;have:=hkw.2.2.2 h2 hL0;refine J.q λ_=>?_;refine J.n ((j,U)) (⟨hkw.1,by dsimp only;omega,hw⟩) (by dsimp only;omega) [0,1,2,3,4,5,6]
  ·simp only[gt_iff_lt,c8]at h1;have hz:Fv.flushGo j V=(V,0):=by
    cases j with
    | zero=>rfl
    | succ j=>rw[Fv.flushGo,d8 (by omega)]
   refine J.qr [1,2,3,4,5,6] λ_=>?_;rw[<- hw,hz];exact⟨rfl,rfl⟩
theorem b3X (f p n t l d:Nat) (Z:Fv) (k m:Nat) (hO:Z.Ok (Dv.costS+k) m) (hm:m<=1000):FP 16 [pp f] (FvP f p n t l d Z)
  (λv As=>v=iI Z.tick.2/\As=FvP f p n t l d Z.tick.1):=by
 have htk:Z.tick=(if Z.ask.off=true then(Z.ask,9)else({Z.ask with S:=(Z.ask.S.step 4).1}.told (Z.ask.S.step 4).2.2,(Z.ask.S.step 4).2.2)):=rfl;refine FE [2] Tryz.func16 λX F hX=>?_;refine J.qp (a1R f n t l p d Z) [1,3] λ_=>?_;have hOY:=hO.ask;obtain⟨Y,hY⟩:∃Y,Y=Z.ask:=⟨_,rfl⟩;have e1:Z.S=Y.S:=by rw[hY];rfl
 have e2:Z.L=Y.L:=by rw[hY];rfl
 rw[<- hY]at htk hOY;rw[<- hY,e1,e2];cases ho:Y.off with
 | true=>
  rw[ho,d8 rfl]at htk;refine J.qT λ_=>?_;refine J.qr [1,2,3,4,5,6] λ_=>?_;rw[htk];exact⟨rfl,rfl⟩
 | false=>
  rw[ho,d6 l9]at htk;refine J.qF λ_=>?_;refine J.p (.of [0,4,8,13,16,20,24,29,32,36,40,45,48,52,56,61,66,68,72,76,80,84]) [21] [1,6] λ_=>?_;refine J.qp (b3L n t l p Y.S _ m hOY.dv hm 4) [2,3,4,5] λ_=>?_;generalize Y.S.step 4=w at htk ⊢;obtain⟨V,nn,er⟩:=w;dsimp only at htk ⊢;rw[show a3V f n t l p d Y=a3V f n t l p d {Y with S:=V}from rfl];refine J.qp (b0L f n t l p d {Y with S:=V} er) [1] λ_=>?_;refine J.qr [1,2,3,4,5,6] λ_=>?_;rw[htk];exact⟨rfl,rfl⟩
theorem b7U (f p n t l d:Nat) (Z:Fv) (k m:Nat) (hO:Z.Ok k m):FP 28 [pp f] (FvP f p n t l d Z)
  (λv As=>v= .bool Z.whole.2/\As=FvP f p n t l d Z.whole.1):=by
 have hwh:Z.whole=(if Z.ask.off=true then(Z.ask,false)else({Z.ask with S:=Z.ask.S.seen},Z.ask.S.seen.leftN==0)):=rfl;refine FE [2] Tryz.func28 λX F hX=>?_;refine J.qp (a1R f n t l p d Z) [1,3] λ_=>?_;have hOY:=hO.ask;obtain⟨Y,hY⟩:∃Y,Y=Z.ask:=⟨_,rfl⟩;have e1:Z.S=Y.S:=by rw[hY];rfl
 have e2:Z.L=Y.L:=by rw[hY];rfl
 rw[<- hY]at hwh hOY;rw[<- hY,e1,e2];have hbd:=hOY.dv.gd.ok.bd16;have htd:=hOY.dv.t.d;cases ho:Y.off with
 | true=>
  rw[ho,d8 rfl]at hwh;refine J.qT λ_=>?_;refine J.qr [1,2,3,4,5,6] λ_=>?_;rw[hwh];exact⟨rfl,rfl⟩
 | false=>
  rw[ho,d6 l9]at hwh;refine J.qF λ_=>?_;refine J.qp (a2B n Y.S.N) [3] λ_=>?_;refine J.q λ_=>?_;refine J.l (α:=(Nat×Tl)) (λz=>z.1<=Y.S.N.dies/\(List.range z.1).foldl (λt (d:Nat)=>if Y.S.N.deadAt d then t.die d else t) Y.S.t=z.2/\z.2.Fit Y.S.N) (λz=>[si 13 z.1,si 12 Y.S.N.dies,⟨0,pp f,2, .tt⟩]) [4] (λz=>[TlA t z.2]) (λz=>Y.S.N.dies-z.1) ((0,Y.S.t)) (⟨j7 _,rfl,hOY.dv.t⟩) λz hI=>?_;obtain⟨i,U⟩:=z;dsimp only at hI ⊢;obtain⟨hd,hfo,hU⟩:=hI;refine J.qd (λ_ h1=>?_) λ_ h1=>?_
  ·simp only[d5,i5]at h1;have hsu:(List.range (i+1)).foldl (λt (d:Nat)=>if Y.S.N.deadAt d then t.die d else t) Y.S.t=if Y.S.N.deadAt i then U.die i else U:=by rw[s9,B3,hfo];rfl
   refine J.qp (a7S n Y.S.N hOY.dv.gd.ok i) [3] λ_=>?_;refine J.qd (λ_ h2=>?_) λ_ h2=>?_
   ·rw[d8 h2]at hsu;refine J.qp (a4S t U i) [4] λ_=>?_;refine J.q λ_=>?_;refine J.n ((i+1,U.die i)) (⟨by dsimp only;omega,hsu,hU.die i⟩) (by dsimp only;omega) [0,1,2,3,4,5,6]
   ·rw[d6 (by rw[h2];decide)]at hsu;refine J.q λ_=>?_;refine J.n ((i+1,U)) (⟨by dsimp only;omega,hsu,hU⟩) (by dsimp only;omega) [0,1,2,3,4,5,6]
  simp only[c8,i5]at h1;obtain rfl:i=Y.S.N.dies:=by omega
  have hseen:Y.S.seen={Y.S with t:=U}:=by unfold Dv.seen Dv.seeDead;rw[htd,hfo]
  obtain⟨Q,hQ⟩:∃Q,Q=Y.S.seen:=⟨_,rfl⟩;have hQO:Q.Ok k m:=by rw[hQ];exact hOY.dv.seen
  have eT:Y.S.T=Q.T:=by rw[hQ];rfl
  have eU:U=Q.t:=by rw[hQ,hseen]
  rw[eT,eU];refine J.p (.of [0,4,8,13,16,20,24,29,34,36,40]) [10] [1,2,3,4,5,6] λ_=>?_;refine J.qp (b3M t l Q k m hQO) [4,5] λ_=>?_;refine J.qr [1,2,3,4,5,6] λ_=>?_;rw[hwh,<- hQ];refine⟨rfl,?_⟩;unfold FvP;dsimp only;rw[show a1W p n t l Y.S=a1W p n t l Q from by rw[hQ];rfl,show B8 n Y.S.N=B8 n Q.N from by rw[hQ];rfl];rfl
theorem Tl.seeDead_succ (N:Nand) (t:Tl) (i:Nat):(List.range (i+1)).foldl (λt (d:Nat)=>if N.deadAt d then t.die d else t) t=if N.deadAt i then((List.range i).foldl (λt (d:Nat)=>if N.deadAt d then t.die d else t) t).die i else(List.range i).foldl (λt (d:Nat)=>if N.deadAt d then t.die d else t) t:=by rw[s9,B3];rfl
theorem Tl.ofB_succ (N:Nand) (t:Tl) (b i:Nat):(List.range (i+1)).foldl (Tl.ofD N b) t=Tl.ofD N b ((List.range i).foldl (Tl.ofD N b) t) i:=by rw[s9,B3];rfl
theorem Tl.of_succ (N:Nand) (t:Tl) (i:Nat):(List.range (i+1)).foldl (Tl.ofB N) t=Tl.ofB N ((List.range i).foldl (Tl.ofB N) t) i:=by rw[s9,B3];rfl
theorem c1M (n:Nat) (N:Nand) (hN:N.Ok):FP 58 [pp n] [B8 n N] (λv As=>∃q,v=pp q/\As=[B8 n N,TlA q (Tl.of N)]):=by
 have hbd:=hN.bd16;refine FE [2] Tryz.func58 λX F hX=>?_;refine J.qp (a2B n N) [1] λ_=>?_;refine J.q λ_=>?_;refine J.ca hX (by kernel_rfl) (b2y N.dies N.blocks N.pages hN.geo) [] 3 rfl rfl rfl rfl rfl rfl (λ_=>rfl) ?_;rintro v As ⟨q,rfl,rfl⟩;refine⟨_,rfl,trivial,?_⟩;refine J.qF λ_=>?_;refine J.o (α:=Nat) 2 λg=>?_;refine J.q λ_=>?_;refine J.cl (λg:Nat=>TlP q (Tl.new N.dies N.blocks N.pages) g) (g) [2,3] ?_;refine J.q λ_=>?_;refine J.l (α:=(Nat×Tl)) (λz=>z.1<=N.dies/\(List.range z.1).foldl (λt (d:Nat)=>if N.deadAt d then t.die d else t) (Tl.new N.dies N.blocks N.pages)=z.2/\z.2.Fit N) (λz=>[si 17 z.1,si 16 N.dies,⟨0,pp n,2, .tt⟩,⟨3,pp q,3, .tt⟩]) [2] (λz=>[TlA q z.2]) (λz=>N.dies-z.1) ((0,Tl.new N.dies N.blocks N.pages)) (⟨j7 _,rfl,Tl.Fit.new N⟩) λz hI=>?_;obtain⟨i,U⟩:=z;dsimp only at hI ⊢;obtain⟨hd,hfo,hU⟩:=hI;refine J.qd (λ_ h1=>?_) λ_ h1=>?_
 ·simp only[d5,i5]at h1;have hsu:=Tl.seeDead_succ N (Tl.new N.dies N.blocks N.pages) i;rw[hfo]at hsu;refine J.qp (a7S n N hN i) [1] λ_=>?_;refine J.qd (λ_ h2=>?_) λ_ h2=>?_
  ·rw[d8 h2]at hsu;refine J.qp (a4S q U i) [2] λ_=>?_;refine J.q λ_=>?_;refine J.n ((i+1,U.die i)) (⟨by dsimp only;omega,hsu,hU.die i⟩) (by dsimp only;omega) [0,1,2,3]
  ·rw[d6 (by rw[h2];decide)]at hsu;refine J.q λ_=>?_;refine J.n ((i+1,U)) (⟨by dsimp only;omega,hsu,hU⟩) (by dsimp only;omega) [0,1,2,3]
 simp only[c8,i5]at h1;obtain rfl:i=N.dies:=by omega
 have hsee:U=Dv.seeDead N (Tl.new N.dies N.blocks N.pages):=hfo.symm;have hUb:=hU.b;refine J.o (α:=Nat) 2 λg2=>?_;refine J.q λ_=>?_;refine J.cl (λg:Nat=>TlP q U g) (g2) [2,4] ?_;rw[hUb];refine J.q λ_=>?_;refine J.l (α:=(Nat×Tl)) (λz=>z.1<=N.blocks/\(List.range z.1).foldl (Tl.ofB N) U=z.2/\z.2.Fit N) (λz=>[si 32 z.1,si 31 N.blocks,⟨0,pp n,2, .tt⟩,⟨3,pp q,3, .tt⟩]) [2] (λz=>[TlA q z.2]) (λz=>N.blocks-z.1) ((0,U)) (⟨j7 _,rfl,hU⟩) λz hI=>?_;obtain⟨b,T⟩:=z;dsimp only at hI ⊢;obtain⟨hb,hfb,hT⟩:=hI;refine J.qd (λ_ h3=>?_) λ_ h3=>?_
 ·simp only[d5,i5]at h3;have hsu:=Tl.of_succ N U b;rw[hfb]at hsu;have hTd:=hT.d;refine J.o (α:=Nat) 2 λg3=>?_;refine J.q λ_=>?_;refine J.cl (λg:Nat=>TlP q T g) (g3) [2,5] ?_;rw[hTd];refine J.q λ_=>?_;refine J.l (α:=(Nat×Tl)) (λz=>z.1<=N.dies/\(List.range z.1).foldl (Tl.ofD N b) T=z.2/\z.2.Fit N) (λz=>[si 40 z.1,si 39 N.dies,si 32 b,si 31 N.blocks,si 5 b,⟨0,pp n,2, .tt⟩,⟨3,pp q,3, .tt⟩]) [2] (λz=>[TlA q z.2]) (λz=>N.dies-z.1) ((0,T)) (⟨j7 _,rfl,hT⟩) λz hI=>?_;obtain⟨d,V⟩:=z;dsimp only at hI ⊢;obtain⟨hd,hfd,hV⟩:=hI;refine J.qd (λ_ h4=>?_) λ_ h4=>?_
  ·simp only[d5,i5]at h4;have hsd:=Tl.ofB_succ N T b d;rw[hfd]at hsd;have hVb:=hV.b;have hod:Tl.ofD N b V d=if(L.has ((V.wore b (N.wornAt d b)).mask b) d&&decide ((N.next d b:Int)>0))=true then(V.wore b (N.wornAt d b)).clean b false else V.wore b (N.wornAt d b):=rfl
   rw[hod]at hsd;have hW:=hV.wore b (N.wornAt d b);refine J.qp (b2O n N hN d b) [1] λ_=>?_;refine J.qp (b0i q V (by omega) hV.len b (N.wornAt d b)) [2] λ_=>?_;obtain⟨Q,hQ⟩:∃Q,V.wore b (N.wornAt d b)=Q:=⟨_,rfl⟩;rw[hQ]at hsd hW ⊢;have hQb:=hW.b;refine J.qp (a2e q Q (by omega) hW.len b) [2] λ_=>?_;refine J.qp (a9C (Q.mask b) d) [] λ_=>?_;refine J.q λ_=>?_;refine J.gcase hX rfl rfl rfl trivial (λhb2=>?_) (λhb2=>?_)
   ·rw[hb2]at hsd ⊢;refine J.qp (b6Z n N hN d b) [1] λ_=>?_;refine J.qd (λ_ h5=>?_) λ_ h5=>?_
    ·simp only[q9]at h5 hsd;rw[d8 h5]at hsd;refine J.qp (a7s q Q (by omega) hW.len b false) [2] λ_=>?_;refine J.q λ_=>?_;refine J.n ((d+1,Q.clean b false)) (⟨by dsimp only;omega,hsd,hW.clean b false⟩) (by dsimp only;omega) [0,1,2,3,4,5]
    ·simp only[q9]at h5 hsd;rw[d6 (by rw[h5];decide)]at hsd;refine J.q λ_=>?_;refine J.n ((d+1,Q)) (⟨by dsimp only;omega,hsd,hW⟩) (by dsimp only;omega) [0,1,2,3,4,5]
   ·rw[hb2]at hsd ⊢;rw[X6,d6 l9]at hsd;refine J.q λ_=>?_;refine J.v (.bool false) rfl rfl (λhg a w he hw=>by simp[G.on]at hg) ?_;refine J.qF λ_=>?_;refine J.q λ_=>?_;refine J.n ((d+1,Q)) (⟨by dsimp only;omega,hsd,hW⟩) (by dsimp only;omega) [0,1,2,3,4,5]
  simp only[c8,i5]at h4;obtain rfl:d=N.dies:=by omega
  have hsu2:(List.range (b+1)).foldl (Tl.ofB N) U=V:=by rw[hsu,<- hfd];rfl
  refine J.q λ_=>?_;refine J.n ((b+1,V)) (⟨by dsimp only;omega,hsu2,hV⟩) (by dsimp only;omega) [0,1,2,3,4]
 simp only[c8,i5]at h3;obtain rfl:b=N.blocks:=by omega
 have hof:T=Tl.of N:=by rw[<- hfb,hsee];rfl
 refine J.qr [1,2] λ_=>?_;exact⟨q,rfl,by rw[<- hof];rfl⟩
theorem b3v (q:Nat) (t:Tl) (hb:t.b<=1000) (hl:t.l.length=t.b) (k:Int) (on:Bool):FP 61 [pp q,iI k, .bool on] [TlA q t] (Ps (.tuple #[]) [TlA q (t.hold k on)]):=by
 refine FE [2,0,0] Tryz.func61 λX F hX=>?_;refine J.o (α:=Nat) 1 λg=>?_;refine J.qp (a6m q t hb g k) [1,2] λ_=>?_;cases hh:t.has k with
 | false=>
  rw[Tl.adr,hh,d6 (by simp)];refine J.qF λ_=>?_;refine J.q λ_=>?_;refine J.cl (λg:Nat=>TlP q t g) g [1,2] ?_;refine J.q λ_=>?_;refine J.f [1] ?_;exact⟨rfl,by rw[Tl.hold,Tl.set,hh];rfl⟩
 | true=>
  rw[Tl.adr,hh,d8 rfl];refine J.qT λ_=>?_;refine J.q λ_=>?_;refine J.s1 2 ((t.hold k on).l.flatMap sbL) ?_ ?_ ?_
  ·rw[t.len_l,hl];simp only[Tl.has,f7,d5]at hh;omega
  ·exact t.set_at hl hh 3 (by omega) _ _ rfl
  refine J.close (f:=λg:Nat=>TlP q (t.hold k on) g) g [1,2] rfl (by simp only[TlP,Tl.hold,Tl.set_d,Tl.set_b,Tl.set_p,Tl.set_dead];rfl) rfl ?_;refine J.q λ_=>?_;refine J.f [1] ?_;exact⟨rfl,rfl⟩
theorem a9I (t:Tl) (l:List Int) (on:Bool) {i:Nat} {x:Int} (h:l[i]? =some x):(l.take (i+1)).foldl (λt b=>t.hold b on) t=((l.take i).foldl (λt b=>t.hold b on) t).hold x on:=by
 rw[D3,h,K7,B3];rfl
theorem b3H (a:Option Nat):oad a=R9 (a.map λg=>(g,0)):=by cases a<;>rfl
theorem a0N (n:Nat) (N:Nand) (k m:Nat) (hG:N.Gd (Dv.costK+k) m) (hm:m<=1000) (hoff:N.off=false):FP 18 [pp n] [B8 n N]
  (λv As=>(G9 N).2=0/\(∃f p t l d,v= .tuple #[pp f,iI 0]/\As=FvP f p n t l d (Fv.of (G9 N).1))\/(G9 N).2≠0/\v= .tuple #[.pointer none,iI (G9 N).2]/\As=[B8 n (G9 N).1.N]):=by
 have hN:=hG.ok;have hbd:=hN.bd16;have hlg:=b7h N.dies N.blocks N.pages (by omega) (by omega);refine FE [2] Tryz.func18 λX F hX=>?_;refine J.qp (a2B n N) [1] λ_=>?_;refine J.qp (a6a N.dies N.blocks N.pages hN.geo) [] λ_=>?_;rw[hlg];refine J.qc (b5W n N hN hG.room hoff (lgN N.dies N.blocks N.pages)) [1] λ_=>?_;rintro v As ⟨q,a1,c1,a2,c2,rfl,rfl⟩;refine⟨_,rfl,trivial,?_⟩;obtain⟨en1,en2,en3,en4⟩:=b0n hN (lgN N.dies N.blocks N.pages);have h200:=a1f hN;obtain⟨tn1,tn2,tn3,tn4⟩:=a9i (N:=N) (m:=lgN N.dies N.blocks N.pages) (by omega);have hheld:=b4z hN (lgN N.dies N.blocks N.pages);have h0:=Dv.Ok.mt0 hG;have hmt:=a7V N;have e0:Dv.mt0 N=⟨N,Tl.of N,(V.scan N (lgN N.dies N.blocks N.pages)).tb,-1,0,0,max (V.scan N (lgN N.dies N.blocks N.pages)).next 1⟩:=rfl;obtain⟨sc,hsc⟩:∃sc,V.scan N (lgN N.dies N.blocks N.pages)=sc:=⟨_,rfl⟩;rw[hsc]at en1 en2 en3 en4 tn1 tn2 tn3 tn4 hheld hmt e0 ⊢;refine J.q λbs=>?_;refine J.cF ?_;refine J.know (λh' s=>a0M (show a0V _ _ a1 sc.torn.length c1 _ _ from s.get (i:=3) rfl)) λhcap1=>?_;refine J.know (λh' s=>a7N (show a0V _ _ a1 sc.torn.length c1 _ _ from s.get (i:=3) rfl)) λhnil1=>?_;refine J.know (λh' s=>a0M (show a0V _ _ a2 sc.held.length c2 _ _ from s.get (i:=4) rfl)) λhcap2=>?_;refine J.p (.of [0,4,12,17,10,22,24,31,32]) [6,7,8] [1,2,3,4,5] λ_=>?_;refine J.qc (c1M n N hN) [1] λ_=>?_;rintro v As ⟨t,rfl,rfl⟩;refine⟨_,rfl,stq,?_⟩;refine J.qc (c0r) [] λ_=>?_;rintro v As ⟨d,rfl,rfl⟩;refine⟨_,rfl,stq,?_⟩;refine J.q λbf=>?_;rw[a6Z,b3H];refine J.p (.of [0,4,8,12,16,21,24,28,32,37,40,45,50,52,56,63]) [13,14,15] [1,2,3,4,5,6,7,8] λ_=>?_;refine J.qc (b6G n t q sc.next (by omega) N (Tl.of N) sc.tb) [] λ_=>?_;rintro v As ⟨p,rfl,rfl⟩;refine⟨_,rfl,stq,?_⟩;rw[<- e0];rw[show TlA t (Tl.of N)=TlA t (Dv.mt0 N).t from rfl,show B8 n N=B8 n (Dv.mt0 N).N from rfl,show TbA q sc.tb=TbA q (Dv.mt0 N).T from by rw[e0]];generalize Dv.mt0 N=S0 at h0 hmt ⊢;refine J.q λ_=>?_;refine J.l (α:=(Nat×Tl)) (λz=>z.1<=sc.held.length/\(sc.held.take z.1).foldl (λt b=>t.hold b true) S0.t=z.2/\z.2.Fit S0.N) (λz=>[si 52 z.1,si 51 sc.held.length,sv 50 (slv a2 sc.held.length c2),⟨0,pp n,2, .tt⟩,⟨4,pp (bs 0),6, .tt⟩,⟨6,pp (bf 0),9, .tt⟩]) [6] (λz=>[TlA t z.2]) (λz=>sc.held.length-z.1) ((0,S0.t)) (⟨j7 _,rfl,h0.t⟩) λz hI=>?_;obtain⟨i,U⟩:=z;dsimp only at hI ⊢;obtain⟨hi,hfo,hU⟩:=hI;have hUb:=hU.b;have hS0:=h0.gd.ok.bd16;refine J.qd (λ_ h1=>?_) λ_ h1=>?_
 ·simp only[d5,i5]at h1;obtain⟨x,hx⟩:∃x,sc.held[i]? =some x:=⟨_,c9 h1⟩;have hsu:=a9I S0.t sc.held true hx;rw[hfo]at hsu;refine J.know (λh' s=>D1 (c:=(a2,c2)) (by omega) (s.get (i:=4) rfl)) λhg=>?_;obtain⟨g,rfl⟩:=hg;refine J.q λ_=>?_;refine J.v (iI x) rfl rfl (λhg aa w he hw=>I2 tk rfl rfl he rfl rfl rfl (hw.get (i:=4) rfl) (by rw[show 0+(i:Int).toNat*1=i from by omega,A5,i9,hx];rfl)) ?_;refine J.qp (b3v t U (by omega) hU.len x true) [6] λ_=>?_;refine J.q λ_=>?_;refine J.n ((i+1,U.hold x true)) (⟨by dsimp only;omega,hsu,hU.hold x true⟩) (by dsimp only;omega) [0,1,2,3,4,5,6,7,8,9]
 simp only[c8,i5]at h1;obtain rfl:i=sc.held.length:=by omega
 rw[B1 (i7 _)]at hfo;have hA:S0.holds sc.held true={S0 with t:=U}:=by unfold Dv.holds;rw[hfo]
 have hAO:=h0.holds sc.held true;dsimp only at hmt;obtain⟨Q,hQ⟩:∃Q,Q=S0.holds sc.held true:=⟨_,rfl⟩;rw[<- hQ]at hAO hmt;rw[show B8 n S0.N=B8 n Q.N from by rw[hQ];rfl,show TbA q S0.T=TbA q Q.T from by rw[hQ];rfl,show TlA t U=TlA t Q.t from by rw[hQ,hA],show a1W p n t q S0=a1W p n t q Q from by rw[hQ];rfl];have hf200:sc.first<=200:=by rw[j9]at tn2;omega
 have hRdA:Rd (m9 101 19 a1 sc.torn.length c1 (n7 sc.torn)) (R9 (a1.map λg=>(g,0))) 19 sc.torn.length (n7 sc.torn):=by
  have:=Y5 101 19 a1 sc.torn.length c1 (n7 sc.torn)
  rwa [b3H]at this
 have hRd1:Rd (m9 101 19 a1 sc.torn.length c1 (n7 sc.torn)) (R9 (a1.map λg=>(g,0))) 19 sc.first (n7 (sc.torn.take sc.first)):=by
  have:=hRdA.take sc.first tn1
  rwa [a3i]at this
 have hnil2:(a1.map λg=>(g,0))=none->c1=0:=λe=>hnil1 (by cases a1 with | none=>rfl | some g=>cases e);have hd1:∀s∈sc.torn.take sc.first,s.data.length=16:=λs hs=>en3 s (I8 hs);have hd2:∀s∈sc.torn.drop sc.first,s.data.length=16:=λs hs=>en3 s (V1 hs);have hct1:Dv.costT*sc.first<=Dv.costT*200:=y9 _ hf200;have hlt1:(sc.torn.take sc.first).length=sc.first:=by rw[j9];omega
 have hAO1:Q.Ok (Dv.costT*sc.first+(96+(Dv.costT*200+(Dv.costM+k)))) m:=hAO.less (by unfold Dv.costK;omega);have hka:=Dv.torn_keep (k:=96+(Dv.costT*200+(Dv.costM+k))) (c:=sc.first) hAO1 (by omega) hd1;refine J.pn 17 (.of [0,4,8,12,17,20,24,28,33,36,40,44,49,52,57,60,65,68,75,76]) [18,19] [5,8] λ_ _=>?_;refine J.vT (.slice (R9 (a1.map λg=>(g,0))) sc.first c1) rfl rfl (λhg aa w he hC=>a3Q tk rfl rfl rfl he rfl rfl rfl rfl (by omega)) ?_;refine J.q λ_=>?_;refine J.ca hX (by kernel_rfl) (b0B n t q p Q _ m (m9 101 19 a1 sc.torn.length c1 (n7 sc.torn)) (a1.map λg=>(g,0)) sc.first c1 (sc.torn.take sc.first) hRd1 hlt1 (by omega) (by omega) hnil2 hd1 hAO1 hm) [9,1,6,2,3] 0 rfl rfl rfl rfl rfl rfl (λ_=>rfl) ?_;refine cpq ⟨_,rfl,stq,?_⟩;clear hAO hAO1;generalize Q.torn (sc.torn.take sc.first)=W at hmt hka ⊢;obtain⟨P,er⟩:=W;dsimp only at hmt hka ⊢;refine J.qd (λ_ h2=>?_) λ_ h2=>?_
 ·simp only[E6,H5]at h2;rw[d8 h2]at hmt;refine J.qr [1] λ_=>?_;rw[hmt];exact .inr ⟨h2,rfl,rfl⟩
 simp only[z7]at h2;rw[d6 (by rw[h2];decide)]at hmt;have hPO:=hka.1;clear hka hU hUb hfo hA hQ h0 e0;refine J.q λ_=>?_;refine J.l (α:=(Nat×Tl)) (λz=>z.1<=sc.held.length/\(sc.held.take z.1).foldl (λt b=>t.hold b false) P.t=z.2/\z.2.Fit P.N) (λz=>[si 88 z.1,si 87 sc.held.length,sv 86 (slv a2 sc.held.length c2),⟨0,pp n,2, .tt⟩,⟨4,pp (bs 0),6, .tt⟩,⟨6,pp (bf 0),9, .tt⟩]) [6] (λz=>[TlA t z.2]) (λz=>sc.held.length-z.1) ((0,P.t)) (⟨j7 _,rfl,hPO.t⟩) λz hI=>?_;obtain⟨i,U2⟩:=z;dsimp only at hI ⊢;obtain⟨hi2,hfo,hU⟩:=hI;have hUb:=hU.b;have hP0:=hPO.gd.ok.bd16;refine J.qd (λ_ h3=>?_) λ_ h3=>?_
 ·simp only[d5,i5]at h3;obtain⟨x,hx⟩:∃x,sc.held[i]? =some x:=⟨_,c9 h3⟩;have hsu:=a9I P.t sc.held false hx;rw[hfo]at hsu;refine J.know (λh' s=>D1 (c:=(a2,c2)) (by omega) (s.get (i:=4) rfl)) λhg=>?_;obtain⟨g,rfl⟩:=hg;refine J.q λ_=>?_;refine J.v (iI x) rfl rfl (λhg aa w he hw=>I2 tk rfl rfl he rfl rfl rfl (hw.get (i:=4) rfl) (by rw[show 0+(i:Int).toNat*1=i from by omega,A5,i9,hx];rfl)) ?_;refine J.qp (b3v t U2 (by omega) hU.len x false) [6] λ_=>?_;refine J.q λ_=>?_;refine J.n ((i+1,U2.hold x false)) (⟨by dsimp only;omega,hsu,hU.hold x false⟩) (by dsimp only;omega) [0,1,2,3,4,5,6,7,8,9]
 simp only[c8,i5]at h3;obtain rfl:i=sc.held.length:=by omega
 rw[B1 (i7 _)]at hfo;have hA:P.holds sc.held false={P with t:=U2}:=by unfold Dv.holds;rw[hfo]
 have hBO:=hPO.holds sc.held false;obtain⟨B,hB⟩:∃B,B=P.holds sc.held false:=⟨_,rfl⟩;rw[<- hB]at hBO hmt;rw[show B8 n P.N=B8 n B.N from by rw[hB];rfl,show TbA q P.T=TbA q B.T from by rw[hB];rfl,show TlA t U2=TlA t B.t from by rw[hB,hA],show a1W p n t q P=a1W p n t q B from by rw[hB];rfl];clear hPO hU hUb hfo hA hB;have hkb:=Dv.clear_keep hBO;have hcl:B.clear=({B with N:=(Dv.clearX B.N B.t B.T B.op).1,t:=(Dv.clearX B.N B.t B.T B.op).2.1},(Dv.clearX B.N B.t B.T B.op).2.2):=rfl;rw[hcl]at hmt hkb;dsimp only at hmt hkb;refine J.p (.of [0,4,8,12,17,20,24,28,33,36,40,44,49,54,58,60]) [15] [5,8] λ_=>?_;refine J.qp (a2T p n t q B) [9] λ_=>?_;refine J.qp (a4W n t q B.N B.t B.T _ m hBO.gd hm hBO.t B.op) [1,6,2] λ_=>?_;generalize Dv.clearX B.N B.t B.T B.op=W at hmt hkb ⊢;obtain⟨N1,t1,er1⟩:=W;dsimp only at hmt hkb ⊢;obtain⟨D,hD⟩:∃D:Dv,D={B with N:=N1,t:=t1}:=⟨_,rfl⟩;rw[<- hD]at hmt hkb;have hDO:=hkb.1;rw[show B8 n N1=B8 n D.N from by rw[hD],show TbA q B.T=TbA q D.T from by rw[hD],show TlA t t1=TlA t D.t from by rw[hD],show a1W p n t q B=a1W p n t q D from by rw[hD];rfl];clear hBO hkb hD hcl;refine J.qd (λ_ h4=>?_) λ_ h4=>?_
 ·simp only[E6,H5]at h4;rw[d8 h4]at hmt;refine J.qr [1] λ_=>?_;rw[hmt];exact .inr ⟨h4,rfl,rfl⟩
 simp only[z7]at h4;rw[d6 (by rw[h4];decide)]at hmt;have hlt2:(sc.torn.drop sc.first).length=sc.torn.length-sc.first:=C1;have hl200:(sc.torn.drop sc.first).length<=200:=by omega
 have hct2:Dv.costT*(sc.torn.drop sc.first).length<=Dv.costT*200:=y9 _ hl200;have hDO1:D.Ok (Dv.costT*(sc.torn.drop sc.first).length+(Dv.costM+k)) m:=hDO.less (by omega);have hkc:=Dv.torn_keep (k:=Dv.costM+k) (c:=(sc.torn.drop sc.first).length) hDO1 (i7 _) hd2;have hRd2:Rd (m9 101 19 a1 sc.torn.length c1 (n7 sc.torn)) (R9 (a2K (a1.map λg=>(g,0)) 19 sc.first c1)) 19 (sc.torn.drop sc.first).length (n7 (sc.torn.drop sc.first)):=λh s=>b3C (hRdA h s) rfl tn1 hcap1;refine J.pn 17 (.of [0,4,8,12,17,20,24,28,33,36,40,44,49,52,57,60,65,68,75,76]) [18,19] [5,8] λ_ _=>?_;refine J.vT (.slice (R9 (a2K (a1.map λg=>(g,0)) 19 sc.first c1)) (sc.torn.length-sc.first) (c1-sc.first)) rfl rfl (λhg aa w he hC=>a3e tk rfl rfl rfl he rfl rfl rfl rfl rfl tn1) ?_;rw[<- hlt2];refine J.q λ_=>?_;refine J.ca hX (by kernel_rfl) (b0B n t q p D _ m (m9 101 19 a1 sc.torn.length c1 (n7 sc.torn)) (a2K (a1.map λg=>(g,0)) 19 sc.first c1) (sc.torn.drop sc.first).length (c1-sc.first) (sc.torn.drop sc.first) hRd2 rfl (by omega) (by omega) (a4j hnil2) hd2 hDO1 hm) [9,1,6,2,3] 0 rfl rfl rfl rfl rfl rfl (λ_=>rfl) ?_;refine cpq ⟨_,rfl,stq,?_⟩;clear hDO hDO1;generalize D.torn (sc.torn.drop sc.first)=W at hmt hkc ⊢;obtain⟨P2,er2⟩:=W;dsimp only at hmt hkc ⊢;refine J.qd (λ_ h5=>?_) λ_ h5=>?_
 ·simp only[E6,H5]at h5;rw[d8 h5]at hmt;refine J.qr [1] λ_=>?_;rw[hmt];exact .inr ⟨h5,rfl,rfl⟩
 simp only[z7]at h5;rw[d6 (by rw[h5];decide)]at hmt;refine J.p (.of [0,4,8,12,17,20,24,28,33,36,40,44,49,55,56]) [13,14] [5,8] λ_=>?_;refine J.qp (a4V n t q p P2 _ m hkc.1 hm) [9,1,6,2] λ_=>?_;generalize P2.room=W at hmt ⊢;obtain⟨P3,er3⟩:=W;dsimp only at hmt ⊢;refine J.qd (λ_ h6=>?_) λ_ h6=>?_
 ·simp only[E6,H5]at h6;refine J.qr [1] λ_=>?_;rw[hmt];exact .inr ⟨h6,rfl,rfl⟩
 simp only[z7]at h6;refine J.qr [8,9,1,6,2,7] λ_=>?_;rw[hmt];exact .inl ⟨h6,bf 0,p,t,q,d,rfl,rfl⟩
def Fl.turn (f:Fl):Bool:=if f.kind≠5 then decide (f.n=0)&&decide (f.xx=0)else decide (f.n>=0)&&decide (f.n<32)&&decide (f.xx>=1)&&decide (f.xx<=255)
def Fl.may (D B P:Nat) (f:Fl):Bool:=decide (f.at_>=0)&&decide (f.kind>=1)&&decide (f.kind<=5)&&V8 D B P f.x f.y f.z&&f.turn
theorem c0B (x y:Fl):FP 134 [flV x,flV y] [] (Ps (iI (Q9 x.at_ y.at_)) []):=by
 refine FE [0,0] Tryz.func134 λX F hX=>?_;refine J.qp (a1c x.at_ y.at_) [] λ_=>?_;exact J.qx []
theorem c1K (D B P:Nat) (hD:D<=1000) (hB:B<=1000) (hP:P<=1000) (f:Fl):FP 132 [.agg #[iI D,iI B,iI P],flV f] [] (Ps (.bool (f.may D B P)) []):=by
 refine FE [0,0] Tryz.func132 λX F hX=>?_;have fin:∀(T:Bool),T=f.turn->Fl.may D B P f=(decide (f.at_>=0)&&decide (f.kind>=1)&&decide (f.kind<=5)&&V8 D B P f.x f.y f.z&&T):=λT h=>by rw[h];rfl
 refine J.run hX tk 400 (λb4=>rfl) (λb4=>?_) (λb4=>?_)
 ·(repeat' (first | exact Conj.nil | refine Conj.cons ?_ ?_ | exact rfl | exact hq | (exact Bool.noConfusion hq) | (rw[hq];rfl) | (rw[(i4 _).mp hq]) | intro hq | omega | (simp;done)))
 refine J.qd (λ_ h1=>?_) λ_ h1=>?_
 ·have hk:f.kind≠5:=by simpa using h1
  have hT:(decide (f.n=0)&&decide (f.xx=0))=f.turn:=by unfold Fl.turn;rw[d8 hk]
  have fin:=fin _ hT;refine J.run hX tk 400 (λb6=>rfl) (λb6=>?_) (λb6=>?_)
  ·(repeat' (first | exact Conj.nil | refine Conj.cons ?_ ?_ | exact rfl | exact hq | (exact Bool.noConfusion hq) | (rw[hq];rfl) | (rw[(i4 _).mp hq]) | intro hq | omega | (simp;done)))
  cases hb:(decide (f.at_>=0)&&decide (f.kind>=1)&&decide (f.kind<=5))with
  | true=>
   rw[hb,q9]at fin;refine J.qp (b2c D B P f.x f.y f.z (by omega) (by omega) (by omega)) [] λ_=>?_;refine J.run hX tk 400 (λb8=>rfl) (λb8=>?_) (λb8=>?_)
   ·(repeat' (first | exact Conj.nil | refine Conj.cons ?_ ?_ | exact rfl | exact hq | (exact Bool.noConfusion hq) | (rw[hq];rfl) | (rw[(i4 _).mp hq]) | intro hq | omega | (simp;done)))
   refine J.qr [] λ_=>?_;exact⟨by rw[fin];rfl,rfl⟩
  | false=>
   rw[hb,X6,X6]at fin;refine J.v (.bool false) rfl rfl (λhg a w he hw=>by simp[G.on]at hg) ?_;refine J.run hX tk 400 (λb10=>rfl) (λb10=>?_) (λb10=>?_)
   ·(repeat' (first | exact Conj.nil | refine Conj.cons ?_ ?_ | exact rfl | exact hq | (exact Bool.noConfusion hq) | (rw[hq];rfl) | (rw[(i4 _).mp hq]) | intro hq | omega | (simp;done)))
   refine J.qr [] λ_=>?_;exact⟨by rw[fin];rfl,rfl⟩
 ·have hk:¬f.kind≠5:=by simpa using h1
  have hT:(decide (f.n>=0)&&decide (f.n<32)&&decide (f.xx>=1)&&decide (f.xx<=255))=f.turn:=by unfold Fl.turn;rw[d6 hk]
  have fin:=fin _ hT;refine J.run hX tk 400 (λb12=>rfl) (λb12=>?_) (λb12=>?_)
  ·(repeat' (first | exact Conj.nil | refine Conj.cons ?_ ?_ | exact rfl | exact hq | (exact Bool.noConfusion hq) | (rw[hq];rfl) | (rw[(i4 _).mp hq]) | intro hq | omega | (simp;done)))
  cases hb:(decide (f.at_>=0)&&decide (f.kind>=1)&&decide (f.kind<=5))with
  | true=>
   rw[hb,q9]at fin;refine J.qp (b2c D B P f.x f.y f.z (by omega) (by omega) (by omega)) [] λ_=>?_;refine J.run hX tk 400 (λb14=>rfl) (λb14=>?_) (λb14=>?_)
   ·(repeat' (first | exact Conj.nil | refine Conj.cons ?_ ?_ | exact rfl | exact hq | (exact Bool.noConfusion hq) | (rw[hq];rfl) | (rw[(i4 _).mp hq]) | intro hq | omega | (simp;done)))
   refine J.qr [] λ_=>?_;exact⟨by rw[fin];rfl,rfl⟩
  | false=>
   rw[hb,X6,X6]at fin;refine J.v (.bool false) rfl rfl (λhg a w he hw=>by simp[G.on]at hg) ?_;refine J.run hX tk 400 (λb16=>rfl) (λb16=>?_) (λb16=>?_)
   ·(repeat' (first | exact Conj.nil | refine Conj.cons ?_ ?_ | exact rfl | exact hq | (exact Bool.noConfusion hq) | (rw[hq];rfl) | (rw[(i4 _).mp hq]) | intro hq | omega | (simp;done)))
   refine J.qr [] λ_=>?_;exact⟨by rw[fin];rfl,rfl⟩
theorem b7I (c:Nat) (a:Option Nat) (cap:Nat):FP 231 [slv a 0 cap,iI 0,iI 0,fnV c] [] (Ps (.tuple #[]) []):=by
 refine FE [0,0,0,0] Tryz.func231 λX F hX=>?_;refine J.q λ_=>?_;refine J.l (α:=Unit) (λ_u=>True) (λ_u=>[si 8 1,si 2 0]) [] (λ_u=>[]) (λ_u=>0) (()) (trivial) λ_u hI=>?_;refine J.qF λ_=>?_;refine J.q λ_=>?_;refine J.f [] ?_;exact⟨rfl,rfl⟩
def a3f (x y:Fl):Int:=Q9 x.at_ y.at_
theorem b5Y (g n cap:Nat) (l:List Fl) (hl:l.length=n) (hn:n<=15) (r:List Value):FP 193 [.slice (some ⟨g,0,none⟩) n cap,iI n,fnV 134] [.pt g 41 (A8 l++r)] (Ps (.tuple #[]) [.pt g 41 (A8 (V3 a3f l)++r)]):=by
 refine FE [2,0,0] Tryz.func193 λX F hX=>?_;refine J.q λ_=>?_;refine J.l (α:=Unit) (λ_u=>True) (λ_u=>[si 8 20,si 7 0,si 6 20,⟨0, .slice (some ⟨g,0,none⟩) n cap,2, .tt⟩,si 1 n,⟨2,fnV 134,0, .tt⟩]) [] (λ_u=>[]) (λ_u=>0) (()) (trivial) λ_u hI=>?_;refine J.qd (λ_ h1=>?_) λ_ h1=>?_
 ·simp only[d5]at h1;omega
 refine J.qp (b9K 134 a3f (by kernel_rfl) c0B g n cap l hl (by omega) r) [1] λ_=>?_;refine J.q λ_=>?_;refine J.l (α:=Unit) (λ_u=>True) (λ_u=>[si 6 20,⟨0, .slice (some ⟨g,0,none⟩) n cap,2, .tt⟩,si 1 n,⟨2,fnV 134,0, .tt⟩]) [] (λ_u=>[]) (λ_u=>0) (()) (trivial) λ_u hI=>?_;refine J.qd (λ_ h2=>?_) λ_ h2=>?_
 ·simp only[d5]at h2;omega
 refine J.q λ_=>?_;refine J.f [1] ?_;exact⟨rfl,rfl⟩
theorem b4s (a:Option Nat) (cap:Nat):FP 193 [slv a 0 cap,iI 0,fnV 134] [] (Ps (.tuple #[]) []):=by
 refine FE [0,0,0] Tryz.func193 λX F hX=>?_;refine J.q λ_=>?_;refine J.l (α:=Unit) (λ_u=>True) (λ_u=>[si 8 20,si 7 0,si 6 20,sv 0 (slv a 0 cap),si 1 0,⟨2,fnV 134,0, .tt⟩]) [] (λ_u=>[]) (λ_u=>0) (()) (trivial) λ_u hI=>?_;refine J.qF λ_=>?_;refine J.qp (b7I 134 a cap) [] λ_=>?_;refine J.q λ_=>?_;refine J.l (α:=Unit) (λ_u=>True) (λ_u=>[si 6 20,si 1 0]) [] (λ_u=>[]) (λ_u=>0) (()) (trivial) λ_u hI=>?_;refine J.qF λ_=>?_;refine J.q λ_=>?_;refine J.f [] ?_;exact⟨rfl,rfl⟩
theorem c0A (a:Option Nat) (n cap:Nat) (l:List Fl) (hl:l.length=n) (hn:n<=15):FP 133 [slv a n cap,fnV 134] [m9 41 7 a n cap (A8 l)] (Ps (.tuple #[]) [m9 41 7 a n cap (A8 (V3 a3f l))]):=by
 refine FE [0,0] Tryz.func133 λX F hX=>?_;refine J.q λ_=>?_;rcases P5 n with h0 | h0
 ·subst h0;obtain rfl:l=[]:=List.length_eq_zero_iff.1 hl;refine J.qp (b4s a cap) [] λ_=>?_;refine J.q λ_=>?_;refine J.f [1] ?_;exact⟨rfl,rfl⟩
 refine J.know (λh' s=>D1 (c:=(a,cap)) (by omega) (s.get (i:=1) rfl)) λhg=>?_;obtain⟨g,rfl⟩:=hg;refine J.openOwn 1 rfl rfl (λ_=>rfl) λr q1 q2 q3 q4=>?_;refine J.qp (b5Y g n cap l hl hn r) [1] λ_=>?_;have hlen:(V3 a3f l).length=n:=by rw[(a6y a3f l).length_eq,hl]
 refine J.closeOwn (e:=41) (size:=7) (n:=n) (cap:=cap) (xs:=A8 (V3 a3f l)) 1 rfl rfl (by rw[W4,hlen]) q2 q3 (by rw[f8,W4,hlen];rw[W4,hl]at q4;exact q4) (D6 (by rw[W4,hlen])) rfl ?_;refine J.q λ_=>?_;refine J.f [1] ?_;exact⟨rfl,rfl⟩
def plF (D B P:Nat) (l:List Fl):List Fl:=l.filter (Fl.may D B P)
theorem b6H (D B P:Nat) (l:List Fl) (k:Nat) (x:Fl) (h:l[k]? =some x):plF D B P (l.take (k+1))=if x.may D B P then plF D B P (l.take k)++[x]else plF D B P (l.take k):=by
 unfold plF;rw[D3,h,K7,R7]
 by_cases hx:x.may D B P
 ·rw[d8 hx,a2v hx];rfl
 ·rw[d6 hx,S9 hx,List.filter_nil,m6]
theorem b6I (D B P:Nat) (l:List Fl):(plF D B P l).length<=l.length:=H8 _ _
theorem b0U (l:List Fl) (x:Fl):A8 l++flC x=A8 (l++[x]):=by unfold A8;rw[K1];simp
theorem c0f (D B P:Nat) (hD:D<=1000) (hB:B<=1000) (hP:P<=1000) (A:Atom) (ad:Option Addr) (n c:Nat) (l:List Fl) (hA:Rd A ad 7 n (A8 l)) (hl:l.length=n) (hn:n<=15):FP 85 [.agg #[iI D,iI B,iI P], .slice ad n c] [A]
  (λv As=>∃p a c,v=pp p/\As=[A, .pt p 218 [slv a (plF D B P l).length c],m9 41 7 a (plF D B P l).length c (A8 (V3 a3f (plF D B P l)))]):=by
 refine FE [0,0] Tryz.func85 λX F hX=>?_;refine J.q λbp=>?_;refine J.turn1 [] rfl (As:=[m9 41 7 none 0 0 (A8 [])]) (λh s=>Sep.one ⟨rfl,rfl,rfl⟩) rfl ?_;refine J.q λ_=>?_;refine J.l (α:=(Nat×Option Nat×Nat)) (λz=>z.1<=n) (λz=>[si 12 z.1,si 11 n,sv 10 (.slice ad n c),⟨5,pp (bp (0+1)),4, .tt⟩,⟨2,pp (bp 0),3, .tt⟩]) [3,4] (λz=>[.pt (bp (0+1)) 218 [slv z.2.1 (plF D B P (l.take z.1)).length z.2.2],m9 41 7 z.2.1 (plF D B P (l.take z.1)).length z.2.2 (A8 (plF D B P (l.take z.1)))]) (λz=>n-z.1) ((0,none,0)) (j7 _) λz hI=>?_;obtain⟨k,ga,ca⟩:=z;dsimp only at hI ⊢;refine J.qd (λ_ h1=>?_) λ_ h1=>?_
 ·simp only[d5,i5]at h1;obtain⟨x,hx⟩:∃x,l[k]? =some x:=⟨_,c9 (by omega)⟩;have hsn:=b6H D B P l k x hx;have hle:=b6I D B P (l.take k);rw[j9]at hle;refine J.know (p:=∃g o,ad=some ⟨g,o,none⟩) (λh' s=>Rd.addr (hA _ (s.get (i:=1) rfl)) (by omega)) λhk2=>?_;obtain⟨g,o,rfl⟩:=hk2;refine J.q λ_=>?_;refine J.v (flV x) rfl rfl (λhg a w he hw=>?_) ?_
  ·exact a3Z tk rfl rfl he rfl rfl rfl (hA _ (hw.get (i:=1) rfl)) (by omega) (j:=k*7) (by omega) (by have:=Z0 l [] k _ hx;rwa [m6]at this) rfl
  refine J.qp (c1K D B P hD hB hP x) [] λ_=>?_;refine J.qd (λ_ h2=>?_) λ_ h2=>?_
  ·rw[d8 h2]at hsn;refine J.pq (.of [0,4,8,12,17,21,26,30,32,36,43]) [8,9,10] [3,5] λ_ _=>?_;refine J.ap 4 6 0 (b0U (plF D B P (l.take k)) x) λa3 c3=>?_;refine J.q λ_=>?_;rw[show(plF D B P (l.take k)).length+1=(plF D B P (l.take (k+1))).length from by rw[hsn,f8];rfl,<- hsn];refine J.q λ_=>?_;refine J.n ((k+1,a3,c3)) (by dsimp only;omega) (by dsimp only;omega) [0,1,2,3,4]
  ·rw[d6 (by rw[h2];decide)]at hsn;refine J.q λ_=>?_;rw[<- hsn];refine J.q λ_=>?_;refine J.n ((k+1,ga,ca)) (by dsimp only;omega) (by dsimp only;omega) [0,1,2,3,4]
 simp only[c8,i5]at h1;obtain rfl:k=n:=by omega
 rw[B1 (by omega)];have hle:=b6I D B P l;refine J.q λ_=>?_;refine J.ca hX (by kernel_rfl) (c0A ga _ ca (plF D B P l) rfl (by omega)) [4] 0 rfl rfl rfl rfl rfl rfl (λ_=>rfl) ?_;refine cpq ⟨_,rfl,trivial,?_⟩;refine J.qr [1,3,4] λ_=>?_;exact⟨bp (0+1),ga,ca,rfl,rfl⟩
theorem a5v (L:List Fl):∀k,(A8 L).drop (k*7)=A8 (L.drop k):=by
 induction L with
 | nil=>intro k;simp[A8]
 | cons x l ih=>
  intro k;cases k with
  | zero=>simp
  | succ k=>
   have e1:A8 (x::l)=flC x++A8 l:=by simp[A8]
   rw[e1,a1F,<- ih k,show(k+1)*7=(flC x).length+k*7 from by show _=7+k*7;omega,<- C0,T7 rfl]
theorem b0T (L:List Fl):∀k,(A8 L).take (k*7)=A8 (L.take k):=by
 induction L with
 | nil=>intro k;simp[A8]
 | cons x l ih=>
  intro k;cases k with
  | zero=>simp[A8]
  | succ k=>
   have e1:∀m,A8 (x::m)=flC x++A8 m:=λm=>by simp[A8]
   rw[e1,a4I,e1,<- ih k,show(k+1)*7=(flC x).length+k*7 from by show _=7+k*7;omega,T3]
theorem b2m (L:List Fl):∀u∈A8 L,u.oneCell'=true:=by
 intro u hu;unfold A8 at hu;obtain⟨x,_,hx⟩:=List.mem_flatMap.1 hu;simp only[flC,H7,U5,a5A]at hx;rcases hx with rfl | rfl | rfl | rfl | rfl | rfl | rfl<;>rfl
theorem b3u {α:Type} (p:α->Bool):∀(L:List α) (k:Nat) (x:α),k<=(L.takeWhile p).length->L[k]? =some x->(p x=true->k+1<=(L.takeWhile p).length)/\(p x=false->k=(L.takeWhile p).length)
 | [],k,x,_,h=>by simp at h
 | y::L,0,x,_,h=>by
  simp only[M2,l6]at h;subst h;rw[List.takeWhile_cons];constructor
  ·intro e;rw[d8 e,l5];omega
  ·intro e;rw[d6 (by rw[e];decide)];rfl
 | y::L,k+1,x,hk,h=>by
  rw[List.takeWhile_cons]at hk ⊢
  by_cases e:p y=true
  ·rw[d8 e]at hk ⊢;rw[l5]at hk ⊢;have:=b3u p L k x (by omega) (by simpa using h);constructor
   ·intro h1;have:=this.1 h1;omega
   ·intro h1;have:=this.2 h1;omega
  ·rw[d6 e]at hk;simp at hk
theorem c0g {α:Type} (p:α->Bool) (L:List α):(L.takeWhile p).length<=L.length:=by
 have:=congrArg List.length (List.takeWhile_append_dropWhile (p:=p) (l:=L));rw[f8]at this;omega
theorem b8K {α:Type} (p:α->Bool) (L:List α):L.take (L.takeWhile p).length=L.takeWhile p/\L.drop (L.takeWhile p).length=L.dropWhile p:=by
 have h:=List.takeWhile_append_dropWhile (p:=p) (l:=L);constructor
 ·conv=>lhs;arg 2;rw[<- h]
  exact D6 rfl
 ·conv=>lhs;arg 2;rw[<- h]
  exact T7 rfl
def b0c (p:Nat) (a:Option (Nat×Nat)) (c:Nat) (L:List Fl):List Atom:=[.pt p 218 [.slice (R9 a) L.length c],rdA (R9 a) 7 L.length (A8 L)]
theorem a8Y (a:Option (Nat×Nat)) (n c k:Nat) (L:List Fl) (hl:L.length=n) (hz:a=none->c=0) (hk:k<=n) (hc:n<=c) (hn:n<=1000000):FP 195 [.slice (R9 a) k c] [rdA (R9 a) 7 n (A8 L)]
  (λv As=>∃a' c',v=slv a' k c'/\As=[rdA (R9 a) 7 n (A8 L),m9 41 7 a' k c' (A8 (L.take k))]):=by
 refine FE [0] Tryz.func195 λX F hX=>?_;cases a with
 | none=>
  have:=hz rfl;obtain rfl:k=0:=by omega
  refine J.qT λ_=>?_;refine J.turn1 [] rfl (As:=[m9 41 7 none 0 0 (A8 [])]) (λh s=>Sep.one ⟨rfl,rfl,rfl⟩) rfl ?_;refine J.qr [1,2] λ_=>?_;exact⟨none,0,rfl,rfl⟩
 | some g=>
  refine J.qF λ_=>?_;refine J.qn 5 λbb=>?_;refine J.closeOwn (e:=41) (size:=7) (n:=0) (cap:=0) (xs:=[]) 2 rfl rfl rfl (i7 _) (j7 _) rfl rfl rfl ?_;refine J.q λ_=>?_;have hRd:Rd (rdA (R9 (some g)) 7 n (A8 L)) (R9 (some g)) 7 k (A8 (L.take k)):=by
   have:=(b0t (R9 (some g)) 7 n (A8 L)).take k hk
   rwa [b0T]at this
  refine J.appendRO hX tk (a:=some (bb 0)) (n:=0) (cap:=0) (xs:=[]) (Ay:=rdA (R9 (some g)) 7 n (A8 L)) 2 1 (λe=>by cases e) rfl rfl rfl rfl rfl rfl rfl rfl rfl hRd rfl rfl rfl rfl (b2m _) ?_ ?_ (λ_=>rfl) λa' c'=>⟨_,rfl,trivial,?_⟩
  ·simp only[maxLen];omega
  ·omega
  rw[J6 k,R4];refine J.qr [1,2] λ_=>?_;exact⟨a',c',rfl,rfl⟩
def b9U (ops:Int) (f:Fl):Bool:=decide (f.at_<=ops)
def U7 (ops:Int) (L:List Fl):List Fl:=L.takeWhile (b9U ops)
def a3I (ops:Int) (L:List Fl):List Fl:=L.dropWhile (b9U ops)
theorem c1L (p:Nat) (a:Option (Nat×Nat)) (c:Nat) (L:List Fl) (hz:a=none->c=0) (hc:L.length<=c) (hn:L.length<=1000) (ops:Int):FP 136 [pp p,iI ops] (b0c p a c L)
  (λv As=>∃a' c' a2 c2,(a'=none->c'=0)/\(a3I ops L).length<=c'/\v=slv a2 (U7 ops L).length c2/\As=b0c p a' c' (a3I ops L)++[m9 41 7 a2 (U7 ops L).length c2 (A8 (U7 ops L))]):=by
 refine FE [2,0] Tryz.func136 λX F hX=>?_;refine J.qF λ_=>?_;refine J.q λ_=>?_;refine J.l (α:=Nat) (λk=>k<=(U7 ops L).length) (λk=>[si 5 k,⟨0,pp p,2, .tt⟩,si 1 ops]) [] (λk=>[]) (λk=>L.length-k) (0) (j7 _) λk hI=>?_;have hle:(U7 ops L).length<=L.length:=c0g _ _;obtain⟨htk,hdr⟩:=b8K (b9U ops) L;have htk:L.take (U7 ops L).length=U7 ops L:=htk;have hdr:L.drop (U7 ops L).length=a3I ops L:=hdr;refine J.qn 10 λ_=>?_;rcases O7 k L.length with h1 | h1
 ·obtain⟨x,hx⟩:∃x,L[k]? =some x:=⟨_,c9 h1⟩;have htw:=b3u (b9U ops) L k x hI hx;refine J.know (λh' s=>b4L (show rdP (R9 a) 7 L.length (A8 L) h' from s.get (i:=2) rfl) (by omega)) λhg=>?_;obtain⟨⟨g,o⟩,rfl⟩:=hg;rw[show decide ((k:Int)<(L.length:Int))=true from i6 (by omega)];refine J.q λ_=>?_;refine J.v (iI x.at_) rfl rfl (λhg aa w he hw=>a4X tk rfl rfl he rfl rfl rfl (b0t _ _ _ _ _ (hw.get (i:=2) rfl)) (by omega) (j:=k*7+0) (by omega) (a2I flC 7 (λ_=>rfl) hx 0 (by omega))) ?_;refine J.qd (λ_ h2=>?_) λ_ h2=>?_
  ·simp only[q9]at h2;have hk:=htw.1 h2;refine J.q λ_=>?_;refine J.n (k+1) (hk) (by omega) [0,1,2]
  ·simp only[q9]at h2;have hk:k=(U7 ops L).length:=htw.2 h2;subst hk;refine J.qn 8 λ_=>?_;refine J.v (.slice (R9 (some (g,o))) (U7 ops L).length c) rfl rfl (λhg aa w he hw=>a3Q tk rfl rfl rfl he rfl rfl rfl rfl (by omega)) ?_;refine J.qc (a8Y (some (g,o)) L.length c (U7 ops L).length L rfl hz hle hc (by omega)) [2] λ_=>?_;rintro v As ⟨a2,c2,rfl,rfl⟩;refine⟨_,rfl,trivial,?_⟩;refine J.qn 10 λ_=>?_;refine J.v (.slice (R9 (a2K (some (g,o)) 7 (U7 ops L).length c)) (L.length-(U7 ops L).length) (c-(U7 ops L).length)) rfl rfl (λhg aa w he hw=>a3e tk rfl rfl rfl he rfl rfl rfl rfl rfl hle) ?_;refine J.q λ_=>?_;refine J.turn1 [2] rfl (As:=[rdA (R9 (a2K (some (g,o)) 7 (U7 ops L).length c)) 7 (L.length-(U7 ops L).length) ((A8 L).drop ((U7 ops L).length*7))]) (λh s=>Sep.one (b0s (show rdP (R9 (some (g,o))) 7 L.length (A8 L) h from s.get (i:=0) rfl) hle hc)) rfl ?_;refine J.qr [1,2,3] λ_=>?_;refine⟨a2K (some (g,o)) 7 (U7 ops L).length c,c-(U7 ops L).length,a2,c2,a4j hz,by rw[<- hdr,C1];omega,rfl,?_⟩;unfold b0c;rw[<- hdr,C1,a5v,htk];rfl
 ·have hk:k=(U7 ops L).length:=by omega
  rw[show decide ((k:Int)<(L.length:Int))=false from n8 (by omega)];refine J.qn 6 λ_=>?_;refine J.v (pp 0) rfl rfl (λhg a w he hw=>by simp[G.on]at hg) ?_;refine J.qn 1 λ_=>?_;refine J.v (iI 0) rfl rfl (λhg a w he hw=>by simp[G.on]at hg) ?_;refine J.qF λ_=>?_;subst hk;refine J.qn 8 λ_=>?_;refine J.v (.slice (R9 (a)) (U7 ops L).length c) rfl rfl (λhg aa w he hw=>a3Q tk rfl rfl rfl he rfl rfl rfl rfl (by omega)) ?_;refine J.qc (a8Y (a) L.length c (U7 ops L).length L rfl hz hle hc (by omega)) [2] λ_=>?_;rintro v As ⟨a2,c2,rfl,rfl⟩;refine⟨_,rfl,trivial,?_⟩;refine J.qn 10 λ_=>?_;refine J.v (.slice (R9 (a2K (a) 7 (U7 ops L).length c)) (L.length-(U7 ops L).length) (c-(U7 ops L).length)) rfl rfl (λhg aa w he hw=>a3e tk rfl rfl rfl he rfl rfl rfl rfl rfl hle) ?_;refine J.q λ_=>?_;refine J.turn1 [2] rfl (As:=[rdA (R9 (a2K (a) 7 (U7 ops L).length c)) 7 (L.length-(U7 ops L).length) ((A8 L).drop ((U7 ops L).length*7))]) (λh s=>Sep.one (b0s (show rdP (R9 (a)) 7 L.length (A8 L) h from s.get (i:=0) rfl) hle hc)) rfl ?_;refine J.qr [1,2,3] λ_=>?_;refine⟨a2K (a) 7 (U7 ops L).length c,c-(U7 ops L).length,a2,c2,a4j hz,by rw[<- hdr,C1];omega,rfl,?_⟩;unfold b0c;rw[<- hdr,C1,a5v,htk];rfl
def flN (N:Nand) (f:Fl):Nand:=(N.fault f.kind f.x f.y f.z f.n f.xx).2
def a1C (N:Nand) (l:List Fl):Nand:=l.foldl flN N
theorem b5q (N:Nand) (l:List Fl) {k:Nat} {x:Fl} (h:l[k]? =some x):a1C N (l.take (k+1))=flN (a1C N (l.take k)) x:=by
 unfold a1C;rw[D3,h,K7,B3];rfl
theorem a7f {N:Nand} {k m:Nat} (h:N.Gd k m):∀(l:List Fl),(a1C N l).Gd k (m+l.length)
 | []=>h
 | f::l=>by
  have:=a7f (h.fault f.kind f.x f.y f.z f.n f.xx) l;rw[l5,show m+(l.length+1)=m+1+l.length from by omega];exact this
theorem c1J (p n:Nat) (a:Option (Nat×Nat)) (c:Nat) (L:List Fl) (hz:a=none->c=0) (hc:L.length<=c) (hn:L.length<=1000) (N:Nand) (k m:Nat) (hG:N.Gd k m):FP 86 [pp p,pp n] (b0c p a c L++[B8 n N])
  (λv As=>∃a' c',(a'=none->c'=0)/\(a3I N.ops L).length<=c'/\v=iI (U7 N.ops L).length/\As=b0c p a' c' (a3I N.ops L)++[B8 n (a1C N (U7 N.ops L))]):=by
 refine FE [2,4] Tryz.func86 λX F hX=>?_;refine J.qp (b6Y n N) [3] λ_=>?_;refine J.qc (c1L p a c L hz hc hn N.ops) [1,2] λ_=>?_;rintro v As ⟨a',c',a2,c2,hz',hc',rfl,rfl⟩;refine⟨_,rfl,trivial,?_⟩;have hle:(U7 N.ops L).length<=L.length:=c0g _ _;obtain⟨R,hR⟩:∃R,a3I N.ops L=R:=⟨_,rfl⟩;obtain⟨D,hD⟩:∃D,U7 N.ops L=D:=⟨_,rfl⟩;rw[hR]at hc' ⊢;rw[hD]at hle ⊢;refine J.q λ_=>?_;refine J.l (α:=Nat) (λj=>j<=D.length) (λj=>[si 14 j,si 13 D.length,sv 12 (slv a2 D.length c2),sv 5 (slv a2 D.length c2),⟨1,pp n,4, .tt⟩]) [3] (λj=>[B8 n (a1C N (D.take j))]) (λj=>D.length-j) (0) (j7 _) λj hI=>?_;refine J.qd (λ_ h1=>?_) λ_ h1=>?_
 ·simp only[d5,i5]at h1;obtain⟨x,hx⟩:∃x,D[j]? =some x:=⟨_,c9 (by omega)⟩;have hsn:=b5q N D hx;have hOk:=(a7f hG (D.take j)).ok;refine J.know (λh' s=>D1 (c:=(a2,c2)) (by omega) (s.get (i:=4) rfl)) λhg=>?_;obtain⟨g,rfl⟩:=hg;refine J.q λ_=>?_;refine J.v (flV x) rfl rfl (λhg aa w he hw=>J8 tk rfl rfl he rfl rfl rfl (hw.get (i:=4) rfl) (by rw[show 0+(j:Int).toNat*7=j*7 from by omega];exact a1n flC 7 (λ_=>rfl) D j x hx) rfl) ?_;refine J.qp (a4c n (a1C N (D.take j)) hOk x.at_ x.kind x.x x.y x.z x.n x.xx) [3] λ_=>?_;rw[show((a1C N (D.take j)).fault x.kind x.x x.y x.z x.n x.xx).2=a1C N (D.take (j+1))from hsn.symm];refine J.q λ_=>?_;refine J.n (j+1) (by omega) (by omega) [0,1,2,3,4]
 simp only[c8,i5]at h1;obtain rfl:j=D.length:=by omega
 rw[B1 (i7 _)];refine J.qr [1,2,3] λ_=>?_;rw[hR,hD];exact⟨a',c',hz',hc',rfl,rfl⟩
structure MPv where
 now:List UInt8
 op:Bool
 may:List (List UInt8)
 ever:List (List UInt8)
namespace Mv
def z16:List UInt8:=[0,0,0,0,0,0,0,0,0,0,0,0,0,0,0,0]
def page0:MPv:=⟨z16,false,[z16],[z16]⟩
def new (n:Int):List MPv:=List.replicate (min (max n 0) 65536).toNat page0
def inR (M:List MPv) (i:Int):Bool:=decide (0<=i)&&decide (i<M.length)
def pg (M:List MPv) (i:Int):MPv:=M.getD i.toNat page0
def wr (v:MPv) (d:List UInt8):MPv:=⟨d,false,v.may++[d],v.ever++[d]⟩
def write (M:List MPv) (i:Int) (d:List UInt8):List MPv:=if inR M i then M.set i.toNat (wr (pg M i) d)else M
def cut (M:List MPv):List MPv:=M.map λv=>{v with op:=true}
def may (M:List MPv) (i:Int) (d:List UInt8):Bool:=inR M i&&(if(pg M i).op then(pg M i).may.contains d else(pg M i).now==d)
end Mv
end
section
structure Td where
 err:Int
 data:List UInt8
structure Stp where
 fn:Int
 lpn:Int
 data:List UInt8
 n:Int
 keep:Int
 f:Fl
def zd:List UInt8:=Mv.z16
structure Pv where
 L:List Fl
 log:List Td
 Z:Option Fv
 M:Nand
def Fv.setN (Z:Fv) (N:Nand):Fv:={Z with S:={Z.S with N:=N}}
namespace Pv
def nd (P:Pv):Nand:=match P.Z with | some Z=>Z.S.N | none=>P.M
def setN (P:Pv) (N:Nand):Pv:=match P.Z with | some Z=>{P with Z:=some (Z.setN N)} | none=>{P with M:=N}
def run (P:Pv):Pv:={P.setN (a1C P.nd (U7 P.nd.ops P.L))with L:=a3I P.nd.ops P.L}
def mounts (P:Pv):Pv×Int:=
 let N1:=if P.nd.off then P.nd else P.nd.setCut (-1) 0
 let r:=G9 N1.onN
 if r.2=0 then({P with Z:=some (Fv.of r.1)},0)else({P with Z:=none,M:=r.1.N},r.2)
def does (P:Pv) (s:Stp):Pv×Td:=
 if s.fn=1 then(match P.Z with | some Z=>({P with Z:=some (Z.read s.lpn).1},⟨(Z.read s.lpn).2.2,(Z.read s.lpn).2.1⟩) | none=>(P,⟨12,zd⟩))
 else if s.fn=2 then(match P.Z with | some Z=>({P with Z:=some (Z.write s.lpn s.data).1},⟨(Z.write s.lpn s.data).2,zd⟩) | none=>(P,⟨12,zd⟩))
 else if s.fn=3 then(match P.Z with | some Z=>({P with Z:=some (Z.trim s.lpn).1},⟨(Z.trim s.lpn).2,zd⟩) | none=>(P,⟨12,zd⟩))
 else if s.fn=4 then(match P.Z with | some Z=>({P with Z:=some Z.flush.1},⟨Z.flush.2,zd⟩) | none=>(P,⟨12,zd⟩))
 else if s.fn=5 then(match P.Z with | some Z=>({P with Z:=some Z.tick.1},⟨Z.tick.2,zd⟩) | none=>(P,⟨12,zd⟩))
 else if s.fn=6 then(P.setN (P.nd.setCut s.n s.keep),⟨0,zd⟩)
 else if s.fn=7 then(P.mounts.1,⟨P.mounts.2,zd⟩)
 else if s.fn=8 then(P.setN (P.nd.fault s.f.kind s.f.x s.f.y s.f.z s.f.n s.f.xx).2,if(P.nd.fault s.f.kind s.f.x s.f.y s.f.z s.f.n s.f.xx).1 then⟨0,zd⟩else⟨1,zd⟩)
 else(P,⟨1,zd⟩)
def step (P:Pv) (s:Stp):Pv×Td:=({(P.run.does s).1 with log:=(P.run.does s).1.log++[(P.run.does s).2]},(P.run.does s).2)
def new (D B Pg:Nat) (l:List Fl):Pv:=⟨V3 a3f (plF D B Pg l),[],if(G9 (Nand.new D B Pg)).2=0 then some (Fv.of (G9 (Nand.new D B Pg)).1)else none,(G9 (Nand.new D B Pg)).1.N⟩
end Pv
end
section
open Go Go.RowKit
structure MSl where
 v:MPv
 a1:Option Nat
 c1:Nat
 a2:Option Nat
 c2:Nat
def Q2 (l:List (List UInt8)):List Value:=l.flatMap I3
def MSl.cells (z:MSl):List Value:=[byC z.v.now 0,byC z.v.now 1,byC z.v.now 2,byC z.v.now 3,byC z.v.now 4,byC z.v.now 5,byC z.v.now 6,byC z.v.now 7,byC z.v.now 8,byC z.v.now 9,byC z.v.now 10,byC z.v.now 11,byC z.v.now 12,byC z.v.now 13,byC z.v.now 14,byC z.v.now 15, .bool z.v.op,slv z.a1 z.v.may.length z.c1,slv z.a2 z.v.ever.length z.c2]
theorem MSl.cells_len (z:MSl):z.cells.length=19:=rfl
def MSl.m1 (z:MSl):Atom:=m9 36 16 z.a1 z.v.may.length z.c1 (Q2 z.v.may)
def MSl.m2 (z:MSl):Atom:=m9 36 16 z.a2 z.v.ever.length z.c2 (Q2 z.v.ever)
def b1b (q g:Nat) (Z:List MSl):List Atom:=[.pt q 151 [.slice (some ⟨g,0,none⟩) Z.length Z.length], .pt g 153 (Z.flatMap MSl.cells), .hp (HP.of (Z.map MSl.m1)), .hp (HP.of (Z.map MSl.m2))]
def Mv.adr (n g:Nat) (i:Int):Option Addr:=if 0<=i/\i<n then some ⟨g,i.toNat*19,none⟩else none
theorem c0p (q g n:Nat) (hn:n<=65536) (i:Int):FP 84 [pp q,iI i] [.pt q 151 [.slice (some ⟨g,0,none⟩) n n]] (Ps (.pointer (Mv.adr n g i)) [.pt q 151 [.slice (some ⟨g,0,none⟩) n n]]):=by
 refine FE [2,0] Tryz.func84 λX F hX=>?_;refine J.qd (λ_ h1=>?_) λ_ h1=>?_
 ·simp only[D2,j6,d5,a0S]at h1;have ha:Mv.adr n g i=none:=by unfold Mv.adr;rw[d6 (by omega)]
  refine J.qr [1] λ_=>?_;rw[ha];exact⟨rfl,rfl⟩
 ·simp only[D2,E5,c8,a0S]at h1;have ha:Mv.adr n g i=some ⟨g,i.toNat*19,none⟩:=by unfold Mv.adr;rw[d8 (by omega)]
  refine J.qr [1] λ_=>?_;rw[ha];exact⟨by simp,rfl⟩
def MSl.none0:MSl:=⟨⟨Mv.z16,false,[],[]⟩,none,0,none,0⟩
theorem MSl.cells_zero (m:Nat):(List.replicate m [Value.int .u8 0, .int .u8 0, .int .u8 0, .int .u8 0, .int .u8 0, .int .u8 0, .int .u8 0, .int .u8 0, .int .u8 0, .int .u8 0, .int .u8 0, .int .u8 0, .int .u8 0, .int .u8 0, .int .u8 0, .int .u8 0, .bool false, .slice none 0 0, .slice none 0 0]).flatten=(List.replicate m MSl.none0).flatMap MSl.cells:=by
 induction m with
 | zero=>rfl
 | succ m ih=>rw[a0n,a0n,List.flatten_cons,u0,ih];rfl
theorem MSl.flat_len (Z:List MSl):(Z.flatMap MSl.cells).length=19*Z.length:=by
 induction Z with
 | nil=>rfl
 | cons z Z ih=>rw[u0,f8,ih,MSl.cells_len,l5];omega
theorem MSl.hps (m:Nat) (h:Hl):Sep [.hp (HP.of ((List.replicate m MSl.none0).map MSl.m1)), .hp (HP.of ((List.replicate m MSl.none0).map MSl.m2))] h:=by
 refine Sep.ofAll λA hA h=>?_;have hx:∀f:MSl->Atom,(∀h,(f MSl.none0).sat h)->(Atom.hp (HP.of ((List.replicate m MSl.none0).map f))).sat h:=λf hf=>by
  exact(Sep.hpOf.2 (Sep.ofAll λA hA h=>by
   rw[a2o,List.mem_replicate]at hA;rw[hA.2];exact hf h)).get (i:=0) rfl
 simp only[H7,U5,a5A]at hA;rcases hA with rfl | rfl
 ·exact hx MSl.m1 λh=>⟨rfl,rfl,rfl⟩
 ·exact hx MSl.m2 λh=>⟨rfl,rfl,rfl⟩
theorem c0W (n:Int):FP 37 [iI n] [] (λv As=>∃q g Z,v=pp q/\As=b1b q g Z/\Z.map (·.v)=Mv.new n):=by
 refine FE [0] Tryz.func37 λX F hX=>?_;refine J.qn 9 λ_=>?_;rw[b6h];obtain⟨m,hm⟩:∃m:Nat,min (max n 0) 65536=(m:Int):=⟨(min (max n 0) 65536).toNat,by omega⟩;have hm1:m<=65536:=by omega
 rw[hm];refine J.mk 2 λg=>?_;have hz:(List.replicate m _).flatten=(List.replicate m MSl.none0).flatMap MSl.cells:=MSl.cells_zero m;rw[hz];refine J.q λbq=>?_;refine J.turn1 [] rfl (As:=[.hp (HP.of ((List.replicate m MSl.none0).map MSl.m1)), .hp (HP.of ((List.replicate m MSl.none0).map MSl.m2))]) (λh s=>MSl.hps m h) rfl ?_;refine J.q λ_=>?_;refine J.l (α:=(Nat×List MSl)) (λz=>z.1<=m/\z.2.length=m/\z.2.map (·.v)=List.replicate z.1 Mv.page0++List.replicate (m-z.1) MSl.none0.v) (λz=>[si 16 z.1,si 15 m,⟨3,pp (bq 0),3, .tt⟩]) [1,3,4] (λz=>[.pt g 153 (z.2.flatMap MSl.cells), .hp (HP.of (z.2.map MSl.m1)), .hp (HP.of (z.2.map MSl.m2))]) (λz=>m-z.1) ((0,List.replicate m MSl.none0)) (⟨j7 _,X8,by simp⟩) λz hI=>?_;obtain⟨k,Z⟩:=z;dsimp only at hI ⊢;obtain⟨hk,hZl,hZ⟩:=hI;refine J.qd (λ_ h1=>?_) λ_ h1=>?_
 ·simp only[d5,i5]at h1;obtain⟨z,hz⟩:∃z,Z[k]? =some z:=⟨_,c9 (by omega)⟩;refine J.openAt 3 k rfl rfl (by rw[i9,hz];rfl) rfl ?_;refine J.openAt 4 k rfl rfl (by rw[i9,hz];rfl) rfl ?_;refine J.p (.take true 0 (.take true 1 (.take true 2 (.take false 3 (.take true 4 (.take true 5 (.take true 6 (.take true 7 (.take false 8 (.take true 9 (.alt false 10 ((.take true 12 (.take true 13 (.alt false 11 ((.of [58,60,64,71])) (.alt false 14 ((.of [46,60,64,71])) .non))))) (.alt false 11 ((.of [42,48,52,58,60,64,71])) .non)))))))))))) [15,16,17] [2] λ_=>?_;have hoff:∀j,0+(k:Int).toNat*19+j=k*19+j:=λj=>by omega
  have hlt:∀j,j<19->0+(k:Int).toNat*19+j<(Z.flatMap MSl.cells).length:=λj hj=>by
   rw[MSl.flat_len,hoff];have:k*19+19<=19*Z.length:=by omega
   omega
  have U4:∀y:MSl,(Z.set k y)[k]? =some y:=λy=>by rw[z8,d8 rfl,d8 (by omega)]
  refine J.join (α:=Nat×Nat) (λ_=>[si 16 k,si 15 m,⟨3,pp (bq 0),3, .tt⟩]) (λx=>[.hp F, .pt g 153 ((Z.set k ⟨⟨z.v.now,z.v.op,[Mv.z16],[Mv.z16]⟩,some x.1,1,some x.2,1⟩).flatMap MSl.cells), .pt (bq 0) 151 [.slice (some ⟨g,0,none⟩) m m], .hp (HP.of ((Z.map MSl.m1).set k .emp)), .hp (HP.of ((Z.map MSl.m2).set k .emp)),m9 36 16 (some x.1) 1 1 (Q2 [Mv.z16]),m9 36 16 (some x.2) 1 1 (Q2 [Mv.z16])]) (λhj=>?_) (λx=>?_)
  ·refine J.q λ_=>?_;refine J.alts ?_ ?_
   ·skip
    refine J.mk 8 λga=>?_;refine J.cO 36 16 1 1 (Q2 [Mv.z16]) 7 ?_;refine J.q λ_=>?_;refine J.alts ?_ ?_
    ·skip
     refine J.mk 9 λgb=>?_;refine J.cO 36 16 1 1 (Q2 [Mv.z16]) 8 ?_;refine J.s1 1 ((Z.set k ⟨⟨z.v.now,z.v.op,[Mv.z16],z.v.ever⟩,some ga,1,z.a2,z.c2⟩).flatMap MSl.cells) ?_ ?_ ?_
     ·exact hlt 17 (by omega)
     ·rw[hoff 17];exact Q3 MSl.cells 19 MSl.cells_len 17 _ hz (by omega) rfl
     refine J.qn 2 λ_=>?_;refine J.s1 1 ((Z.set k ⟨⟨z.v.now,z.v.op,[Mv.z16],[Mv.z16]⟩,some ga,1,some gb,1⟩).flatMap MSl.cells) ?_ ?_ ?_
     ·rw[MSl.flat_len,A7,<- MSl.flat_len];exact hlt 18 (by omega)
     ·rw[hoff 18];exact(Q3 MSl.cells 19 MSl.cells_len 18 (y:=⟨⟨z.v.now,z.v.op,[Mv.z16],[Mv.z16]⟩,some ga,1,some gb,1⟩) _ (U4 ⟨⟨z.v.now,z.v.op,[Mv.z16],z.v.ever⟩,some ga,1,z.a2,z.c2⟩) (by omega) rfl).trans (by rw[Z9])
     exact J.goto [0,1,2,3,4,7,8] (hj (ga,gb)) ⟨rfl,rfl,rfl,trivial⟩ rfl rfl
    ·skip
     refine J.s1 1 ((Z.set k ⟨⟨z.v.now,z.v.op,[Mv.z16],z.v.ever⟩,some ga,1,z.a2,z.c2⟩).flatMap MSl.cells) ?_ ?_ ?_
     ·exact hlt 17 (by omega)
     ·rw[hoff 17];exact Q3 MSl.cells 19 MSl.cells_len 17 _ hz (by omega) rfl
     refine J.mk 9 λgb=>?_;refine J.cO 36 16 1 1 (Q2 [Mv.z16]) 8 ?_;refine J.qn 2 λ_=>?_;refine J.s1 1 ((Z.set k ⟨⟨z.v.now,z.v.op,[Mv.z16],[Mv.z16]⟩,some ga,1,some gb,1⟩).flatMap MSl.cells) ?_ ?_ ?_
     ·rw[MSl.flat_len,A7,<- MSl.flat_len];exact hlt 18 (by omega)
     ·rw[hoff 18];exact(Q3 MSl.cells 19 MSl.cells_len 18 (y:=⟨⟨z.v.now,z.v.op,[Mv.z16],[Mv.z16]⟩,some ga,1,some gb,1⟩) _ (U4 ⟨⟨z.v.now,z.v.op,[Mv.z16],z.v.ever⟩,some ga,1,z.a2,z.c2⟩) (by omega) rfl).trans (by rw[Z9])
     exact J.goto [0,1,2,3,4,7,8] (hj (ga,gb)) ⟨rfl,rfl,rfl,trivial⟩ rfl rfl
   ·skip
    refine J.mk 8 λgb=>?_;refine J.cO 36 16 1 1 (Q2 [Mv.z16]) 7 ?_;refine J.mk 9 λga=>?_;refine J.cO 36 16 1 1 (Q2 [Mv.z16]) 8 ?_;refine J.qn 2 λ_=>?_;refine J.s1 1 ((Z.set k ⟨⟨z.v.now,z.v.op,[Mv.z16],z.v.ever⟩,some ga,1,z.a2,z.c2⟩).flatMap MSl.cells) ?_ ?_ ?_
    ·exact hlt 17 (by omega)
    ·rw[hoff 17];exact Q3 MSl.cells 19 MSl.cells_len 17 _ hz (by omega) rfl
    refine J.qn 2 λ_=>?_;refine J.s1 1 ((Z.set k ⟨⟨z.v.now,z.v.op,[Mv.z16],[Mv.z16]⟩,some ga,1,some gb,1⟩).flatMap MSl.cells) ?_ ?_ ?_
    ·rw[MSl.flat_len,A7,<- MSl.flat_len];exact hlt 18 (by omega)
    ·rw[hoff 18];exact(Q3 MSl.cells 19 MSl.cells_len 18 (y:=⟨⟨z.v.now,z.v.op,[Mv.z16],[Mv.z16]⟩,some ga,1,some gb,1⟩) _ (U4 ⟨⟨z.v.now,z.v.op,[Mv.z16],z.v.ever⟩,some ga,1,z.a2,z.c2⟩) (by omega) rfl).trans (by rw[Z9])
    exact J.goto [0,1,2,3,4,8,7] (hj (ga,gb)) ⟨rfl,rfl,rfl,trivial⟩ rfl rfl
  obtain⟨ga,gb⟩:=x;dsimp only;obtain⟨y,hy⟩:∃y:MSl,y=⟨⟨z.v.now,z.v.op,[Mv.z16],[Mv.z16]⟩,some ga,1,some gb,1⟩:=⟨_,rfl⟩;rw[<- hy,show m9 36 16 (some ga) 1 1 (Q2 [Mv.z16])=y.m1 from by rw[hy];rfl,show m9 36 16 (some gb) 1 1 (Q2 [Mv.z16])=y.m2 from by rw[hy];rfl];refine J.closeAt (A:=y.m1) 3 5 k rfl rfl rfl ?_;refine J.closeAt (A:=y.m2) 4 6 k rfl rfl rfl ?_;rw[<- L7,<- L7];have hzv:z.v=MSl.none0.v:=by
   have h2:(Z.map (·.v))[k]? =some z.v:=by rw[i9,hz];rfl
   rw[hZ,B2 (by simp),X8,E9,d8 (by omega)]at h2;injection h2 with h2;exact h2.symm
  have hyv:y.v=Mv.page0:=by rw[hy];show(⟨z.v.now,z.v.op,[Mv.z16],[Mv.z16]⟩:MPv)=_;rw[hzv];rfl
  have hZ2:(Z.set k y).map (·.v)=List.replicate (k+1) Mv.page0++List.replicate (m-(k+1)) MSl.none0.v:=by
   rw[L7,hZ,hyv,show m-k=(m-(k+1))+1 from by omega,a0n (n:=m-(k+1)),R0 _ _ (by simp),X8,Z7,a0H,List.replicate_succ' (n:=k),m7];rfl
  refine J.q λ_=>?_;refine J.n ((k+1,Z.set k y)) (⟨by dsimp only;omega,by dsimp only;rw[A7];exact hZl,hZ2⟩) (by dsimp only;omega) [0,1,2,3,4]
 simp only[c8,i5]at h1;obtain rfl:k=m:=by omega
 refine J.qr [2,1,3,4] λ_=>?_;refine⟨bq 0,g,Z,rfl,?_,?_⟩
 ·rw[<- hZl];rfl
 ·rw[hZ,Z7];unfold Mv.new;rw[hm];simp
structure Pad where
 f:Nat
 p:Nat
 t:Nat
 l:Nat
 d:Nat
 fp:Nat
 a:Option (Nat×Nat)
 c:Nat
 a2:Option Nat
 c2:Nat
def tdC (t:Td):List Value:=[iI t.err,byC t.data 0,byC t.data 1,byC t.data 2,byC t.data 3,byC t.data 4,byC t.data 5,byC t.data 6,byC t.data 7,byC t.data 8,byC t.data 9,byC t.data 10,byC t.data 11,byC t.data 12,byC t.data 13,byC t.data 14,byC t.data 15]
def tdV (t:Td):Value:= .agg (tdC t).toArray
def T9 (l:List Td):List Value:=l.flatMap tdC
def flP (o:Option Fv) (f:Nat):Value:=match o with | some _=>pp f | none=> .pointer none
def a4n (n:Nat) (A:Pad) (P:Pv):List Atom:=match P.Z with | some Z=>FvP A.f A.p n A.t A.l A.d Z | none=>[B8 n P.M]
def a3s (q n:Nat) (A:Pad) (P:Pv):List Atom:=[.pt q 142 [pp n,flP P.Z A.f,pp A.fp,slv A.a2 P.log.length A.c2], .pt A.fp 218 [.slice (R9 A.a) P.L.length A.c],rdA (R9 A.a) 7 P.L.length (A8 P.L),m9 83 17 A.a2 P.log.length A.c2 (T9 P.log)]++a4n n A P
structure Pad.Ok (A:Pad) (P:Pv):Prop where
 z:A.a=none->A.c=0
 c:P.L.length<=A.c
theorem b9e (q n:Nat) (r:Value) (r2 r3:Value):FP 71 [pp q] [.pt q 142 [pp n,r,r2,r3]] (λv As=>v=pp n/\As=[.pt q 142 [pp n,r,r2,r3]]):=by
 refine FE [2] Tryz.func71 λX F hX=>?_;refine J.qF λ_=>?_;exact J.qx [1]
theorem b6E (q n:Nat) (o:Option Fv) (f:Nat) (r2 r3:Value):FP 25 [pp q] [.pt q 142 [pp n,flP o f,r2,r3]] (λv As=>v=flP o f/\As=[.pt q 142 [pp n,flP o f,r2,r3]]):=by
 refine FE [2] Tryz.func25 λX F hX=>?_;refine J.qF λ_=>?_;cases o with
 | none=>
  exact J.qx [1]
 | some Z=>
  exact J.qx [1]
theorem b3I (a:Option Nat):oad a=R9 (a.map λg=>(g,0)):=by cases a<;>rfl
theorem a7j (d b p:Nat) (h:O8 d b p=true) (k:Nat) (hk:k<4611686018427387904):(Nand.new d b p).Gd k 0:=by
 have g:=Nand.Gd.new d b p h 0 (by omega);exact⟨g.ok,by show(0:Int)+k<_;omega,by show(0:Int)+k<_;omega,g.nodup,g.few⟩
theorem c0K (D B Pg:Nat) (hg:O8 D B Pg=true) (A:Atom) (ad:Option Addr) (n c:Nat) (l:List Fl) (hA:Rd A ad 7 n (A8 l)) (hl:l.length=n) (hn:n<=15):FP 40 [.agg #[iI D,iI B,iI Pg], .slice ad n c] [A] (λv As=>∃q nn A',v=pp q/\A'.Ok (Pv.new D B Pg l)/\As=A::a3s q nn A' (Pv.new D B Pg l)):=by
 have hbd:(3<=D/\D<=6)/\(8<=B/\B<=16)/\(2<=Pg/\Pg<=8):=by simp[O8]at hg;omega
 refine FE [0,0] Tryz.func40 λX F hX=>?_;refine J.qc (a7R D B Pg hg) [] λ_=>?_;rintro v As ⟨nn,rfl,rfl⟩;refine⟨_,rfl,trivial,?_⟩;refine J.qF λ_=>?_;have hG:(Nand.new D B Pg).Gd (Dv.costK+0) 0:=a7j D B Pg hg _ (by decide);refine J.qc (a0N nn (Nand.new D B Pg) 0 0 hG (by decide) rfl) [3] λ_=>?_;have hlen:(V3 a3f (plF D B Pg l)).length=(plF D B Pg l).length:=(a6y _ _).length_eq;rintro v As (⟨he,f,p,t,ll,d,rfl,rfl⟩ | ⟨he,rfl,rfl⟩)
 ·refine⟨_,rfl,trivial,?_⟩;refine J.qc (c0f D B Pg (by omega) (by omega) (by omega) A ad n c l hA hl hn) [1] λ_=>?_;rintro v As ⟨fp,a,c',rfl,rfl⟩;refine⟨_,rfl,trivial,?_⟩;refine J.know (λh' s=>a0M (show a0V _ _ a (plF D B Pg l).length c' _ _ from s.get (i:=10) rfl)) λhcap=>?_;refine J.know (λh' s=>a7N (show a0V _ _ a (plF D B Pg l).length c' _ _ from s.get (i:=10) rfl)) λhnil=>?_;have hsl:∀n c,slv a n c= .slice (R9 (a.map λg=>(g,0))) n c:=λn c=>by cases a<;>rfl
  rw[hsl];refine J.turn1 [10] rfl (As:=[rdA (R9 (a.map λg=>(g,0))) 7 (plF D B Pg l).length (A8 (V3 a3f (plF D B Pg l)))]) (λh s=>Sep.one (by have:=Y5 41 7 a (plF D B Pg l).length c' (A8 (V3 a3f (plF D B Pg l))) _ (s.get (i:=0) rfl);rw[b3I]at this;exact this)) rfl ?_;refine J.turn1 [] rfl (As:=[m9 83 17 none 0 0 (T9 [])]) (λh s=>Sep.one ⟨rfl,rfl,rfl⟩) rfl ?_;refine J.q λbq=>?_;refine J.ru hX [1,12,9,10,11,3,4,5,6,7,8] ?_;refine⟨bq 0,nn,⟨f,p,t,ll,d,fp,a.map λg=>(g,0),c',none,0⟩,rfl,⟨λe=>hnil (by cases a with | none=>rfl | some g=>cases e),by show(V3 a3f (plF D B Pg l)).length<=_;rw[hlen];exact hcap⟩,?_⟩;unfold a3s a4n;show _=A::([.pt (bq 0) 142 [pp nn,flP (if(G9 (Nand.new D B Pg)).2=0 then some (Fv.of (G9 (Nand.new D B Pg)).1)else none) _,_,_], .pt fp _ [.slice _ (V3 a3f (plF D B Pg l)).length _],rdA _ 7 (V3 a3f (plF D B Pg l)).length _,_]++(match(if(G9 (Nand.new D B Pg)).2=0 then some (Fv.of (G9 (Nand.new D B Pg)).1)else none)with | some Z=>_ | none=>_));rw[d8 he,hlen];rfl
 ·refine⟨_,rfl,trivial,?_⟩;refine J.qc (c0f D B Pg (by omega) (by omega) (by omega) A ad n c l hA hl hn) [1] λ_=>?_;rintro v As ⟨fp,a,c',rfl,rfl⟩;refine⟨_,rfl,trivial,?_⟩;refine J.know (λh' s=>a0M (show a0V _ _ a (plF D B Pg l).length c' _ _ from s.get (i:=5) rfl)) λhcap=>?_;refine J.know (λh' s=>a7N (show a0V _ _ a (plF D B Pg l).length c' _ _ from s.get (i:=5) rfl)) λhnil=>?_;have hsl:∀n c,slv a n c= .slice (R9 (a.map λg=>(g,0))) n c:=λn c=>by cases a<;>rfl
  rw[hsl];refine J.turn1 [5] rfl (As:=[rdA (R9 (a.map λg=>(g,0))) 7 (plF D B Pg l).length (A8 (V3 a3f (plF D B Pg l)))]) (λh s=>Sep.one (by have:=Y5 41 7 a (plF D B Pg l).length c' (A8 (V3 a3f (plF D B Pg l))) _ (s.get (i:=0) rfl);rw[b3I]at this;exact this)) rfl ?_;refine J.turn1 [] rfl (As:=[m9 83 17 none 0 0 (T9 [])]) (λh s=>Sep.one ⟨rfl,rfl,rfl⟩) rfl ?_;refine J.q λbq=>?_;refine J.ru hX [1,7,4,5,6,3] ?_;refine⟨bq 0,nn,⟨0,0,0,0,0,fp,a.map λg=>(g,0),c',none,0⟩,rfl,⟨λe=>hnil (by cases a with | none=>rfl | some g=>cases e),by show(V3 a3f (plF D B Pg l)).length<=_;rw[hlen];exact hcap⟩,?_⟩;unfold a3s a4n;show _=A::([.pt (bq 0) 142 [pp nn,flP (if(G9 (Nand.new D B Pg)).2=0 then some (Fv.of (G9 (Nand.new D B Pg)).1)else none) _,_,_], .pt fp _ [.slice _ (V3 a3f (plF D B Pg l)).length _],rdA _ 7 (V3 a3f (plF D B Pg l)).length _,_]++(match(if(G9 (Nand.new D B Pg)).2=0 then some (Fv.of (G9 (Nand.new D B Pg)).1)else none)with | some Z=>_ | none=>_));rw[d6 he,hlen];rfl
def stC (s:Stp):List Value:=[iI s.fn,iI s.lpn,byC s.data 0,byC s.data 1,byC s.data 2,byC s.data 3,byC s.data 4,byC s.data 5,byC s.data 6,byC s.data 7,byC s.data 8,byC s.data 9,byC s.data 10,byC s.data 11,byC s.data 12,byC s.data 13,byC s.data 14,byC s.data 15,iI s.n,iI s.keep,iI s.f.at_,iI s.f.kind,iI s.f.x,iI s.f.y,iI s.f.z,iI s.f.n,iI s.f.xx]
def stV (s:Stp):Value:= .agg (stC s).toArray
def PlQ (q n:Nat) (o:Option Fv) (f:Nat) (r2 r3:Value):Atom:= .pt q 142 [pp n,flP o f,r2,r3]
theorem b4B (q n:Nat) (A:Pad) (P:Pv) (Z:Fv) (hZ:P.Z=some Z) (r2 r3:Value) (k m:Nat) (hG:Z.S.N.Gd (Dv.costK+k) m) (hm:m<=1000):FP 137 [pp q] (PlQ q n P.Z A.f r2 r3::a4n n A P) (λv As=>∃A':Pad,v=iI P.mounts.2/\(A'.fp=A.fp/\A'.a=A.a/\A'.c=A.c/\A'.a2=A.a2/\A'.c2=A.c2)/\((∃Y,P.mounts.1={P with Z:=some Y}/\As=PlQ q n (some Y) A'.f r2 r3::FvP A'.f A'.p n A'.t A'.l A'.d Y)\/∃M,P.mounts.1={P with Z:=none,M:=M}/\As=[PlQ q n none A'.f r2 r3,B8 n M])):=by
 have hnd:P.nd=Z.S.N:=by unfold Pv.nd;rw[hZ]
 have hms:P.mounts=if(G9 ((if Z.S.N.off then Z.S.N else Z.S.N.setCut (-1) 0).onN)).2=0 then({P with Z:=some (Fv.of (G9 ((if Z.S.N.off then Z.S.N else Z.S.N.setCut (-1) 0).onN)).1)},0)else({P with Z:=none,M:=(G9 ((if Z.S.N.off then Z.S.N else Z.S.N.setCut (-1) 0).onN)).1.N},(G9 ((if Z.S.N.off then Z.S.N else Z.S.N.setCut (-1) 0).onN)).2):=by unfold Pv.mounts;rw[hnd]
 rw[show a4n n A P=FvP A.f A.p n A.t A.l A.d Z from by unfold a4n;rw[hZ],hZ];refine FE [2] Tryz.func137 λX F hX=>?_;refine J.qp (a5d n Z.S.N) [4] λ_=>?_;refine J.qd (λ_ h1=>?_) λ_ h1=>?_
 ·have hoff:Z.S.N.off=false:=by simpa using h1
  have e:(if Z.S.N.off=true then Z.S.N else Z.S.N.setCut (-1) 0)=Z.S.N.setCut (-1) 0:=d6 (by rw[hoff];decide);rw[e]at hms;have hG2:(Z.S.N.setCut (-1) 0).onN.Gd (Dv.costK+k) m:=(hG.cut (-1) 0 (by decide) (by decide)).on;refine J.qp (a6t n Z.S.N (-1) 0) [4] λ_=>?_;refine J.qp (b4O n (Z.S.N.setCut (-1) 0)) [4] λ_=>?_;refine J.qc (a0N n ((Z.S.N.setCut (-1) 0)).onN k m hG2 hm rfl) [4] λ_=>?_;rintro v As (⟨he,f,p,t,ll,d,rfl,rfl⟩ | ⟨he,rfl,rfl⟩)
  ·refine⟨_,rfl,trivial,?_⟩;rw[d8 he]at hms;refine J.qr [1,4,8,9,10,11,12] λ_=>?_;exact⟨⟨f,p,t,ll,d,A.fp,A.a,A.c,A.a2,A.c2⟩,by rw[hms],⟨rfl,rfl,rfl,rfl,rfl⟩, .inl ⟨_,by rw[hms],rfl⟩⟩
  ·refine⟨_,rfl,trivial,?_⟩;rw[d6 he]at hms;refine J.qr [1,4] λ_=>?_;exact⟨A,by rw[hms],⟨rfl,rfl,rfl,rfl,rfl⟩, .inr ⟨_,by rw[hms],rfl⟩⟩
 ·have hoff:Z.S.N.off=true:=by simpa using h1
  have e:(if Z.S.N.off=true then Z.S.N else Z.S.N.setCut (-1) 0)=Z.S.N:=d8 hoff;rw[e]at hms;have hG2:Z.S.N.onN.Gd (Dv.costK+k) m:=hG.on;refine J.qp (b4O n Z.S.N) [4] λ_=>?_;refine J.qc (a0N n (Z.S.N).onN k m hG2 hm rfl) [4] λ_=>?_;rintro v As (⟨he,f,p,t,ll,d,rfl,rfl⟩ | ⟨he,rfl,rfl⟩)
  ·refine⟨_,rfl,trivial,?_⟩;rw[d8 he]at hms;refine J.qr [1,4,8,9,10,11,12] λ_=>?_;exact⟨⟨f,p,t,ll,d,A.fp,A.a,A.c,A.a2,A.c2⟩,by rw[hms],⟨rfl,rfl,rfl,rfl,rfl⟩, .inl ⟨_,by rw[hms],rfl⟩⟩
  ·refine⟨_,rfl,trivial,?_⟩;rw[d6 he]at hms;refine J.qr [1,4] λ_=>?_;exact⟨A,by rw[hms],⟨rfl,rfl,rfl,rfl,rfl⟩, .inr ⟨_,by rw[hms],rfl⟩⟩
theorem b9d (q n:Nat) (A:Pad) (P:Pv) (Z:Fv) (hZ:P.Z=some Z) (r2 r3:Value) (k m:Nat) (hO:Z.Ok (Fv.cW*200+(Dv.costS+(Dv.costK+(1+k)))) m) (hm:m<=1000) (s:Stp) (hs:s.data.length=16):FP 87 [pp q,stV s] (PlQ q n P.Z A.f r2 r3::a4n n A P) (λv As=>∃A':Pad,v=tdV (P.does s).2/\(A'.fp=A.fp/\A'.a=A.a/\A'.c=A.c/\A'.a2=A.a2/\A'.c2=A.c2)/\((∃Y,(P.does s).1={P with Z:=some Y}/\As=PlQ q n (some Y) A'.f r2 r3::FvP A'.f A'.p n A'.t A'.l A'.d Y)\/∃M,(P.does s).1={P with Z:=none,M:=M}/\As=[PlQ q n none A'.f r2 r3,B8 n M])):=by
 have hnd:P.nd=Z.S.N:=by unfold Pv.nd;rw[hZ]
 have hdv:∀Y,a4n n A {P with Z:=some Y}=FvP A.f A.p n A.t A.l A.d Y:=λY=>rfl;have hs1:∀b,s.fn=b->True:=λ_ _=>trivial;rw[show a4n n A P=FvP A.f A.p n A.t A.l A.d Z from by unfold a4n;rw[hZ],hZ];refine FE [2,0] Tryz.func87 λX F hX=>?_;refine J.qd (λ_ h1=>?_) λ_ h1=>?_
 ·have e1:s.fn=1:=by simpa using h1
  have hd:P.does s=({P with Z:=some (Z.read s.lpn).1},⟨(Z.read s.lpn).2.2,(Z.read s.lpn).2.1⟩):=by unfold Pv.does;rw[d8 e1,hZ]
  refine J.pn 7 (.take true 0 (.take true 1 (.take true 2 (.take false 3 (.take true 4 (.take false 5 (.alt false 6 ((.of [28,32,36,42,46,48])) (.alt false 10 ((.of [26,28,32,36,46,48])) .non)))))))) [12] [1,8] λ_ _=>?_;refine J.alts ?_ ?_
  ·skip
   refine J.qp (a4h A.f A.p n A.t A.l A.d Z _ m hO s.lpn) [2,3,4,5,6,7] λ_=>?_;refine J.qr [1,2,3,4,5,6,7] λ_=>?_;refine⟨A,?_,⟨rfl,rfl,rfl,rfl,rfl⟩, .inl ⟨_,by rw[hd],rfl⟩⟩;rw[hd];rfl
  ·skip
   refine J.qn 1 λ_=>?_;refine J.qp (a4h A.f A.p n A.t A.l A.d Z _ m hO s.lpn) [2,3,4,5,6,7] λ_=>?_;refine J.qr [1,2,3,4,5,6,7] λ_=>?_;refine⟨A,?_,⟨rfl,rfl,rfl,rfl,rfl⟩, .inl ⟨_,by rw[hd],rfl⟩⟩;rw[hd];rfl
 have e1:s.fn≠1:=by simpa using h1
 refine J.qd (λ_ h2=>?_) λ_ h2=>?_
 ·have e2:s.fn=2:=by simpa using h2
  have hd:P.does s=({P with Z:=some (Z.write s.lpn s.data).1},⟨(Z.write s.lpn s.data).2,zd⟩):=by unfold Pv.does;rw[d6 e1,d8 e2,hZ]
  refine J.pq (.of [0,4,8,13,16,21,24,29,34,36,43]) [10] [1,8] λ_ _=>?_;refine J.ca hX (by kernel_rfl) (a3M A.f A.p n A.t A.l A.d Z _ m (hO.less (k':=Fv.cW+(1+k)) (by omega)) hm s.lpn s.data hs) [2,3,4,5,6,7] 0 rfl rfl rfl rfl rfl rfl (λ_=>rfl) ?_;refine cpq ⟨_,rfl,stq,?_⟩;refine J.qr [1,2,3,4,5,6,7] λ_=>?_;refine⟨A,?_,⟨rfl,rfl,rfl,rfl,rfl⟩, .inl ⟨_,by rw[hd],rfl⟩⟩;rw[hd];rfl
 have e2:s.fn≠2:=by simpa using h2
 refine J.qd (λ_ h3=>?_) λ_ h3=>?_
 ·have e3:s.fn=3:=by simpa using h3
  have hd:P.does s=({P with Z:=some (Z.trim s.lpn).1},⟨(Z.trim s.lpn).2,zd⟩):=by unfold Pv.does;rw[d6 e1,d6 e2,d8 e3,hZ]
  refine J.pq (.of [0,4,8,13,16,21,26,28,35]) [8] [1,8] λ_ _=>?_;refine J.ca hX (by kernel_rfl) (b3W A.f A.p n A.t A.l A.d Z _ m (hO.less (k':=Fv.cW+(1+k)) (by omega)) hm s.lpn) [2,3,4,5,6,7] 0 rfl rfl rfl rfl rfl rfl (λ_=>rfl) ?_;refine cpq ⟨_,rfl,stq,?_⟩;refine J.qr [1,2,3,4,5,6,7] λ_=>?_;refine⟨A,?_,⟨rfl,rfl,rfl,rfl,rfl⟩, .inl ⟨_,by rw[hd],rfl⟩⟩;rw[hd];rfl
 have e3:s.fn≠3:=by simpa using h3
 refine J.qd (λ_ h4=>?_) λ_ h4=>?_
 ·have e4:s.fn=4:=by simpa using h4
  have hd:P.does s=({P with Z:=some Z.flush.1},⟨Z.flush.2,zd⟩):=by unfold Pv.does;rw[d6 e1,d6 e2,d6 e3,d8 e4,hZ]
  refine J.q λ_=>?_;refine J.ca hX (by kernel_rfl) (a5k A.f A.p n A.t A.l A.d Z _ m (hO.less (k':=Fv.cW*200+k) (by omega)) hm) [2,3,4,5,6,7] 0 rfl rfl rfl rfl rfl rfl (λ_=>rfl) ?_;refine cpq ⟨_,rfl,trivial,?_⟩;refine J.qr [1,2,3,4,5,6,7] λ_=>?_;refine⟨A,?_,⟨rfl,rfl,rfl,rfl,rfl⟩, .inl ⟨_,by rw[hd],rfl⟩⟩;rw[hd];rfl
 have e4:s.fn≠4:=by simpa using h4
 refine J.qd (λ_ h5=>?_) λ_ h5=>?_
 ·have e5:s.fn=5:=by simpa using h5
  have hd:P.does s=({P with Z:=some Z.tick.1},⟨Z.tick.2,zd⟩):=by unfold Pv.does;rw[d6 e1,d6 e2,d6 e3,d6 e4,d8 e5,hZ]
  refine J.q λ_=>?_;refine J.ca hX (by kernel_rfl) (b3X A.f A.p n A.t A.l A.d Z _ m (hO.less (k':=Dv.costS+k) (by omega)) hm) [2,3,4,5,6,7] 0 rfl rfl rfl rfl rfl rfl (λ_=>rfl) ?_;refine cpq ⟨_,rfl,trivial,?_⟩;refine J.qr [1,2,3,4,5,6,7] λ_=>?_;refine⟨A,?_,⟨rfl,rfl,rfl,rfl,rfl⟩, .inl ⟨_,by rw[hd],rfl⟩⟩;rw[hd];rfl
 have e5:s.fn≠5:=by simpa using h5
 refine J.qd (λ_ h6=>?_) λ_ h6=>?_
 ·have e6:s.fn=6:=by simpa using h6
  have hd:P.does s=(P.setN (Z.S.N.setCut s.n s.keep),⟨0,zd⟩):=by unfold Pv.does;rw[d6 e1,d6 e2,d6 e3,d6 e4,d6 e5,d8 e6,hnd]
  have hsn:P.setN (Z.S.N.setCut s.n s.keep)={P with Z:=some (Z.setN (Z.S.N.setCut s.n s.keep))}:=by unfold Pv.setN;rw[hZ]
  rw[hsn]at hd;refine J.p (.of [0,4,8,13,16,21,24,29,34]) [] [1,8] λ_=>?_;refine J.qp (a6t n Z.S.N s.n s.keep) [4] λ_=>?_;refine J.qr [1,2,3,4,5,6,7] λ_=>?_;refine⟨A,?_,⟨rfl,rfl,rfl,rfl,rfl⟩, .inl ⟨_,by rw[hd],rfl⟩⟩;rw[hd];rfl
 have e6:s.fn≠6:=by simpa using h6
 refine J.qd (λ_ h7=>?_) λ_ h7=>?_
 ·have e7:s.fn=7:=by simpa using h7
  have hd:P.does s=(P.mounts.1,⟨P.mounts.2,zd⟩):=by unfold Pv.does;rw[d6 e1,d6 e2,d6 e3,d6 e4,d6 e5,d6 e6,d8 e7]
  have hmm:=b4B q n A P Z hZ r2 r3 _ m (hO.dv.gd.less (k':=Dv.costK+(1+k)) (by omega) (i7 m)) hm;rw[show a4n n A P=FvP A.f A.p n A.t A.l A.d Z from by unfold a4n;rw[hZ],hZ]at hmm;refine J.qc (hmm) [1,2,3,4,5,6,7] λ_=>?_;rintro v As ⟨A',rfl,hA',(⟨Y,hY,rfl⟩ | ⟨M,hY,rfl⟩)⟩
  ·refine⟨_,rfl,trivial,?_⟩;refine J.qr [1,2,3,4,5,6,7] λ_=>?_;refine⟨A',?_,hA', .inl ⟨Y,by rw[hd,hY],rfl⟩⟩;rw[hd];rfl
  ·refine⟨_,rfl,trivial,?_⟩;refine J.qr [1,2] λ_=>?_;refine⟨A',?_,hA', .inr ⟨M,by rw[hd,hY],rfl⟩⟩;rw[hd];rfl
 have e7:s.fn≠7:=by simpa using h7
 refine J.qd (λ_ h8=>?_) λ_ h8=>?_
 ·have e8:s.fn=8:=by simpa using h8
  obtain⟨Q,hQ⟩:∃Q,Q=Z.S.N.fault s.f.kind s.f.x s.f.y s.f.z s.f.n s.f.xx:=⟨_,rfl⟩;have hd:P.does s=({P with Z:=some (Z.setN Q.2)},if Q.1 then⟨0,zd⟩else⟨1,zd⟩):=by unfold Pv.does;rw[d6 e1,d6 e2,d6 e3,d6 e4,d6 e5,d6 e6,d6 e7,d8 e8,hnd,<- hQ];unfold Pv.setN;rw[hZ]
  refine J.p (.of [0,4,8,13,16,21,26]) [] [1,8] λ_=>?_;refine J.qp (a4c n Z.S.N hO.dv.gd.ok s.f.at_ s.f.kind s.f.x s.f.y s.f.z s.f.n s.f.xx) [4] λ_=>?_;rw[<- hQ];refine J.qd (λ_ h9=>?_) λ_ h9=>?_
  ·rw[d8 h9]at hd;refine J.qr [1,2,3,4,5,6,7] λ_=>?_;refine⟨A,?_,⟨rfl,rfl,rfl,rfl,rfl⟩, .inl ⟨_,by rw[hd],rfl⟩⟩;rw[hd];rfl
  ·rw[d6 (by rw[h9];decide)]at hd;refine J.qr [1,2,3,4,5,6,7] λ_=>?_;refine⟨A,?_,⟨rfl,rfl,rfl,rfl,rfl⟩, .inl ⟨_,by rw[hd],rfl⟩⟩;rw[hd];rfl
 have e8:s.fn≠8:=by simpa using h8
 have hd:P.does s=(P,⟨1,zd⟩):=by unfold Pv.does;rw[d6 e1,d6 e2,d6 e3,d6 e4,d6 e5,d6 e6,d6 e7,d6 e8]
 refine J.qr [1,2,3,4,5,6,7] λ_=>?_;refine⟨A,?_,⟨rfl,rfl,rfl,rfl,rfl⟩, .inl ⟨Z,?_,rfl⟩⟩
 ·rw[hd];rfl
 ·rw[hd];show P={P with Z:=some Z};rw[<- hZ]
theorem Dv.Ok.setN {S:Dv} {k m m':Nat} {N:Nand} (h:S.Ok k m) (hl:S.N.Like N) (hG:N.Gd k m'):({S with N:=N}:Dv).Ok k m':=⟨hG,h.t.like hl,h.T,h.sl,h.row,h.next⟩
theorem Fv.Ok.setN {Z:Fv} {k m m':Nat} {N:Nand} (h:Z.Ok k m) (hl:Z.S.N.Like N) (hG:N.Gd k m'):(Z.setN N).Ok k m':=⟨h.dv.setN hl hG,h.dat,λe he=>by have:=h.rng e he;unfold Fv.lg at this ⊢;rw[show(Z.setN N).S.N=N from rfl,b1P hl];exact this,h.nd,h.nx⟩
theorem a8e (N:Nand):∀(l:List Fl),N.Like (a1C N l)
 | []=>Nand.Like.refl N
 | f::l=>(Nand.like_fault N f.kind f.x f.y f.z f.n f.xx).trans (a8e (flN N f) l)
theorem a5u (l:List Td) (x:Td):T9 l++tdC x=T9 (l++[x]):=by unfold T9;rw[K1];simp
theorem b0x (q n:Nat) (A:Pad) (P:Pv) (hA:A.Ok P) (Z:Fv) (hZ:P.Z=some Z) (k m:Nat) (hO:Z.Ok (Fv.cW*200+(Dv.costS+(Dv.costK+(1+k)))) m) (hm:m+(U7 Z.S.N.ops P.L).length<=1000) (hL:P.L.length<=1000) (hlg:P.log.length<=1000) (s:Stp) (hs:s.data.length=16):FP 41 [pp q,stV s] (a3s q n A P) (λv As=>∃A':Pad,v=tdV (P.step s).2/\A'.Ok (P.step s).1/\As=a3s q n A' (P.step s).1):=by
 have hnd:P.nd=Z.S.N:=by unfold Pv.nd;rw[hZ]
 obtain⟨D,hD⟩:∃D,U7 Z.S.N.ops P.L=D:=⟨_,rfl⟩;obtain⟨R,hR⟩:∃R,a3I Z.S.N.ops P.L=R:=⟨_,rfl⟩;rw[hD]at hm;have hrun:P.run=⟨R,P.log,some (Z.setN (a1C Z.S.N D)),P.M⟩:=by unfold Pv.run;rw[hnd,hD,hR];unfold Pv.setN;rw[hZ]
 have hO2:(Z.setN (a1C Z.S.N D)).Ok (Fv.cW*200+(Dv.costS+(Dv.costK+(1+k)))) (m+D.length):=hO.setN (a8e _ _) (a7f hO.dv.gd D);have hst:P.step s=({(P.run.does s).1 with log:=(P.run.does s).1.log++[(P.run.does s).2]},(P.run.does s).2):=rfl;unfold a3s;rw[show a4n n A P=FvP A.f A.p n A.t A.l A.d Z from by unfold a4n;rw[hZ],hZ];refine FE [2,0] Tryz.func41 λX F hX=>?_;refine J.qF λ_=>?_;refine J.p (.of [0,4,8,13,16,20,24,29,34]) [] [1] λ_=>?_;refine J.qc (c1J A.fp n A.a A.c P.L hA.z hA.c hL Z.S.N _ m hO.dv.gd) [2,3,7] λ_=>?_;rintro v As ⟨a',c',hz',hc',rfl,rfl⟩;refine⟨_,rfl,stq,?_⟩;rw[hR]at hc' ⊢;rw[hD];have hdo:=b9d q n A ⟨R,P.log,some (Z.setN (a1C Z.S.N D)),P.M⟩ (Z.setN (a1C Z.S.N D)) rfl (pp A.fp) (slv A.a2 P.log.length A.c2) k (m+D.length) hO2 hm s hs;rw[<- hrun]at hdo;rw[hrun]at hdo;obtain⟨W,hW⟩:∃W,(⟨R,P.log,some (Z.setN (a1C Z.S.N D)),P.M⟩:Pv).does s=W:=⟨_,rfl⟩;rw[hrun,hW]at hst;rw[hW]at hdo;obtain⟨Wp,wt⟩:=W;dsimp only at hdo hst;refine J.qc (hdo) [1,5,6,7,8,9,10] λ_=>?_;rintro v As ⟨A',rfl,⟨q1,q2,q3,q4,q5⟩,(⟨Y,hY,rfl⟩ | ⟨M,hY,rfl⟩)⟩
 ·refine⟨_,rfl,trivial,?_⟩;refine J.pq (.of [0,4,8,12,17,21,26,30,32,36,43]) [8,9,10] [1,13] λ_ _=>?_;refine J.ap 4 14 0 (a5u P.log wt) λa3 c3=>?_;refine J.qr [1,2,3,4,5,6,7,8,9,10] λ_=>?_;refine⟨⟨A'.f,A'.p,A'.t,A'.l,A'.d,A.fp,a',c',a3,c3⟩,?_,?_,?_⟩
  ·rw[hst];rfl
  ·rw[hst,hY];exact⟨hz',hc'⟩
  ·rw[hst,hY];dsimp only;rw[f8];rfl
 ·refine⟨_,rfl,trivial,?_⟩;refine J.pq (.of [0,4,8,12,17,21,26,30,32,36,43]) [8,9,10] [1,13] λ_ _=>?_;refine J.ap 4 14 0 (a5u P.log wt) λa3 c3=>?_;refine J.qr [1,2,3,4,5] λ_=>?_;refine⟨⟨A'.f,A'.p,A'.t,A'.l,A'.d,A.fp,a',c',a3,c3⟩,?_,?_,?_⟩
  ·rw[hst];rfl
  ·rw[hst,hY];exact⟨hz',hc'⟩
  ·rw[hst,hY];dsimp only;rw[f8];rfl
theorem b2k (l:List Td):∀u∈T9 l,u.oneCell'=true:=by
 intro u hu;simp only[T9,K5]at hu;obtain⟨s,_,hu⟩:=hu;simp only[tdC,H7,U5,a5A]at hu;rcases hu with rfl | rfl | rfl | rfl | rfl | rfl | rfl | rfl | rfl | rfl | rfl | rfl | rfl | rfl | rfl | rfl | rfl<;>rfl
theorem b4o (a:Option Nat) (n cap:Nat) (l:List Td) (hl:l.length=n) (hn:n<=1000000):FP 88 [slv a n cap] [m9 83 17 a n cap (T9 l)]
  (λv As=>∃a' c',v=slv a' n c'/\As=[m9 83 17 a n cap (T9 l),m9 83 17 a' n c' (T9 l)]):=by
 refine FE [0] Tryz.func88 λX F hX=>?_;cases a with
 | none=>
  refine J.know (λh' s=>(s.get (i:=1) rfl).2) λhn0=>?_;obtain⟨rfl,rfl⟩:=hn0;have:l=[]:=n5 hl;subst this;refine J.qT λ_=>?_;refine J.turn1 [] rfl (As:=[m9 83 17 none 0 0 (T9 [])]) (λh s=>Sep.one ⟨rfl,rfl,rfl⟩) rfl ?_;refine J.qr [1,2] λ_=>?_;exact⟨none,0,rfl,rfl⟩
 | some g=>
  refine J.qF λ_=>?_;refine J.qn 5 λbb=>?_;refine J.closeOwn (e:=83) (size:=17) (n:=0) (cap:=0) (xs:=[]) 2 rfl rfl rfl (i7 _) (j7 _) rfl rfl rfl ?_;refine J.q λ_=>?_;refine J.appendR hX tk (a:=some (bb 0)) (n:=0) (cap:=0) (xs:=[]) (oo:=0) (Ay:=m9 83 17 (some g) n cap (T9 l)) 2 1 0 rfl rfl rfl rfl rfl rfl rfl rfl rfl rfl (Y5 _ _ (some g) _ _ _) rfl rfl rfl rfl (b2k l) ?_ ?_ (λ_=>rfl) λa' c'=>⟨_,rfl,trivial,?_⟩
  ·simp only[maxLen];omega
  ·omega
  rw[J6 n,R4];refine J.qr [1,2] λ_=>?_;exact⟨a',c',rfl,rfl⟩
theorem c0L (q n:Nat) (A:Pad) (P:Pv) (hl:P.log.length<=1000):FP 42 [pp q] [PlQ q n P.Z A.f (pp A.fp) (slv A.a2 P.log.length A.c2),m9 83 17 A.a2 P.log.length A.c2 (T9 P.log)]
  (λv As=>∃a' c',v=slv a' P.log.length c'/\As=[PlQ q n P.Z A.f (pp A.fp) (slv A.a2 P.log.length A.c2),m9 83 17 A.a2 P.log.length A.c2 (T9 P.log),m9 83 17 a' P.log.length c' (T9 P.log)]):=by
 refine FE [2] Tryz.func42 λX F hX=>?_;refine J.qF λ_=>?_;refine J.qc (b4o A.a2 P.log.length A.c2 P.log rfl (by omega)) [2] λ_=>?_;rintro v As ⟨a',c',rfl,rfl⟩;refine⟨_,rfl,trivial,?_⟩;refine J.qr [1,2,3] λ_=>?_;exact⟨a',c',rfl,rfl⟩
def b4e (d b p:Int):Int:=if O8 d b p then 12*d*b*p+40 else 0
theorem c1t (d b p:Int):FP 45 [.agg #[iI d,iI b,iI p]] [] (Ps (iI (b4e d b p)) []):=by
 refine FE [0] Tryz.func45 λX F hX=>?_;refine J.qp (a6F d b p) [] λ_=>?_;refine J.qd (λ_ h1=>?_) λ_ h1=>?_
 ·have hg:O8 d b p=false:=by simpa using h1
  refine J.qr [] λ_=>?_;exact⟨by unfold b4e;rw[hg];rfl,rfl⟩
 ·have hg:O8 d b p=true:=by simpa using h1
  have hbd:(3<=d/\d<=6)/\(8<=b/\b<=16)/\(2<=p/\p<=8):=by simp[O8]at hg;omega
  have m1:0<=12*d*b/\12*d*b<=1152:=by
   have h1:=a5F (show 0<=12*d by omega) (show 0<=b by omega);have h2:=a5G (show 12*d<=72 by omega) (show b<=16 by omega) (by omega) (by omega);omega
  have m2:0<=12*d*b*p/\12*d*b*p<=9216:=by
   have h1:=a5F m1.1 (show 0<=p by omega);have h2:=a5G m1.2 (show p<=8 by omega) (by omega) (by omega);omega
  refine J.qr [] λ_=>?_;exact⟨by unfold b4e;rw[hg];rfl,rfl⟩
end
end Go.Proofs.YtmafiplddapokaaGreat
