/- Helpers. No condition. -/
import Derived.Test.YtgkpkpbnonmopaaGreatC03
import Derived.Test.YtgkpkpbnonmopaaGreatC04
import Derived.Test.YtgkpkpbnonmopaaGreatC05
set_option maxRecDepth 20000
set_option linter.all false
namespace Go.Proofs.YtgkpkpbnonmopaaGreat
structure Nand.Gd (N:Nand) (k m:Nat):Prop where
 ok:N.Ok
 ops:N.ops+k<4611686018427387904
 broken:N.broken+k<4611686018427387904
 nodup:N.plan.Nodup
 few:N.plan.length<=m
namespace Nand
variable {N : Nand} {k m : Nat}
theorem Gd.room (h:N.Gd k m):N.Room:=⟨by have:=h.ops;omega,by have:=h.broken;omega⟩
theorem Gd.less (h:N.Gd k m) {k' m':Nat} (hk:k'<=k) (hm:m<=m'):N.Gd k' m':=⟨h.ok,by have:=h.ops;omega,by have:=h.broken;omega,h.nodup,by have:=h.few;omega⟩
theorem Ok.setBlk (h:N.Ok) (i j:Nat) (B:NBlock) (h1:B.cells.length<=N.pages) (h2:∀c∈B.cells,c.p.length=32) (h3:0<=B.worn/\B.worn<=N.ops):(N.setBlk i j B).Ok:=by
 refine⟨h.geo,h.dead,λa b ha hb=>?_,⟨h.num.1,h.num.2.1,λa b=>?_⟩,h.lft,h.lf2,h.kp⟩
 ·show(if a=i/\b=j then B else N.blk a b).cells.length<=N.pages/\∀c∈(if a=i/\b=j then B else N.blk a b).cells,c.p.length=32;split
  ·exact⟨h1,h2⟩
  ·exact h.cells a b ha hb
 ·show 0<=(if a=i/\b=j then B else N.blk a b).worn/\(if a=i/\b=j then B else N.blk a b).worn<=N.ops;split
  ·exact h3
  ·exact h.num.2.2 a b
theorem Ok.cutN (h:N.Ok):N.cutN.Ok:=by
 have h1:=h.num;have h2:=h.lft;have h3:=h.lf2;refine⟨h.geo,h.dead,h.cells,⟨by show 0<=N.ops+1;omega,h1.2.1,λa b=>⟨(h1.2.2 a b).1,by show _<=N.ops+1;have:=(h1.2.2 a b).2;exact Int.le_trans this (by omega)⟩⟩,λhc=>?_,?_,h.kp⟩
 ·have hc:(if N.cutB then false else N.cuts)=true:=hc;show 0<=(if N.cuts then N.left-1 else N.left)/\(if N.cuts then N.left-1 else N.left)<=9223372036854775807;split at hc
  ·cases hc
  ·rename_i hb;simp[cutB,hc]at hb;have:=h2 hc;rw[if_pos hc];omega
 ·show-9223372036854775807<=(if N.cuts then N.left-1 else N.left)/\(if N.cuts then N.left-1 else N.left)<=9223372036854775807;split
  ·rename_i hc;have:=h2 hc;omega
  ·exact h3
theorem Ok.push (h:N.Ok) (i j:Nat) (c:NCell) (h1:(N.blk i j).cells.length<N.pages) (h2:c.p.length=32) (hi:i<N.dies) (hj:j<N.blocks):(N.push i j c).Ok:=by
 refine h.setBlk i j _ ?_ ?_ (h.num.2.2 i j)
 ·simp;omega
 ·intro x hx;simp only[List.mem_append,List.mem_singleton]at hx;rcases hx with hx | hx
  ·exact(h.cells i j hi hj).2 x hx
  ·rw[hx];exact h2
theorem Ok.plan (h:N.Ok) (l:List A3'):Ok {N with plan:=l}:=⟨h.geo,h.dead,h.cells,h.num,h.lft,h.lf2,h.kp⟩
theorem fillP_len (k:Nat) (p:List UInt8) (h:p.length=32) (hk:k<=32):(fillP k p).length=32:=by simp[fillP,h];omega
theorem Ok.prog (h:N.Ok) (x y z:Int) (pg:List UInt8) (hp:pg.length=32):(N.progN x y z pg).Ok:=by
 unfold progN;split
 ·exact h
 ·rename_i h0;simp only[ne_eq,Decidable.not_not]at h0;obtain⟨_,_,hr⟩:=refuses_zero h0;split
  ·exact⟨h.geo,h.dead,h.cells,⟨h.num.1,by show 0<=N.broken+1;have:=h.num.2.1;omega,h.num.2.2⟩,h.lft,h.lf2,h.kp⟩
  ·rename_i h1;simp only[ne_eq,Decidable.not_not]at h1;have hlt:(N.blk x.toNat y.toNat).cells.length<N.pages:=by omega
   have hi:x.toNat<N.dies:=by omega
   have hj:y.toNat<N.blocks:=by omega
   split
   ·exact h.cutN.push _ _ _ hlt (fillP_len _ _ hp (by have:=h.kp;omega)) hi hj
   ·exact(h.cutN.plan _).push _ _ _ hlt hp hi hj
theorem Gd.prog (h:N.Gd (k+1) m) (x y z:Int) (pg:List UInt8) (hp:pg.length=32):(N.progN x y z pg).Gd k m:=by
 have h1:=h.ops;have h2:=h.broken;refine⟨h.ok.prog x y z pg hp,?_,?_,?_,?_⟩
 ·unfold progN;split
  ·omega
  ·split
   ·show N.ops+_<_;omega
   ·split<;>(show N.ops+1+(k:Int)<_;omega)
 ·unfold progN;split
  ·omega
  ·split
   ·show N.broken+1+(k:Int)<_;omega
   ·split<;>(show N.broken+(k:Int)<_;omega)
 ·unfold progN;split
  ·exact h.nodup
  ·split
   ·exact h.nodup
   ·split
    ·exact h.nodup
    ·exact h.nodup.erase _
 ·have h3:=h.few;unfold progN;split
  ·exact h3
  ·split
   ·exact h3
   ·split
    ·exact h3
    ·show(N.plan.erase _).length<=m;rw[List.length_erase];split<;>omega
theorem Ok.erase (h:N.Ok) (x y:Int):(N.eraseN x y).Ok:=by
 unfold eraseN;dsimp only;split
 ·exact h
 ·rename_i h0;simp only[ne_eq,Decidable.not_not]at h0;obtain⟨_,_,hr⟩:=refuses_zero h0;have hi:x.toNat<N.dies:=by omega
  have hj:y.toNat<N.blocks:=by omega
  have hc:=h.cells _ _ hi hj;split
  ·refine h.cutN.setBlk _ _ _ ?_ ?_ (h.cutN.num.2.2 _ _)
   ·show _<=N.pages;simp;omega
   ·intro c hcm;simp only[List.mem_map,List.mem_append,List.mem_replicate]at hcm;obtain⟨a,ha,rfl⟩:=hcm;rcases ha with ha | ha
    ·exact hc.2 a ha
    ·rw[ha.2];rfl
  ·split
   ·exact h.cutN.setBlk _ _ _ hc.1 hc.2 (h.cutN.num.2.2 _ _)
   ·refine(h.cutN.setBlk _ _ _ (by simp) (by simp) ?_).plan _;show 0<=(N.blk x.toNat y.toNat).worn+1/\(N.blk x.toNat y.toNat).worn+1<=N.ops+1;have:=h.num.2.2 x.toNat y.toNat
    omega
theorem Gd.erase (h:N.Gd (k+1) m) (x y:Int):(N.eraseN x y).Gd k m:=by
 have h1:=h.ops;have h2:=h.broken;refine⟨h.ok.erase x y,?_,?_,?_,?_⟩
 ·unfold eraseN;dsimp only;split
  ·omega
  ·(repeat' split)<;>(show N.ops+1+(k:Int)<_;omega)
 ·unfold eraseN;dsimp only;split
  ·omega
  ·(repeat' split)<;>(show N.broken+(k:Int)<_;omega)
 ·unfold eraseN;dsimp only
  (repeat' split)<;>first | exact h.nodup | exact h.nodup.filter _
 ·have h3:=h.few;unfold eraseN;dsimp only
  (repeat' split)<;>first | exact h3 | exact Nat.le_trans (List.length_filter_le _ _) h3
theorem xorAt_len (p:List UInt8) (n:Nat) (x:UInt8):(xorAt p n x).length=p.length:=by simp[xorAt]
theorem Ok.setCell (h:N.Ok) (x y z:Int) (f:NCell->NCell) (hf:∀c,(f c).p.length=c.p.length) (hi:x.toNat<N.dies) (hj:y.toNat<N.blocks):(N.setCell x y z f).Ok:=by
 have hc:=h.cells _ _ hi hj;refine h.setBlk _ _ _ (by simpa using hc.1) ?_ (h.num.2.2 _ _);intro c hm;obtain⟨i,hi',rfl⟩:=List.mem_iff_getElem.1 hm;simp only[List.length_modify]at hi';rw[List.getElem_modify];split
 ·rw[hf];exact hc.2 _ (List.getElem_mem _)
 ·exact hc.2 _ (List.getElem_mem _)
theorem Ok.fault (h:N.Ok) (kind x y z n xx:Int):(N.fault kind x y z n xx).2.Ok:=by
 unfold Nand.fault;split
 ·exact h
 ·rename_i h0;have hr:0<=x/\x<N.dies/\0<=y/\y<N.blocks:=by simp[C7]at h0;omega
  have hi:x.toNat<N.dies:=by omega
  have hj:y.toNat<N.blocks:=by omega
  have hc:=h.cells _ _ hi hj;split
  ·exact h.plan _
  ·split
   ·exact h.setBlk _ _ _ hc.1 hc.2 (h.num.2.2 _ _)
   ·split
    ·exact h.setCell _ _ _ _ (λ_=>rfl) hi hj
    ·split
     ·exact⟨h.geo,by show(N.dead.set _ _).length=_;rw[List.length_set];exact h.dead,h.cells,h.num,h.lft,h.lf2,h.kp⟩
     ·split
      ·split
       ·exact h
       ·split
        ·exact h
        ·split
         ·exact h
         ·split
          ·exact h
          ·exact h.setCell _ _ _ _ (λc=>xorAt_len _ _ _) hi hj
      ·exact h
theorem Gd.fault (h:N.Gd k m) (kind x y z n xx:Int):(N.fault kind x y z n xx).2.Gd k (m+1):=by
 refine⟨h.ok.fault ..,?_,?_,?_,?_⟩
 ·unfold Nand.fault
  (repeat' split)<;>exact h.ops
 ·unfold Nand.fault
  (repeat' split)<;>exact h.broken
 ·unfold Nand.fault;have h1:∀a,(addP N.plan a).Nodup:=λa=>by
   unfold addP;split
   ·exact h.nodup
   ·rename_i hn;rw[List.nodup_append];exact⟨h.nodup,by simp,λb hb c hc=>by simp at hc;subst hc;rintro rfl;exact hn hb⟩
  (repeat' split)<;>first | exact h.nodup | exact h1 _
 ·unfold Nand.fault;have h3:=h.few;have h1:∀a,(addP N.plan a).length<=m+1:=λa=>by
   unfold addP;split
   ·omega
   ·simp;omega
  (repeat' split)<;>first | exact h1 _ | exact Nat.le_succ_of_le h3
theorem Gd.fault0 (h:N.Gd k m) (kind x y z n xx:Int) (hk:kind≠1):(N.fault kind x y z n xx).2.Gd k m:=by
 have h1:=h.fault kind x y z n xx;refine⟨h1.ok,h1.ops,h1.broken,h1.nodup,?_⟩;unfold Nand.fault;rw[if_neg hk]
 (repeat' split)<;>exact h.few
theorem Gd.cut (h:N.Gd k m) (x kk:Int) (h1: -9223372036854775807<=x) (h2:x<=9223372036854775807):(N.setCut x kk).Gd k m:=by
 unfold setCut;split
 ·exact h
 ·exact⟨⟨h.ok.geo,h.ok.dead,h.ok.cells,h.ok.num,λhc=>by simp at hc;exact⟨hc,h2⟩,⟨h1,h2⟩,by show 0<=min (max kk 0) 32/\min (max kk 0) 32<=32;omega⟩,h.ops,h.broken,h.nodup,h.few⟩
theorem Gd.on (h:N.Gd k m):N.onN.Gd k m:=⟨⟨h.ok.geo,h.ok.dead,h.ok.cells,h.ok.num,λhc=>(by cases hc),h.ok.lf2,h.ok.kp⟩,h.ops,h.broken,h.nodup,h.few⟩
theorem Gd.new (d b p:Nat) (h:y6 d b p=true) (k:Nat) (hk:k<=1000000):(Nand.new d b p).Gd k 0:=
 ⟨⟨h,by simp[Nand.new],λi j _ _=>by simp[Nand.new],⟨by simp[Nand.new],by simp[Nand.new],λi j=>by simp[Nand.new]⟩,λhc=>(by cases hc),by simp[Nand.new],by simp[Nand.new]⟩,by simp[Nand.new];omega,by simp[Nand.new];omega,by simp[Nand.new],by simp[Nand.new]⟩
structure Like (N N':Nand):Prop where
 dies:N'.dies=N.dies
 blocks:N'.blocks=N.blocks
 pages:N'.pages=N.pages
theorem Like.refl (N:Nand):Like N N:=⟨rfl,rfl,rfl⟩
theorem Like.trans {A B C:Nand} (h:Like A B) (h':Like B C):Like A C:=⟨h'.dies.trans h.dies,h'.blocks.trans h.blocks,h'.pages.trans h.pages⟩
theorem like_prog (N:Nand) (x y z:Int) (pg:List UInt8):Like N (N.progN x y z pg):=by
 unfold progN;(repeat' split)<;>exact⟨rfl,rfl,rfl⟩
theorem like_erase (N:Nand) (x y:Int):Like N (N.eraseN x y):=by
 unfold eraseN;dsimp only;(repeat' split)<;>exact⟨rfl,rfl,rfl⟩
theorem like_fault (N:Nand) (kind x y z n xx:Int):Like N (N.fault kind x y z n xx).2:=by
 unfold fault;(repeat' split)<;>exact⟨rfl,rfl,rfl⟩
theorem like_cut (N:Nand) (x kk:Int):Like N (N.setCut x kk):=by
 unfold setCut;(repeat' split)<;>exact⟨rfl,rfl,rfl⟩
end Nand
end Go.Proofs.YtgkpkpbnonmopaaGreat
namespace Go.Proofs.YtgkpkpbnonmopaaGreat
open Go Go.RowKit
theorem a6P (b r m:Int) (l:List En):(R.job b r m l).length=l.length+1:=by simp[R.job]
theorem a2e (b r m:Int) (l:List En) (k:Nat) (h:k<l.length):(R.job b r m l)[k]? =some (G.die m b r (k:Nat),W.sh b r m (l.getD k En.zero)):=by
 rw[R.job,List.getElem?_append_left (by simpa using h)];simp[h]
theorem M4 (b r m:Int) (l:List En):(R.job b r m l)[l.length]? =some (G.parity m b r,W.parS b r m l):=by
 rw[R.job,List.getElem?_append_right (by simp)];simp
theorem b4h {b r m:Int} {l:List En} {k:Nat} {x:Int×Sh} (h:(R.job b r m l)[k]? =some x):(R.job b r m l).drop k=x::(R.job b r m l).drop (k+1):=by
 obtain⟨h1,h2⟩:=List.getElem?_eq_some_iff.1 h;rw[List.drop_eq_getElem_cons h1,h2]
theorem a3f (p:Nat) (N:Nand) (A:Atom) (b r m:Int) (a:Option Addr) (n cap mm:Nat) (l:List En) (hA:Rd A a 19 n (d6 l)) (hl:l.length=n) (hd:∀s∈l,s.data.length=16) (hG:N.Gd 8 mm):
  FP 177 [pp p,iI b,iI r,iI m, .slice a n cap] [i9 p N,A]
  (λv As=>v= .tuple #[iI (R.write N b r m l).2.1,iI (R.write N b r m l).2.2]/\As=[i9 p (R.write N b r m l).1,A]):=by
 have hsb:=I5 m;refine FE [2,0,0,0,0] Tryz.func177 λX F hX=>?_;refine J.qp (a7x b r m A a n cap l hA hl hd) [2] λ_=>?_;refine J.q λbb=>?_;refine J.cond rfl (λh0=>?_) (λh0=>?_)
 ·simp only[Bool.not_eq_true']at h0;refine J.qr [1,2] λ_=>?_;simp only[R.write,h0];exact⟨rfl,rfl⟩
 simp only[Bool.not_eq_false']at h0;have hw:R.write N b r m l=R.go b r (R.job b r m l) N 0:=by rw[R.write,if_pos h0]
 have hB:=h0;simp only[W.parB,Bool.and_eq_true,decide_eq_true_eq,List.all_eq_true]at hB;have hn:n<=7:=by have:=hB.1.1;omega
 refine J.q λb5=>?_;refine J.l (α:=(Nat×Nand×Int)) (λz=>z.1<=n+1/\z.2.1.Gd (n+1-z.1) mm/\R.go b r ((R.job b r m l).drop z.1) z.2.1 z.2.2=R.write N b r m l) (λz=>[si 33 z.1,⟨32,iI ((n:Int)+1),0, .tt⟩,si 14 z.2.2,⟨12,pp (bb 0),4, .tt⟩,⟨0,pp p,2, .tt⟩,si 1 b,si 2 r,si 3 m,sv 4 (.slice a n cap)]) [1] (λz=>[i9 p z.2.1]) (λz=>n+1-z.1) ((0,N,0)) (⟨Nat.zero_le _,hG.less (by dsimp only;omega) (Nat.le_refl _),hw.symm⟩) λz hI=>?_;obtain⟨k,Nk,f⟩:=z;dsimp only at hI ⊢;obtain⟨hI1,hI2,hI3⟩:=hI;refine J.qd (λ_ h1=>?_) λ_ h1=>?_
 ·simp only[decide_eq_true_eq]at h1;have h1:k<n+1:=by omega
  refine J.p (.take true 0 (.take true 1 (.take true 2 (.take false 4 (.alt false 3 ((.of [22,24,31])) (.alt false 5 ((.of [14,24,31])) .non)))))) [7] [3] λ_=>?_;refine J.join (α:=Nat) (λx=>[si 16 (G.parity m b r),⟨17,pp x,5, .tt⟩,si 15 k,si 33 k,⟨32,iI ((n:Int)+1),0, .tt⟩,si 14 f,⟨12,pp (bb 0),4, .tt⟩,⟨0,pp p,2, .tt⟩,si 1 b,si 2 r,si 3 m,sv 4 (.slice a n cap)]) (λx=>[.hp F,i9 p Nk,A, .pt (bb 0) 222 (shL (W.par b r m l)), .pt x 222 (shL (W.par b r m l))]) (λhj=>?_) (λx=>?_)
  ·skip
   refine J.qn 4 λ_=>?_;refine J.alts ?_ ?_
   ·skip
    refine J.qp (V6 m b r) [] λ_=>?_;refine J.qn 1 λb5=>?_;refine J.qn 3 λ_=>?_;exact J.goto [0,1,2,3,4] (hj (b5 0)) ⟨rfl,rfl,rfl,rfl,rfl,rfl,rfl,rfl,rfl,rfl,rfl,rfl,trivial⟩ rfl rfl
   ·skip
    refine J.qn 1 λb5=>?_;refine J.qp (V6 m b r) [] λ_=>?_;refine J.qn 3 λ_=>?_;exact J.goto [0,1,2,3,4] (hj (b5 0)) ⟨rfl,rfl,rfl,rfl,rfl,rfl,rfl,rfl,rfl,rfl,rfl,rfl,trivial⟩ rfl rfl
  obtain⟨⟨d,s⟩,hjob⟩:∃x,(R.job b r m l)[k]? =some x:=⟨_,List.getElem?_eq_getElem (by rw[a6P];omega)⟩;have hsl:s.data.length=16:=by
   by_cases hk:k<l.length
   ·rw[a2e b r m l k hk]at hjob;injection hjob with hjob;injection hjob with _ hjob;rw[<- hjob];refine hd _ ?_;rw[List.getD_eq_getElem?_getD,List.getElem?_eq_getElem hk];exact List.getElem_mem _
   ·rw[show k=l.length by omega,M4]at hjob;injection hjob with hjob;injection hjob with _ hjob;rw[<- hjob];exact V7 (λt ht=>by obtain⟨e,he,rfl⟩:=List.mem_map.1 ht;exact hd e he) _ rfl
  refine J.q λ_=>?_;refine J.join (α:=Unit) (λ_=>[si 16 d,⟨17,pp x,5, .tt⟩,si 33 k,⟨32,iI ((n:Int)+1),0, .tt⟩,si 14 f,⟨12,pp (bb 0),4, .tt⟩,⟨0,pp p,2, .tt⟩,si 1 b,si 2 r,si 3 m,sv 4 (.slice a n cap)]) (λ_=>[.hp F,i9 p Nk,A, .pt (bb 0) 222 (shL (W.par b r m l)), .pt x 222 (shL s)]) (λhj=>?_) (λ_=>?_)
  ·refine J.qd (λ_ h2=>?_) λ_ h2=>?_
   ·simp only[decide_eq_true_eq,Int.ofNat_lt]at h2;have hkl:k<l.length:=by omega
    rw[a2e b r m l k hkl]at hjob;simp only[Option.some.injEq,Prod.mk.injEq]at hjob;obtain⟨hd1,hs1⟩:=hjob;have hget:l[k]? =some (l.getD k En.zero):=by rw[List.getD_eq_getElem?_getD,List.getElem?_eq_getElem hkl,Option.getD_some]
    have hel:(l.getD k En.zero).data.length=16:=hd _ (List.mem_of_getElem? hget);have hok:W.ok b r m (l.getD k En.zero)=true:=hB.2 _ (List.mem_of_getElem? hget);refine J.qp (b0w m b r k (by omega) (by omega)) [] λ_=>?_;refine J.know (p:=∃g o,a=some ⟨g,o,none⟩) (λh' s=>Rd.addr (hA _ (s.get (i:=2) rfl)) (by omega)) λhk=>?_;obtain⟨g,o,rfl⟩:=hk;refine J.q λ_=>?_;refine J.v (enV (l.getD k En.zero)) rfl rfl (λhg a w he hw=>?_) ?_
    ·exact a0v tk rfl rfl he rfl rfl rfl (hA _ (hw.get (i:=2) rfl)) (by omega) (j:=k*19) (by omega) (by have:=E5 l [] k _ hget;rwa [List.append_nil]at this) rfl
    refine J.qp (a7y b r m (l.getD k En.zero) hel) [] λ_=>?_;rw[show W.own b r m (l.getD k En.zero)=s from by rw[W.own,if_pos hok,hs1],hd1];refine J.qn 5 λ_=>?_;exact J.goto [0,1,2,3,4] (hj ()) ⟨rfl,rfl,rfl,rfl,rfl,rfl,rfl,rfl,rfl,rfl,rfl,trivial⟩ rfl rfl
   ·simp only[decide_eq_false_iff_not,Int.ofNat_lt]at h2;have hkl:k=l.length:=by omega
    rw[hkl,M4]at hjob;simp only[Option.some.injEq,Prod.mk.injEq]at hjob;obtain⟨hd1,hs1⟩:=hjob;rw[hd1,show W.par b r m l=s from by rw[W.par,if_pos h0,hs1]]at*;refine J.qn 1 λ_=>?_;exact J.goto [0,1,2,3,4] (hj ()) ⟨rfl,rfl,rfl,rfl,rfl,rfl,rfl,rfl,rfl,rfl,rfl,trivial⟩ rfl rfl
  have hj2:=b4h hjob;rw[hj2]at hI3;rw[R.go]at hI3;have hG0:Nk.Gd (n-k+1) mm:=hI2.less (by omega) (Nat.le_refl _);have hG1:(Nk.progN d b r (J4 s)).Gd (n+1-(k+1)) mm:=(hG0.prog d b r _ (U1 s hsl)).less (by omega) (Nat.le_refl _);refine J.qp (b7i s hsl) [] λ_=>?_;refine J.qp (a0z p Nk hI2.ok hI2.room d b r (J4 s) (U1 s hsl)) [1] λ_=>?_;refine J.qd (λ_ h3=>?_) λ_ h3=>?_
  ·simp only[beq_iff_eq]at h3;rw[if_pos h3]at hI3;refine J.q λ_=>?_;refine J.n ((k+1,Nk.progN d b r (J4 s),f)) (⟨by dsimp only;omega,hG1,hI3⟩) (by dsimp only;omega) [0,1,2,3]
  ·simp only[beq_eq_false_iff_ne,ne_eq]at h3;rw[if_neg h3]at hI3;refine J.qd (λ_ h4=>?_) λ_ h4=>?_
   ·simp only[beq_iff_eq]at h4;rw[if_pos h4]at hI3;refine J.qr [1,2] λ_=>?_;rw[<- hI3];exact⟨rfl,rfl⟩
   ·simp only[beq_eq_false_iff_ne,ne_eq]at h4;rw[if_neg h4]at hI3;refine J.qp (a6O f d) [] λ_=>?_;refine J.q λ_=>?_;refine J.n ((k+1,Nk.progN d b r (J4 s),L.with_ f d)) (⟨by dsimp only;omega,hG1,hI3⟩) (by dsimp only;omega) [0,1,2,3]
 ·simp only[decide_eq_false_iff_not]at h1;have:k=n+1:=by omega
  subst this;rw[List.drop_of_length_le (by rw[a6P];omega),R.go]at hI3;refine J.qd (λ_ h5=>?_) λ_ h5=>?_
  ·simp only[bne_iff_ne,ne_eq]at h5;rw[if_neg h5]at hI3;refine J.qr [1,2] λ_=>?_;rw[<- hI3];exact⟨rfl,rfl⟩
  ·simp only[bne_eq_false_iff_eq]at h5;rw[if_pos h5]at hI3;refine J.qr [1,2] λ_=>?_;rw[<- hI3,h5];exact⟨rfl,rfl⟩
def W.backC (p:Sh) (l:List Sh):Bool:=p.kind==2&&S.may p&& !l.any (alien p)&&decide ((l.length:Int)=G.slots p.mask-1)
def b4q (p:Sh->Bool) (l:List Sh):Int:=match l.findIdx? p with
 | some k=>k
 | none=> -1
theorem b1G {p:Sh->Bool} {l:List Sh} {k:Nat} {x:Sh} (h:l[k]? =some x) (h0:∀i<k,p (l.getD i Sh.zero)=false) (hp:p x=true):l.findIdx? p=some k:=by
 rw[List.findIdx?_eq_some_iff_getElem];obtain⟨h1,h2⟩:=List.getElem?_eq_some_iff.1 h;refine⟨h1,by rw[h2];exact hp,λj hj=>?_⟩;have:=h0 j hj;rw[List.getD_eq_getElem?_getD,List.getElem?_eq_getElem (by omega),Option.getD_some]at this;simp[this]
theorem b1H {p:Sh->Bool} {l:List Sh} (h0:∀i<l.length,p (l.getD i Sh.zero)=false):l.findIdx? p=none:=by
 rw[List.findIdx?_eq_none_iff];intro x hx;obtain⟨i,hi,rfl⟩:=List.mem_iff_getElem.1 hx;have:=h0 i hi
 rwa [List.getD_eq_getElem?_getD,List.getElem?_eq_getElem hi,Option.getD_some]at this
theorem b4p (p:Sh->Bool) (l:List Sh):decide (b4q p l>=0)=l.any p:=by
 unfold b4q;cases h:l.findIdx? p with
 | none=>
  rw[List.findIdx?_eq_none_iff]at h;have:l.any p=false:=by rw[List.any_eq_false];exactλx hx=>by simp[h x hx]
  rw[this];rfl
 | some k=>
  rw[List.findIdx?_eq_some_iff_getElem]at h;obtain⟨h1,h2,_⟩:=h;have:l.any p=true:=List.any_eq_true.2 ⟨l[k],List.getElem_mem _,h2⟩;rw[this];simp
theorem b2p (c:Nat) (cs:List Value) (p:Sh->Bool) (A:Atom) (hcal:n6 Tryz.prog c=true) (l:List Sh) (hf:∀x∈l,Fn Tryz.prog c (shV x::cs) [A] (Ps (.bool (p x)) [A]))
  (a:Option Nat) (n cap:Nat) (hl:l.length=n) (hn:n<=4611686018427387904):FP 271 [slv a n cap,fnC c cs] [c9 222 23 a n cap (m9 l),A]
  (Ps (iI (b4q p l)) [c9 222 23 a n cap (m9 l),A]):=by
 refine FE [0,0] Tryz.func271 λX F hX=>?_;refine J.q λ_=>?_;refine J.l (α:=Nat) (λk=>k<=n/\∀i<k,p (l.getD i Sh.zero)=false) (λk=>[si 8 k,si 7 n,sv 0 (slv a n cap),⟨1,fnC c cs,0, .tt⟩]) [] (λk=>[]) (λk=>n-k) (0) (⟨by omega,by omega⟩) λk hI=>?_;refine J.qd (λ_ h1=>?_) λ_ h1=>?_
 ·simp only[decide_eq_true_eq,Int.ofNat_lt]at h1;cases a with
  | none=>
   refine J.know (λh' s=>(s.get (i:=1) rfl).2.1) λhn0=>?_;omega
  | some g=>
   have hk:l[k]? =some (l.getD k Sh.zero):=by rw[List.getD_eq_getElem?_getD,List.getElem?_eq_getElem (by omega),Option.getD_some]
   refine J.q λ_=>?_;refine J.v (shV (l.getD k Sh.zero)) rfl rfl (λhg a w he hs=>?_) ?_
   ·exact p6 tk rfl rfl he rfl rfl rfl (hs.get (i:=1) rfl) (by rw[show 0+(k:Int).toNat*23=k*23 from by omega];have:=a0G l [] k _ hk;rwa [List.append_nil]at this) rfl
   refine J.q λ_=>?_;refine J.call hX hcal (hf (l.getD k Sh.zero) (List.mem_of_getElem? hk)) [2] 0 rfl rfl rfl rfl (by(repeat' (first | exact Conj.nil | refine Conj.cons ?_ ?_ | omega | exact hq0 | (simpa using hq0) | (exactλh=>h) | exact rfl | (intro hq;have hq0:=hq;try simp only[Bool.and_eq_true,Bool.or_eq_true,decide_eq_true_eq,Bool.not_eq_true',decide_eq_false_iff_not]at hq) | (simp;done) | (simp;omega) | decide))) rfl rfl (λ_=>rfl) ?_;refine cpq ⟨_,rfl,trivial,?_⟩;refine J.qd (λ_ h2=>?_) λ_ h2=>?_
   ·refine J.qr [1,2] λ_=>?_;exact⟨by rw[b4q,b1G hk hI.2 h2],rfl⟩
   ·refine J.q λ_=>?_;refine J.nx (k+1) (⟨by omega,λi hi=>by
     rcases Nat.lt_succ_iff_lt_or_eq.1 hi with h3 | h3
     ·exact hI.2 i h3
     ·rw[h3];exact h2⟩) (by omega) (λ_ s=>s)
 ·simp only[decide_eq_false_iff_not,Int.ofNat_lt]at h1;refine J.qr [1,2] λ_=>?_;exact⟨by rw[b4q,b1H (λi hi=>hI.2 i (by omega))],rfl⟩
theorem a7t (c:Nat) (cs:List Value) (p:Sh->Bool) (A:Atom) (hcal:n6 Tryz.prog c=true) (l:List Sh) (hf:∀x∈l,Fn Tryz.prog c (shV x::cs) [A] (Ps (.bool (p x)) [A]))
  (a:Option Nat) (n cap:Nat) (hl:l.length=n) (hn:n<=4611686018427387904):FP 242 [slv a n cap,fnC c cs] [c9 222 23 a n cap (m9 l),A]
  (Ps (.bool (l.any p)) [c9 222 23 a n cap (m9 l),A]):=by
 refine FE [0,0] Tryz.func242 λX F hX=>?_;refine J.qp (b2p c cs p A hcal l hf a n cap hl hn) [1,2] λ_=>?_;refine J.qr [1,2] λ_=>?_;exact⟨by rw[<- b4p],rfl⟩
theorem a9C (l:List Sh):∀u∈m9 l,u.oneCell'=true:=by
 intro u hu;simp only[m9,List.mem_flatMap]at hu;obtain⟨s,_,hu⟩:=hu;simp only[shL,List.mem_cons,List.not_mem_nil,or_false]at hu;rcases hu with rfl | rfl | rfl | rfl | rfl | rfl | rfl | rfl | rfl | rfl | rfl | rfl | rfl | rfl | rfl | rfl | rfl | rfl | rfl | rfl | rfl | rfl | rfl<;>rfl
theorem Z7 (a:Option Nat) (n cap:Nat) (l:List Sh) (hl:l.length=n) (hn:n<=1000000):FP 246 [slv a n cap] [c9 222 23 a n cap (m9 l)]
  (λv As=>∃a' c',v=slv a' n c'/\As=[c9 222 23 a n cap (m9 l),c9 222 23 a' n c' (m9 l)]):=by
 refine FE [0] Tryz.func246 λX F hX=>?_;cases a with
 | none=>
  refine J.know (λh' s=>(s.get (i:=1) rfl).2) λhn0=>?_;obtain⟨rfl,rfl⟩:=hn0;have:l=[]:=List.eq_nil_of_length_eq_zero hl;subst this;refine J.qT λ_=>?_;refine J.turn1 [] rfl (As:=[c9 222 23 none 0 0 (m9 [])]) (λh s=>Sep.one ⟨rfl,rfl,rfl⟩) rfl ?_;refine J.qr [1,2] λ_=>?_;exact⟨none,0,rfl,rfl⟩
 | some g=>
  refine J.qF λ_=>?_;refine J.qn 5 λbb=>?_;refine J.closeOwn (e:=222) (size:=23) (n:=0) (cap:=0) (xs:=[]) 2 rfl rfl rfl (Nat.le_refl _) (Nat.zero_le _) rfl rfl rfl ?_;refine J.q λ_=>?_;refine J.appendR hX tk (a:=some (bb 0)) (n:=0) (cap:=0) (xs:=[]) (oo:=0) (Ay:=c9 222 23 (some g) n cap (m9 l)) 2 1 0 rfl rfl rfl rfl rfl rfl rfl rfl rfl rfl (I0 _ _ (some g) _ _ _) rfl rfl rfl rfl (a9C l) ?_ ?_ (λ_=>rfl) λa' c'=>⟨_,rfl,trivial,?_⟩
  ·simp only[maxLen];omega
  ·omega
  rw[Nat.zero_add n,List.nil_append];refine J.qr [1,2] λ_=>?_;exact⟨a',c',rfl,rfl⟩
theorem b5o (b2:Nat) (p s:Sh) (h:s.data.length=16):FP 243 [shV s,pp b2] [.pt b2 222 (shL p)] (Ps (.bool (W.alien p s)) [.pt b2 222 (shL p)]):=by
 refine FE [0,2] Tryz.func243 λX F hX=>?_;refine J.q λ_=>?_;refine J.gcase hX rfl rfl rfl trivial (λhb=>?_) (λhb=>?_)
 ·have hb2:(s.kind !=1)=false:=by rwa [Bool.not_eq_true']at hb
  rw[hb2];refine J.qp (a8p s h) [] λ_=>?_;refine J.qr [1] λ_=>?_;exact⟨by simp only[W.alien];rw[hb2],rfl⟩
 ·have hb2:(s.kind !=1)=true:=by rwa [Bool.not_eq_false']at hb
  rw[hb2];refine J.q λ_=>?_;refine J.v (.bool false) rfl rfl (λhg a w he hw=>by simp[G.on]at hg) ?_;refine J.qr [1] λ_=>?_;exact⟨by simp only[W.alien];rw[hb2];simp,rfl⟩
theorem b3v {l:List Sh} (hd:∀s∈l,s.data.length=16):(W.over l).1.length=16:=V7 hd _ rfl
theorem b2x (p:Sh) (hp:p.data.length=16) (a:Option Nat) (n cap:Nat) (l:List Sh) (hl:l.length=n) (hn:n<=100) (hd:∀s∈l,s.data.length=16):FP 198 [shV p,slv a n cap] [c9 222 23 a n cap (m9 l)]
  (Ps (.tuple #[enV (W.back p l), .bool (W.backB p l)]) [c9 222 23 a n cap (m9 l)]):=by
 have hsb:=I5 p.mask;have hdp:∀s∈l++[p],s.data.length=16:=λs hs=>by
  rw[List.mem_append,List.mem_singleton]at hs;rcases hs with hs | rfl
  ·exact hd s hs
  ·exact hp
 have key:∀(b:Bool),W.backB p l=b->W.back p l=if b then W.backS p l else En.zero:=λb hb=>by rw[W.back,hb]
 refine FE [0,0] Tryz.func198 λX F hX=>?_;refine J.q λbb=>?_;refine J.ca hX (by kernel_rfl) (a7t 243 [pp (bb 0)] (W.alien p) _ (by kernel_rfl) l (λx hx=>b5o (bb 0) p x (hd x hx)) a n cap hl (by omega)) [1,2] 0 rfl rfl rfl rfl rfl rfl (λ_=>rfl) ?_;refine cpq ⟨_,rfl,trivial,?_⟩;refine J.q λ_=>?_;refine J.join (α:=Unit) (λ_=>[sv 34 (.bool (!W.backC p l)),sv 1 (slv a n cap),sv 5 (.bool false),⟨2,pp (bb 0),3, .tt⟩,⟨4,pp (bb (0+1)),4, .tt⟩]) (λ_=>[.hp F,c9 222 23 a n cap (m9 l), .pt (bb 0) 222 (shL p), .pt (bb (0+1)) 132 (enL En.zero)]) (λhj=>?_) (λ_=>?_)
 ·have hnil:∀b:Bool,(!W.backC p l)=b->∀x:Bool,b=x->(!W.backC p l)=x:=λb h x e=>h.trans e;have hC:(!W.backC p l)=((p.kind !=2)|| !S.may p||l.any (W.alien p)||((n:Int) !=G.slots p.mask-1)):=by
   simp only[W.backC,Bool.not_and,Bool.not_not,hl,bne];congr 1
  refine J.gcase hX rfl rfl rfl trivial (λhb=>?_) (λhb=>?_)
  ·have hb2:(p.kind !=2)=false:=by rwa [Bool.not_eq_true']at hb
   rw[hb2]at hC ⊢;refine J.qp (a8p p hp) [] λ_=>?_;refine J.q λ_=>?_;refine J.gcase hX rfl rfl rfl trivial (λhb=>?_) (λhb=>?_)
   ·have hb3:(false|| !S.may p||l.any (W.alien p))=false:=by rwa [Bool.not_eq_true']at hb
    rw[hb3]at hC ⊢;refine J.qp (L6 p.mask) [] λ_=>?_;refine J.q λ_=>?_;exact J.goto [0,1,2,3] (hj ()) ⟨congrArg (λb=>some (Value.bool b)) hC.symm,rfl,rfl,rfl,rfl,trivial⟩ rfl rfl
   ·have hb3:(false|| !S.may p||l.any (W.alien p))=true:=by rwa [Bool.not_eq_false']at hb
    rw[hb3]at hC ⊢;refine J.q λ_=>?_;refine J.v (iI 0) rfl rfl (λhg a w he hw=>by simp[G.on]at hg) ?_;refine J.q λ_=>?_;exact J.goto [0,1,2,3] (hj ()) ⟨congrArg (λb=>some (Value.bool b)) (show _= !W.backC p l from by rw[hC];rfl),rfl,rfl,rfl,rfl,trivial⟩ rfl rfl
  ·have hb2:(p.kind !=2)=true:=by rwa [Bool.not_eq_false']at hb
   rw[hb2]at hC ⊢;refine J.q λ_=>?_;refine J.v (.bool false) rfl rfl (λhg a w he hw=>by simp[G.on]at hg) ?_;refine J.q λ_=>?_;refine J.gcase hX rfl rfl rfl trivial (λhb=>by simp at hb) (λhb=>?_);refine J.q λ_=>?_;refine J.v (iI 0) rfl rfl (λhg a w he hw=>by simp[G.on]at hg) ?_;refine J.q λ_=>?_;exact J.goto [0,1,2,3] (hj ()) ⟨congrArg (λb=>some (Value.bool b)) (show _= !W.backC p l from by rw[hC];rfl),rfl,rfl,rfl,rfl,trivial⟩ rfl rfl
 refine J.qd (λ_ h1=>?_) λ_ h1=>?_
 ·have hB:W.backB p l=false:=by
   have:W.backB p l=(W.backC p l&&W.ok p.block p.row p.mask (W.backS p l)):=rfl;rw[this,show W.backC p l=false from by simpa using h1];rfl
  refine J.qr [1] λ_=>?_;exact⟨by rw[key _ hB,hB];rfl,rfl⟩
 have h2:W.backC p l=true:=by simpa using h1
 have hB:W.backB p l=W.ok p.block p.row p.mask (W.backS p l):=by
  have:W.backB p l=(W.backC p l&&W.ok p.block p.row p.mask (W.backS p l)):=rfl;rw[this,h2];rfl
 refine J.p (.take true 0 (.take false 2 (.alt false 1 ((.alt false 3 ((.alt false 4 ((.alt false 5 ((.of [24,28,32,38,42,44])) (.alt false 9 ((.of [22,24,28,32,42,44])) .non))) (.alt false 9 ((.of [18,22,24,28,32,42,44])) .non))) (.alt false 9 ((.of [14,18,22,24,28,32,42,44])) .non))) (.alt false 3 ((.alt false 1 ((.alt false 4 ((.alt false 5 ((.of [24,28,32,38,42,44])) (.alt false 9 ((.of [22,24,28,32,42,44])) .non))) (.alt false 9 ((.of [18,22,24,28,32,42,44])) .non))) (.alt false 9 ((.of [6,18,22,24,28,32,42,44])) .non))) (.alt false 9 ((.alt false 1 ((.of [14,18,22,24,28,32,42,44])) (.alt false 3 ((.of [6,18,22,24,28,32,42,44])) .non))) .non))))) [11] [2] λ_=>?_;refine J.join (α:=Nat) (λx=>[⟨7,pp x,5, .tt⟩,⟨8, .int .u64 (W.over (l++[p])).2,0, .tt⟩,⟨2,pp (bb 0),3, .tt⟩,⟨4,pp (bb (0+1)),4, .tt⟩]) (λx=>[.hp F,c9 222 23 a n cap (m9 l), .pt (bb 0) 222 (shL p), .pt (bb (0+1)) 132 (enL En.zero), .pt x 29 (n7 (W.over (l++[p])).1)]) (λhj=>?_) (λx=>?_)
 ·skip
  refine J.qn 2 λ_=>?_;refine J.alts ?_ (J.alts ?_ ?_)
  ·skip
   refine J.qc (Z7 a n cap l hl (by omega)) [1] λ_=>?_;rintro v As ⟨a1,c1,rfl,rfl⟩;refine⟨_,rfl,⟨rfl,trivial⟩,?_⟩;refine J.alts ?_ ?_
   ·skip
    refine J.qn 1 λb3=>?_;refine J.alts ?_ ?_
    ·skip
     refine J.append hX tk 4 5 0 rfl rfl rfl rfl rfl rfl rfl rfl rfl rfl rfl rfl rfl rfl rfl rfl ?_ ?_ (λ_=>rfl) λa2 c2=>⟨_,(congrArg (λz=>p9 _ 4 (c9 _ _ _ _ _ z)) (y0 l p).symm).trans rfl,⟨rfl,trivial⟩,?_⟩
     ·simp only[maxLen];omega
     ·omega
     refine J.alts ?_ ?_
     ·skip
      refine J.qp (P6 a2 (n+1) c2 (l++[p]) (by simp[hl]) (by omega) hdp) [4] λ_=>?_;refine J.qn 3 λ_=>?_;refine J.qn 1 λb9=>?_;refine J.qn 3 λ_=>?_;exact J.goto [0,1,2,3,6] (hj (b9 0)) ⟨rfl,rfl,rfl,rfl,trivial⟩ rfl rfl
     ·skip
      refine J.qn 1 λb9=>?_;refine J.qp (P6 a2 (n+1) c2 (l++[p]) (by simp[hl]) (by omega) hdp) [4] λ_=>?_;refine J.qn 6 λ_=>?_;exact J.goto [0,1,2,3,6] (hj (b9 0)) ⟨rfl,rfl,rfl,rfl,trivial⟩ rfl rfl
    ·skip
     refine J.qn 1 λb9=>?_;refine J.append hX tk 4 5 0 rfl rfl rfl rfl rfl rfl rfl rfl rfl rfl rfl rfl rfl rfl rfl rfl ?_ ?_ (λ_=>rfl) λa2 c2=>⟨_,(congrArg (λz=>p9 _ 4 (c9 _ _ _ _ _ z)) (y0 l p).symm).trans rfl,⟨rfl,trivial⟩,?_⟩
     ·simp only[maxLen];omega
     ·omega
     refine J.qp (P6 a2 (n+1) c2 (l++[p]) (by simp[hl]) (by omega) hdp) [4] λ_=>?_;refine J.qn 6 λ_=>?_;exact J.goto [0,1,2,3,6] (hj (b9 0)) ⟨rfl,rfl,rfl,rfl,trivial⟩ rfl rfl
   ·skip
    refine J.qn 1 λb9=>?_;refine J.qn 1 λb3=>?_;refine J.append hX tk 4 6 0 rfl rfl rfl rfl rfl rfl rfl rfl rfl rfl rfl rfl rfl rfl rfl rfl ?_ ?_ (λ_=>rfl) λa2 c2=>⟨_,(congrArg (λz=>p9 _ 4 (c9 _ _ _ _ _ z)) (y0 l p).symm).trans rfl,⟨rfl,trivial⟩,?_⟩
    ·simp only[maxLen];omega
    ·omega
    refine J.qp (P6 a2 (n+1) c2 (l++[p]) (by simp[hl]) (by omega) hdp) [4] λ_=>?_;refine J.qn 6 λ_=>?_;exact J.goto [0,1,2,3,5] (hj (b9 0)) ⟨rfl,rfl,rfl,rfl,trivial⟩ rfl rfl
  ·skip
   refine J.qn 1 λb3=>?_;refine J.alts ?_ ?_
   ·skip
    refine J.qc (Z7 a n cap l hl (by omega)) [1] λ_=>?_;rintro v As ⟨a1,c1,rfl,rfl⟩;refine⟨_,rfl,⟨rfl,trivial⟩,?_⟩;refine J.alts ?_ ?_
    ·skip
     refine J.append hX tk 5 4 0 rfl rfl rfl rfl rfl rfl rfl rfl rfl rfl rfl rfl rfl rfl rfl rfl ?_ ?_ (λ_=>rfl) λa2 c2=>⟨_,(congrArg (λz=>p9 _ 5 (c9 _ _ _ _ _ z)) (y0 l p).symm).trans rfl,⟨rfl,trivial⟩,?_⟩
     ·simp only[maxLen];omega
     ·omega
     refine J.alts ?_ ?_
     ·skip
      refine J.qp (P6 a2 (n+1) c2 (l++[p]) (by simp[hl]) (by omega) hdp) [5] λ_=>?_;refine J.qn 3 λ_=>?_;refine J.qn 1 λb9=>?_;refine J.qn 3 λ_=>?_;exact J.goto [0,1,2,3,6] (hj (b9 0)) ⟨rfl,rfl,rfl,rfl,trivial⟩ rfl rfl
     ·skip
      refine J.qn 1 λb9=>?_;refine J.qp (P6 a2 (n+1) c2 (l++[p]) (by simp[hl]) (by omega) hdp) [5] λ_=>?_;refine J.qn 6 λ_=>?_;exact J.goto [0,1,2,3,6] (hj (b9 0)) ⟨rfl,rfl,rfl,rfl,trivial⟩ rfl rfl
    ·skip
     refine J.qn 1 λb9=>?_;refine J.append hX tk 5 4 0 rfl rfl rfl rfl rfl rfl rfl rfl rfl rfl rfl rfl rfl rfl rfl rfl ?_ ?_ (λ_=>rfl) λa2 c2=>⟨_,(congrArg (λz=>p9 _ 5 (c9 _ _ _ _ _ z)) (y0 l p).symm).trans rfl,⟨rfl,trivial⟩,?_⟩
     ·simp only[maxLen];omega
     ·omega
     refine J.qp (P6 a2 (n+1) c2 (l++[p]) (by simp[hl]) (by omega) hdp) [5] λ_=>?_;refine J.qn 6 λ_=>?_;exact J.goto [0,1,2,3,6] (hj (b9 0)) ⟨rfl,rfl,rfl,rfl,trivial⟩ rfl rfl
   ·skip
    refine J.qn 1 λb9=>?_;refine J.qc (Z7 a n cap l hl (by omega)) [1] λ_=>?_;rintro v As ⟨a1,c1,rfl,rfl⟩;refine⟨_,rfl,⟨rfl,trivial⟩,?_⟩;refine J.append hX tk 6 4 0 rfl rfl rfl rfl rfl rfl rfl rfl rfl rfl rfl rfl rfl rfl rfl rfl ?_ ?_ (λ_=>rfl) λa2 c2=>⟨_,(congrArg (λz=>p9 _ 6 (c9 _ _ _ _ _ z)) (y0 l p).symm).trans rfl,⟨rfl,trivial⟩,?_⟩
    ·simp only[maxLen];omega
    ·omega
    refine J.qp (P6 a2 (n+1) c2 (l++[p]) (by simp[hl]) (by omega) hdp) [6] λ_=>?_;refine J.qn 6 λ_=>?_;exact J.goto [0,1,2,3,5] (hj (b9 0)) ⟨rfl,rfl,rfl,rfl,trivial⟩ rfl rfl
  ·skip
   refine J.qn 1 λb9=>?_;refine J.alts ?_ ?_
   ·skip
    refine J.qc (Z7 a n cap l hl (by omega)) [1] λ_=>?_;rintro v As ⟨a1,c1,rfl,rfl⟩;refine⟨_,rfl,⟨rfl,trivial⟩,?_⟩;refine J.qn 1 λb3=>?_;refine J.append hX tk 5 6 0 rfl rfl rfl rfl rfl rfl rfl rfl rfl rfl rfl rfl rfl rfl rfl rfl ?_ ?_ (λ_=>rfl) λa2 c2=>⟨_,(congrArg (λz=>p9 _ 5 (c9 _ _ _ _ _ z)) (y0 l p).symm).trans rfl,⟨rfl,trivial⟩,?_⟩
    ·simp only[maxLen];omega
    ·omega
    refine J.qp (P6 a2 (n+1) c2 (l++[p]) (by simp[hl]) (by omega) hdp) [5] λ_=>?_;refine J.qn 6 λ_=>?_;exact J.goto [0,1,2,3,4] (hj (b9 0)) ⟨rfl,rfl,rfl,rfl,trivial⟩ rfl rfl
   ·skip
    refine J.qn 1 λb3=>?_;refine J.qc (Z7 a n cap l hl (by omega)) [1] λ_=>?_;rintro v As ⟨a1,c1,rfl,rfl⟩;refine⟨_,rfl,⟨rfl,trivial⟩,?_⟩;refine J.append hX tk 6 5 0 rfl rfl rfl rfl rfl rfl rfl rfl rfl rfl rfl rfl rfl rfl rfl rfl ?_ ?_ (λ_=>rfl) λa2 c2=>⟨_,(congrArg (λz=>p9 _ 6 (c9 _ _ _ _ _ z)) (y0 l p).symm).trans rfl,⟨rfl,trivial⟩,?_⟩
    ·simp only[maxLen];omega
    ·omega
    refine J.qp (P6 a2 (n+1) c2 (l++[p]) (by simp[hl]) (by omega) hdp) [6] λ_=>?_;refine J.qn 6 λ_=>?_;exact J.goto [0,1,2,3,4] (hj (b9 0)) ⟨rfl,rfl,rfl,rfl,trivial⟩ rfl rfl

 obtain⟨mm,hm1,hm2⟩:=a1p (l++[p]) (zeros16,0) ⟨by decide,by decide⟩;have hm1:(W.over (l++[p])).2=(mm:Int):=hm1;have hS:W.backS p l=⟨(mm/1099511627776 % 65536:Nat),(mm % 1099511627776:Nat),(mm/72057594037927936:Nat),(W.over (l++[p])).1⟩:=by
  have hx:mm=(W.over (l++[p])).2.toNat:=by rw[hm1];rfl
  rw[W.backS,<- hx]
 rw[hm1];refine J.qp (b7U mm hm2) [] λ_=>?_;refine J.qp (a7y p.block p.row p.mask ⟨(mm/1099511627776 % 65536:Nat),(mm % 1099511627776:Nat),(mm/72057594037927936:Nat),(W.over (l++[p])).1⟩ (b3v hdp)) [] λ_=>?_;rw[<- hS,<- hB];refine J.qd (λ_ h3=>?_) λ_ h3=>?_
 ·simp only[Bool.not_eq_true']at h3;refine J.qr [1] λ_=>?_;exact⟨by rw[key _ h3,h3];rfl,rfl⟩
 ·simp only[Bool.not_eq_false']at h3;refine J.qr [1] λ_=>?_;exact⟨by rw[key _ h3,h3,if_pos rfl,hS];rfl,rfl⟩
def y8 (l:List Bool):List Value:=l.map .bool
theorem a9J (l:List Bool):(y8 l).length=l.length:=by simp[y8]
theorem a8J (l:List Bool) (x:Bool):y8 (l++[x])=y8 l++[.bool x]:=by simp[y8]
theorem R4 {l:List Bool} {k:Nat} {x:Bool} (h:l[k]? =some x):(y8 l)[k]? =some (.bool x):=by simp[y8,h]
def fdL (a1:Option Nat) (c1:Nat) (a2:Option Nat) (c2 n:Nat) (s:Sh) (w:Bool):List Value:=[slv a1 n c1,slv a2 n c2,byC s.data 0,byC s.data 1,byC s.data 2,byC s.data 3,byC s.data 4,byC s.data 5,byC s.data 6,byC s.data 7,byC s.data 8,byC s.data 9,byC s.data 10,byC s.data 11,byC s.data 12,byC s.data 13,byC s.data 14,byC s.data 15,
 iI s.role,iI s.lpn,iI s.seq,iI s.kind,iI s.block,iI s.row,iI s.mask, .bool w]
theorem a6B (s:Sh):FP 139 [shV s] [] (Ps (enV s.en) []):=by
 refine FE [0] Tryz.func139 λX F hX=>?_;exact J.qx []
theorem b0f (p:Nat) (N:Nand) (hN:N.Ok) (hR:N.Room) (b r m d:Int) (b1 b2 b3 b4:Nat):FP 197 [iI d,pp b1,pp b2,pp b3,pp b4] [i9 p N, .pt b1 37 [pp p], .pt b2 3 [iI b], .pt b3 3 [iI r], .pt b4 3 [iI m]]
  (Ps (.tuple #[shV (R.one N b r m d).1, .bool (R.one N b r m d).2]) [i9 p N, .pt b1 37 [pp p], .pt b2 3 [iI b], .pt b3 3 [iI r], .pt b4 3 [iI m]]):=by
 refine FE [0,3,4,5,6] Tryz.func197 λX F hX=>?_;refine J.q λb2=>?_;refine J.q λb3=>?_;refine J.cb (a1Z p N hN hR d b r) [1] ?_;refine cpq ⟨_,rfl,trivial,?_⟩;refine J.q λb4=>?_;refine J.plan (.of [1,4,8,12,16,21,25,28,32,38,40]) [10] [5,7] (by rw[hX.hP];kernel_rfl) (by kernel_rfl) ?_;exact J.qx [1,2,3,4,5]
theorem a5z (N:Nand) (b r m:Int) (k:Nat):R.ones N b r m (k+1)=R.ones N b r m k++[R.one N b r m (G.die m b r (k:Nat))]:=by simp[R.ones,List.range_succ]
theorem b3h (p:Nat) (N:Nand) (hN:N.Ok) (hR:N.Room) (b r m:Int):FP 138 [pp p,iI b,iI r,iI m] [i9 p N]
  (λv As=>∃a1 c1 a2 c2,v= .agg (fdL a1 c1 a2 c2 (G.slots m).toNat (R.look N b r m).parity (R.look N b r m).whole).toArray/\As=[i9 p N,c9 222 23 a1 (G.slots m).toNat c1 (m9 (R.look N b r m).slots),c9 4 1 a2 (G.slots m).toNat c2 (y8 (R.look N b r m).good)]):=by
 have hsb:=I5 m;obtain⟨P,hP⟩:∃P,R.one N b r m (G.parity m b r)=P:=⟨_,rfl⟩;refine FE [2,0,0,0] Tryz.func138 λX F hX=>?_;refine J.q λbb=>?_;refine J.cb (V6 m b r) [] ?_;refine cpq ⟨_,rfl,trivial,?_⟩;refine J.q λb8=>?_;refine J.cb (b0f p N hN hR b r m (G.parity m b r) (bb 0) (bb 1) (bb 2) (bb 3)) [1,2,3,4,5] ?_;refine cpq ⟨_,rfl,trivial,?_⟩;rw[hP];refine J.qp (L6 m) [] λ_=>?_;refine J.turn1 [] rfl (As:=[c9 222 23 none 0 0 (m9 []),c9 4 1 none 0 0 (y8 [])]) (λh s=>⟨λ_=>0,λi A hA=>by
  match i,hA with
  | 0,hA=>simp at hA;subst hA;exact⟨rfl,rfl,rfl⟩
  | 1,hA=>simp at hA;subst hA;exact⟨rfl,rfl,rfl⟩
  | k+2,hA=>simp at hA⟩) rfl ?_
 refine J.q λ_=>?_;refine J.l (α:=(Nat×Option Nat×Nat×Option Nat×Nat)) (λz=>z.1<=(G.slots m).toNat) (λz=>[si 28 z.1,si 27 (G.slots m),⟨9,fnC 197 [pp (bb 0),pp (bb 1),pp (bb 2),pp (bb 3)],0, .tt⟩,⟨4,pp (bb 0),3, .tt⟩,⟨5,pp (bb 1),4, .tt⟩,⟨6,pp (bb 2),5, .tt⟩,⟨7,pp (bb 3),6, .tt⟩,⟨8,pp (bb 4),7, .tt⟩,⟨10,pp (bb 5),8, .tt⟩]) [7,8,9] (λz=>[.pt (bb 5) 224 (fdL z.2.1 z.2.2.1 z.2.2.2.1 z.2.2.2.2 z.1 P.1 P.2),c9 222 23 z.2.1 z.1 z.2.2.1 (m9 ((R.ones N b r m z.1).map (·.1))),c9 4 1 z.2.2.2.1 z.1 z.2.2.2.2 (y8 ((R.ones N b r m z.1).map (·.2)))]) (λz=>(G.slots m).toNat-z.1) ((0,none,0,none,0)) (Nat.zero_le _) λz hI=>?_;obtain⟨k,a1,c1,a2,c2⟩:=z;dsimp only at hI ⊢;refine J.qd (λ_ h1=>?_) λ_ h1=>?_
 ·simp only[decide_eq_true_eq]at h1;have hS1:m9 ((R.ones N b r m k).map (·.1))++shL (R.one N b r m (G.die m b r k)).1=m9 ((R.ones N b r m (k+1)).map (·.1)):=by rw[a5z,List.map_append,<- y0];rfl
  have hS2:y8 ((R.ones N b r m k).map (·.2))++[.bool (R.one N b r m (G.die m b r k)).2]=y8 ((R.ones N b r m (k+1)).map (·.2)):=by rw[a5z,List.map_append,<- a8J];rfl
  refine J.qp (b0w m b r k (by omega) (by omega)) [] λ_=>?_;refine J.qp (b0f p N hN hR b r m (G.die m b r k) (bb 0) (bb 1) (bb 2) (bb 3)) [1,2,3,4,5] λ_=>?_;refine J.p (.take true 0 (.take false 1 (.take false 2 (.take true 5 (.take false 6 (.take true 7 (.alt false 3 ((.alt false 4 ((.of [40,34,38,47,48,55])) (.alt false 8 ((.of [18,40,38,47,48,55])) .non))) (.alt false 8 ((.of [14,18,40,38,47,48,55])) .non)))))))) [11,12,13] [7,10] λ_=>?_;refine J.join (α:=Option Nat×Nat×Option Nat×Nat) (λx=>[si 28 k,si 27 (G.slots m),⟨9,fnC 197 [pp (bb 0),pp (bb 1),pp (bb 2),pp (bb 3)],0, .tt⟩,⟨4,pp (bb 0),3, .tt⟩,⟨5,pp (bb 1),4, .tt⟩,⟨6,pp (bb 2),5, .tt⟩,⟨7,pp (bb 3),6, .tt⟩,⟨8,pp (bb 4),7, .tt⟩,⟨10,pp (bb 5),8, .tt⟩]) (λx=>[.hp F,i9 p N, .pt (bb 0) 37 [pp p], .pt (bb 1) 3 [iI b], .pt (bb 2) 3 [iI r], .pt (bb 3) 3 [iI m], .pt (bb 4) 224 (fdL none 0 none 0 0 Sh.zero false), .pt (bb 5) 224 (fdL x.1 x.2.1 x.2.2.1 x.2.2.2 (k+1) P.1 P.2),c9 222 23 x.1 (k+1) x.2.1 (m9 ((R.ones N b r m (k+1)).map (·.1))),c9 4 1 x.2.2.1 (k+1) x.2.2.2 (y8 ((R.ones N b r m (k+1)).map (·.2)))]) (λhj=>?_) (λx=>?_)
  ·skip
   refine J.qn 6 λ_=>?_;refine J.alts ?_ ?_
   ·skip
    refine J.qn 1 λb3=>?_;refine J.alts ?_ ?_
    ·skip
     refine J.append hX tk 8 11 0 rfl rfl rfl rfl rfl rfl rfl rfl rfl rfl rfl rfl rfl rfl rfl rfl ?_ ?_ (λ_=>rfl) λa3 c3=>⟨_,(congrArg (λz=>p9 _ 8 (c9 _ _ _ _ _ z)) hS1).trans rfl,⟨rfl,rfl,trivial⟩,?_⟩
     ·simp only[maxLen];omega
     ·omega
     refine J.qn 1 λ_=>?_;refine J.qn 1 λb8=>?_;refine J.append hX tk 9 12 0 rfl rfl rfl rfl rfl rfl rfl rfl rfl rfl rfl rfl rfl rfl rfl rfl ?_ ?_ (λ_=>rfl) λa4 c4=>⟨_,(congrArg (λz=>p9 _ 9 (c9 _ _ _ _ _ z)) hS2).trans rfl,⟨rfl,rfl,trivial⟩,?_⟩
     ·simp only[maxLen];omega
     ·omega
     refine J.qn 4 λ_=>?_;exact J.goto [0,1,2,3,4,5,6,7,8,9] (hj (a3,c3,a4,c4)) ⟨rfl,rfl,rfl,rfl,rfl,rfl,rfl,rfl,rfl,trivial⟩ rfl rfl
    ·skip
     refine J.qn 1 λb8=>?_;refine J.append hX tk 8 11 0 rfl rfl rfl rfl rfl rfl rfl rfl rfl rfl rfl rfl rfl rfl rfl rfl ?_ ?_ (λ_=>rfl) λa3 c3=>⟨_,(congrArg (λz=>p9 _ 8 (c9 _ _ _ _ _ z)) hS1).trans rfl,⟨rfl,rfl,trivial⟩,?_⟩
     ·simp only[maxLen];omega
     ·omega
     refine J.qn 1 λ_=>?_;refine J.append hX tk 9 12 0 rfl rfl rfl rfl rfl rfl rfl rfl rfl rfl rfl rfl rfl rfl rfl rfl ?_ ?_ (λ_=>rfl) λa4 c4=>⟨_,(congrArg (λz=>p9 _ 9 (c9 _ _ _ _ _ z)) hS2).trans rfl,⟨rfl,rfl,trivial⟩,?_⟩
     ·simp only[maxLen];omega
     ·omega
     refine J.qn 4 λ_=>?_;exact J.goto [0,1,2,3,4,5,6,7,8,9] (hj (a3,c3,a4,c4)) ⟨rfl,rfl,rfl,rfl,rfl,rfl,rfl,rfl,rfl,trivial⟩ rfl rfl
   ·skip
    refine J.qn 1 λb8=>?_;refine J.qn 1 λb3=>?_;refine J.append hX tk 8 12 0 rfl rfl rfl rfl rfl rfl rfl rfl rfl rfl rfl rfl rfl rfl rfl rfl ?_ ?_ (λ_=>rfl) λa3 c3=>⟨_,(congrArg (λz=>p9 _ 8 (c9 _ _ _ _ _ z)) hS1).trans rfl,⟨rfl,rfl,trivial⟩,?_⟩
    ·simp only[maxLen];omega
    ·omega
    refine J.qn 1 λ_=>?_;refine J.append hX tk 9 11 0 rfl rfl rfl rfl rfl rfl rfl rfl rfl rfl rfl rfl rfl rfl rfl rfl ?_ ?_ (λ_=>rfl) λa4 c4=>⟨_,(congrArg (λz=>p9 _ 9 (c9 _ _ _ _ _ z)) hS2).trans rfl,⟨rfl,rfl,trivial⟩,?_⟩
    ·simp only[maxLen];omega
    ·omega
    refine J.qn 4 λ_=>?_;exact J.goto [0,1,2,3,4,5,6,7,8,9] (hj (a3,c3,a4,c4)) ⟨rfl,rfl,rfl,rfl,rfl,rfl,rfl,rfl,rfl,trivial⟩ rfl rfl
  obtain⟨a3,c3,a4,c4⟩:=x;dsimp only;refine J.q λ_=>?_;refine J.n ((k+1,a3,c3,a4,c4)) (by dsimp only;omega) (by dsimp only;omega) [0,1,2,3,4,5,6,7,8,9]
 ·simp only[decide_eq_false_iff_not]at h1;have hk:k=(G.slots m).toNat:=by omega
  subst hk;refine J.qr [1,8,9] λ_=>?_;refine⟨a1,c1,a2,c2,?_,rfl⟩;rw[show(R.look N b r m).parity=P.1 from congrArg Prod.fst hP,show(R.look N b r m).whole=P.2 from congrArg Prod.snd hP];rfl
def W8 (l:List Sh) (k i:Nat):List Sh:=(l.take i).eraseIdx k
theorem b6d (l:List Sh) (i:Nat) (h:i<l.length):W8 l i (i+1)=W8 l i i:=by
 unfold W8;have hl:(l.take i).length=i:=by rw[List.length_take];omega
 rw[List.eraseIdx_of_length_le (l:=l.take i) (by omega),List.take_add_one,List.getElem?_eq_getElem h,Option.toList_some];rw[List.eraseIdx_append_of_length_le (by omega),hl,Nat.sub_self];simp
theorem b6c (l:List Sh) (k i:Nat) (x:Sh) (h:l[i]? =some x) (hk:i≠k):W8 l k (i+1)=W8 l k i++[x]:=by
 unfold W8;rw[List.take_add_one,h,Option.toList_some];have hi:=(List.getElem?_eq_some_iff.1 h).1;have hl:(l.take i).length=i:=by rw[List.length_take];omega
 by_cases hlt:k<i
 ·rw[List.eraseIdx_append_of_lt_length (by omega)]
 ·rw[List.eraseIdx_of_length_le (l:=l.take i++[x]) (by rw[List.length_append,List.length_singleton];omega),List.eraseIdx_of_length_le (by omega)]
theorem b3A (l:List Sh) (k i:Nat):(W8 l k i).length<=l.length:=by
 unfold W8;refine Nat.le_trans (List.length_eraseIdx_le _ _) ?_;rw[List.length_take];omega
theorem b3z {l:List Sh} {k i:Nat} {x:Sh} (h:x∈W8 l k i):x∈l:=List.mem_of_mem_take (List.mem_of_mem_eraseIdx h)
theorem a7O (f:Fd) (n:Nat) (hn:n<=8) (h1l:f.slots.length=n) (h2l:f.good.length=n) (hd:∀s∈f.slots,s.data.length=16) (hp:f.parity.data.length=16) (a1 a2:Option Nat) (c1 c2 k:Nat):FP 140 [.agg (fdL a1 c1 a2 c2 n f.parity f.whole).toArray,iI k] [c9 222 23 a1 n c1 (m9 f.slots),c9 4 1 a2 n c2 (y8 f.good)]
  (λv As=>v= .tuple #[enV (R.mend f k), .bool (R.mendB f k)]/\As=[c9 222 23 a1 n c1 (m9 f.slots),c9 4 1 a2 n c2 (y8 f.good)]):=by
 refine FE [0,0] Tryz.func140 λX F hX=>?_;refine J.q λbb=>?_;refine J.turn1 [] rfl (As:=[c9 222 23 none 0 0 (m9 (W8 f.slots k 0))]) (λh s=>Sep.one ⟨rfl,rfl,rfl⟩) rfl ?_;refine J.q λ_=>?_;refine J.l (α:=(Nat×Option Nat×Nat)) (λz=>z.1<=n/\∀j<z.1,j=k\/f.good.getD j false=true) (λz=>[si 12 z.1,si 11 n,sv 10 (slv a1 n c1),si 1 k,⟨2,pp (bb 0),4, .tt⟩,⟨4,pp (bb 1),5, .tt⟩,sv 5 (.bool false),sv 6 (slv z.2.1 (W8 f.slots k z.1).length z.2.2)]) [5] (λz=>[c9 222 23 z.2.1 (W8 f.slots k z.1).length z.2.2 (m9 (W8 f.slots k z.1))]) (λz=>n-z.1) ((0,none,0)) (⟨Nat.zero_le _,by omega⟩) λz hI=>?_;obtain⟨i,a3,c3⟩:=z;dsimp only at hI ⊢;have hol:=b3A f.slots k i;refine J.qd (λ_ h1=>?_) λ_ h1=>?_
 ·simp only[decide_eq_true_eq,Int.ofNat_lt]at h1;refine J.know (λh' s=>j4 (c:=(a1,c1)) (by omega) (s.get (i:=1) rfl)) λhg=>?_;obtain⟨g1,rfl⟩:=hg;refine J.know (λh' s=>j4 (c:=(a2,c2)) (by omega) (s.get (i:=2) rfl)) λhg=>?_;obtain⟨g2,rfl⟩:=hg;obtain⟨s,hs⟩:∃s,f.slots[i]? =some s:=⟨_,List.getElem?_eq_getElem (by omega)⟩;have hgd:f.good[i]? =some (f.good.getD i false):=by rw[List.getD_eq_getElem?_getD,List.getElem?_eq_getElem (by omega),Option.getD_some]
  refine J.q λ_=>?_;refine J.v (shV s) rfl rfl (λhg a w he hw=>?_) ?_
  ·exact p6 tk rfl rfl he rfl rfl rfl (hw.get (i:=1) rfl) (by rw[show 0+(i:Int).toNat*23=i*23 from by omega];exact X8 hs) rfl
  refine J.qd (λ_ h2=>?_) λ_ h2=>?_
  ·simp only[beq_iff_eq,Int.natCast_inj]at h2;subst h2;rw[<- b6d f.slots i (by omega)];refine J.q λ_=>?_;refine J.nS ((i+1,a3,c3)) (⟨by dsimp only;omega,λj hj=>by
    rcases Nat.lt_succ_iff_lt_or_eq.1 hj with h | h
    ·exact hI.2 j h
    ·exact .inl h⟩) (by dsimp only;omega) [0,1,2,3,4,5] rfl rfl
  simp only[beq_eq_false_iff_ne,ne_eq,Int.natCast_inj]at h2;refine J.q λ_=>?_;refine J.v (.bool (f.good.getD i false)) rfl rfl (λhg a w he hw=>?_) ?_
  ·exact l8 tk rfl rfl he rfl rfl rfl (hw.get (i:=2) rfl) (by rw[show 0+(i:Int).toNat*1=i from by omega];exact R4 hgd)
  refine J.qd (λ_ h3=>?_) λ_ h3=>?_
  ·simp only[Bool.not_eq_true']at h3;refine J.qr [1,2] λ_=>?_;have hr:R.rest f k=false:=by
    unfold R.rest;rw[List.all_eq_false];exact⟨i,by rw[List.mem_range];omega,by rw[h3];simpa using h2⟩
   simp only[R.mend,R.mendB,hr,Bool.false_and];exact⟨rfl,rfl⟩
  ·simp only[Bool.not_eq_false']at h3;have hsn:=b6c f.slots k i s hs h2;have hsl:(W8 f.slots k i).length+1=(W8 f.slots k (i+1)).length:=by rw[hsn];simp
   refine J.q λ_=>?_;refine J.append hX tk 5 7 0 rfl rfl rfl rfl rfl rfl rfl rfl rfl rfl rfl rfl rfl rfl rfl rfl ?_ ?_ (λ_=>rfl) λa4 c4=>⟨_,(congrArg (λz=>p9 _ 5 (c9 _ _ _ _ _ z)) ((y0 _ s).symm.trans (congrArg m9 hsn.symm))).trans rfl,trivial,?_⟩
   ·simp only[maxLen];omega
   ·omega
   rw[hsl];refine J.q λ_=>?_;refine J.nS ((i+1,a4,c4)) (⟨by dsimp only;omega,λj hj=>by
    rcases Nat.lt_succ_iff_lt_or_eq.1 hj with h | h
    ·exact hI.2 j h
    ·exact .inr (h▸h3)⟩) (by dsimp only;omega) [0,1,2,3,4,5] rfl rfl
 ·simp only[decide_eq_false_iff_not,Int.ofNat_lt]at h1;obtain rfl:i=n:=by omega
  have hr:R.rest f k=true:=by
   unfold R.rest;rw[List.all_eq_true];intro j hj;rcases hI.2 j (by simp at hj;omega)with h | h
   ·simp[h]
   ·rw[h];simp
  have ho:W8 f.slots k i=f.slots.eraseIdx k:=by unfold W8;rw[List.take_of_length_le (by omega)]
  refine J.qd (λ_ h4=>?_) λ_ h4=>?_
  ·simp only[Bool.not_eq_true']at h4;refine J.qr [1,2] λ_=>?_;simp only[R.mend,R.mendB,h4,Bool.and_false,Bool.false_and];exact⟨rfl,rfl⟩
  ·simp only[Bool.not_eq_false']at h4;refine J.qp (b2x f.parity hp a3 (W8 f.slots k i).length c3 (W8 f.slots k i) rfl (by omega) (λs hs=>hd s (b3z hs))) [5] λ_=>?_;refine J.qr [1,2] λ_=>?_;simp only[R.mend,R.mendB,hr,h4,Bool.and_self,Bool.true_and,if_true,<- ho];exact⟨rfl,rfl⟩
theorem a4R:∀m,m<256->∀k,k<8->0<=L.at_ (m:Nat) (k:Nat)->L.count (L.without (m:Nat) (L.at_ (m:Nat) (k:Nat)))=L.count (m:Nat)-1:=by decide+kernel
theorem b8c {m b r s:Int} (h:0<=G.die m b r s):0<=s/\s<G.slots m:=by
 unfold G.die at h;split at h
 ·omega
 ·rename_i hp;have hp0:0<=G.parity m b r:=by omega
  have hs:0<=s/\s<(L.count (L.without m (G.parity m b r)):Int):=by
   by_cases hh:s<0\/(L.count (L.without m (G.parity m b r)):Int)<=s
   ·rw[L.at_ge _ _ hh]at h;omega
   ·omega
  unfold G.parity at hp0 hs;split at hp0
  ·omega
  ·rename_i hc;rw[if_neg hc]at hs;have hm:0<=m/\m<256:=by
    by_cases hh:0<=m/\m<256
    ·exact hh
    ·have:=L.count_no m hh;omega
   obtain⟨M,rfl⟩:=Int.eq_ofNat_of_zero_le hm.1;have hcl:=L.count_le (M:Int);have hq:0<=(b+r) % (L.count (M:Int):Int)/\(b+r) % (L.count (M:Int):Int)<L.count (M:Int):=⟨Int.emod_nonneg _ (by omega),Int.emod_lt_of_pos _ (by omega)⟩;obtain⟨q,hq2⟩:=Int.eq_ofNat_of_zero_le hq.1;rw[hq2]at hs hp0 hq;rw[a4R M (by omega) q (by omega) hp0]at hs;unfold G.slots;rw[if_neg (by omega)];omega
theorem V0 {N:Nand} (hN:N.Ok) (b r m:Int):(∀s∈(R.look N b r m).slots,s.data.length=16)/\(R.look N b r m).parity.data.length=16:=by
 refine⟨λs hs=>?_,a5D hN _ _ _⟩;simp only[R.look,R.ones,List.map_map,List.mem_map]at hs;obtain⟨k,_,rfl⟩:=hs;exact a5D hN _ _ _
theorem a6C (p:Nat) (N:Nand) (hN:N.Ok) (hR:N.Room) (b r s m:Int) (h0: -1000000<=s) (h1:s<=1000000):FP 84 [pp p, .agg #[iI b,iI r,iI s],iI m] [i9 p N]
  (Ps (.tuple #[enV (R.read N b r s m).1,iI (R.read N b r s m).2]) [i9 p N]):=by
 have hbd:=hN.bd;refine FE [2,0,0] Tryz.func84 λX F hX=>?_;refine J.q λbb=>?_;refine J.join (α:=Unit) (λ_=>[⟨30, .bool (decide (G.die m b r s<0)|| !C7 N.dies N.blocks N.pages 0 b r),0, .tt⟩,⟨0,pp p,2, .tt⟩,si 2 m,⟨4,pp (bb 0),3, .tt⟩,⟨6,pp (bb 1),4, .tt⟩]) (λ_=>[.hp F,i9 p N, .pt (bb 0) 136 [iI b,iI r,iI s], .pt (bb 1) 132 (enL En.zero)]) (λhj=>?_) (λ_=>?_)
 ·refine J.p (.of [0,4,9,12,17,20,25,30,32,36,40,48,53,56,61,64,46,70,72,76]) [] [2] λ_=>?_;refine J.qp (b0w m b r s h0 h1) [] λ_=>?_;refine J.q λ_=>?_;refine J.gcase hX rfl rfl rfl ⟨rfl,trivial⟩ (λhb=>?_) (λhb=>?_)
  ·have hb2:decide (G.die m b r s<0)=false:=by rwa [Bool.not_eq_true']at hb
   rw[hb2]at hj ⊢;refine J.qp (U8 p N) [1] λ_=>?_;refine J.qp (a8v N.dies N.blocks N.pages 0 b r (by omega) (by omega) (by omega)) [] λ_=>?_;refine J.q λ_=>?_;exact J.goto [0,1,2,3] (hj ()) ⟨rfl,rfl,rfl,rfl,rfl,trivial⟩ rfl rfl
  ·have hb2:decide (G.die m b r s<0)=true:=by rwa [Bool.not_eq_false']at hb
   rw[hb2]at hj ⊢;refine J.q λ_=>?_;refine J.gcase hX rfl rfl rfl ⟨rfl,trivial⟩ (λhb=>by simp at hb) (λhb=>?_);refine J.q λ_=>?_;refine J.vT (.bool false) rfl rfl (λhg a w he hw=>by simp[G.on]at hg) ?_;refine J.q λ_=>?_;exact J.goto [0,1,2,3] (hj ()) ⟨rfl,rfl,rfl,rfl,rfl,trivial⟩ rfl rfl
 refine J.qd (λ_ h2=>?_) λ_ h2=>?_
 ·refine J.qr [1] λ_=>?_;have:G.die m b r s<0\/C7 N.dies N.blocks N.pages 0 b r=false:=by simpa using h2
  rw[R.read,if_pos this];exact⟨rfl,rfl⟩
 have hc:¬(G.die m b r s<0\/C7 N.dies N.blocks N.pages 0 b r=false):=by simpa using h2
 have hd:=b8c (m:=m) (b:=b) (r:=r) (s:=s) (by omega);have hsb:=I5 m;refine J.qp (a1r p N) [1] λ_=>?_;refine J.qd (λ_ h3=>?_) λ_ h3=>?_
 ·refine J.qr [1] λ_=>?_;have:N.off=true:=by simpa using h3
  rw[R.read,if_neg hc,if_pos this];exact⟨rfl,rfl⟩
 have hoff:¬N.off=true:=by simpa using h3
 obtain⟨k,rfl⟩:=Int.eq_ofNat_of_zero_le hd.1;have hlen:=D1 N b r m;have hdat:=V0 hN b r m;have hkn:k<(G.slots m).toNat:=by omega
 refine J.qc (b3h p N hN hR b r m) [1] λ_=>?_;rintro v As ⟨a1,c1,a2,c2,rfl,rfl⟩;refine⟨_,rfl,trivial,?_⟩;refine J.know (λh' s=>j4 (c:=(a1,c1)) (by omega) (s.get (i:=4) rfl)) λhg=>?_;obtain⟨g1,rfl⟩:=hg;refine J.know (λh' s=>j4 (c:=(a2,c2)) (by omega) (s.get (i:=5) rfl)) λhg=>?_;obtain⟨g2,rfl⟩:=hg;have hgd:(R.look N b r m).good[k]? =some ((R.look N b r m).good.getD k false):=by rw[List.getD_eq_getElem?_getD,List.getElem?_eq_getElem (by omega),Option.getD_some]
 have hsd:(R.look N b r m).slots[k]? =some ((R.look N b r m).slots.getD k Sh.zero):=by rw[List.getD_eq_getElem?_getD,List.getElem?_eq_getElem (by omega),Option.getD_some]
 have hr:R.read N b r k m=if(R.look N b r m).good.getD k false then(((R.look N b r m).slots.getD k Sh.zero).en,0)else if R.mendB (R.look N b r m) k then(R.mend (R.look N b r m) k,0)else(En.zero,10):=by
  rw[R.read,if_neg hc,if_neg hoff,Int.toNat_natCast]
 refine J.q λ_=>?_;refine J.v (.bool ((R.look N b r m).good.getD k false)) rfl rfl (λhg a w he hw=>?_) ?_
 ·exact l8 tk rfl rfl he rfl rfl rfl (hw.get (i:=5) rfl) (by rw[show 0+(k:Int).toNat*1=k from by omega];exact R4 hgd)
 refine J.qd (λ_ h4=>?_) λ_ h4=>?_
 ·refine J.q λ_=>?_;refine J.v (shV ((R.look N b r m).slots.getD k Sh.zero)) rfl rfl (λhg a w he hw=>?_) ?_
  ·exact p6 tk rfl rfl he rfl rfl rfl (hw.get (i:=4) rfl) (by rw[show 0+(k:Int).toNat*23=k*23 from by omega];exact X8 hsd) rfl
  refine J.qp (a6B ((R.look N b r m).slots.getD k Sh.zero)) [] λ_=>?_;refine J.qr [1] λ_=>?_;rw[hr,if_pos h4];exact⟨rfl,rfl⟩
 refine J.qp (a7O (R.look N b r m) (G.slots m).toNat (by omega) hlen.1 hlen.2 hdat.1 hdat.2 (some g1) (some g2) c1 c2 k) [4,5] λ_=>?_;refine J.qd (λ_ h5=>?_) λ_ h5=>?_
 ·refine J.qr [1] λ_=>?_;rw[hr,if_neg (by rw[h4];exact Bool.false_ne_true),if_pos h5];exact⟨rfl,rfl⟩
 ·refine J.qr [1] λ_=>?_;rw[hr,if_neg (by rw[h4];exact Bool.false_ne_true),if_neg (by rw[h5];exact Bool.false_ne_true)];exact⟨rfl,rfl⟩
def fnL (x:Fnd):List Value:=[iI x.en.lpn,iI x.en.seq,iI x.en.role,byC x.en.data 0,byC x.en.data 1,byC x.en.data 2,byC x.en.data 3,byC x.en.data 4,byC x.en.data 5,byC x.en.data 6,byC x.en.data 7,byC x.en.data 8,byC x.en.data 9,byC x.en.data 10,byC x.en.data 11,byC x.en.data 12,byC x.en.data 13,byC x.en.data 14,byC x.en.data 15,
 iI x.block,iI x.row,iI x.slot,iI x.mask, .bool x.whole, .bool x.mended]
def j6 (l:List Fnd):List Value:=l.flatMap fnL
theorem a7a (x:Fnd):(fnL x).length=25:=rfl
theorem C6 (l:List Fnd):(j6 l).length=l.length*25:=by
 induction l with
 | nil=>rfl
 | cons x l ih=>simp only[j6,List.flatMap_cons,List.length_append,List.length_cons]at ih ⊢;rw[ih,a7a];omega
theorem a0s (l:List Fnd) (x:Fnd):j6 (l++[x])=j6 l++fnL x:=by simp[j6]
theorem R3:∀{l:List Fnd} {k:Nat} {x:Fnd},l[k]? =some x->((j6 l).drop (k*25)).take 25=fnL x
 | [],_,_,h=>by simp at h
 | y::l,0,x,h=>by
  simp at h;subst h;rw[Nat.zero_mul,List.drop_zero];exact List.take_left' (a7a y)
 | y::l,k+1,x,h=>by
  have:=R3 (l:=l) (k:=k) (x:=x) (by simpa using h);rw[show(k+1)*25=25+k*25 from by omega,<- List.drop_drop];simp only[j6,List.flatMap_cons];rw[List.drop_left' (a7a y)];exact this
theorem a7g (x:Int):∀l:List Int,(n8 x l).length<=l.length
 | []=>Nat.le_refl _
 | y::l=>by
  unfold n8;split
  ·have h:=a7g y l;exact Nat.le_trans h (by simp)
  ·have h:=a7g y l;simpa using h
theorem a8B:∀l:List Int,(n4 l).length<=l.length
 | []=>Nat.le_refl _
 | x::l=>by have h:=a7g x l;simpa[n4]using h
theorem a5E (N:Nand) (b r:Int):(M.masks N b r).length<=N.dies:=by
 unfold M.masks;refine Nat.le_trans (a8B _) ?_;rw[K5];refine Nat.le_trans (List.length_filterMap_le _ _) ?_;simp[M.rowN]
def a1q (N:Nand) (b r:Int) (i:Nat):List Fnd:=((M.masks N b r).take i).flatMap (R.allM N b r)
def T6 (N:Nand) (b r mk:Int) (i j:Nat):List Fnd:=a1q N b r i++(List.range j).filterMap (R.fnd (R.look N b r mk) b r mk)
theorem b5e (N:Nand) (b r m:Int):(R.allM N b r m).length<=7:=by
 unfold R.allM;refine Nat.le_trans (List.length_filterMap_le _ _) ?_;rw[List.length_range,(D1 N b r m).1];have:=I5 m;omega
theorem a3X (N:Nand) (b r:Int) (i:Nat) (h:N.dies<=6):(a1q N b r i).length<=42:=by
 have h1:∀l:List Int,(l.flatMap (R.allM N b r)).length<=7*l.length:=by
  intro l
  induction l with
  | nil=>simp
  | cons x l ih=>rw[List.flatMap_cons,List.length_append,List.length_cons];have:=b5e N b r x;omega
 have h2:=h1 ((M.masks N b r).take i);have h3:=a5E N b r;have h4:((M.masks N b r).take i).length<=6:=by rw[List.length_take];omega
 unfold a1q;omega
theorem b3x (N:Nand) (b r mk:Int) (i j:Nat) (h:N.dies<=6) (hj:j<=7):(T6 N b r mk i j).length<=49:=by
 have h1:=a3X N b r i h;have h2:=List.length_filterMap_le (R.fnd (R.look N b r mk) b r mk) (List.range j);rw[List.length_range]at h2;unfold T6;rw[List.length_append];omega
theorem b1j (N:Nand) (b r mk:Int) (i:Nat):T6 N b r mk i 0=a1q N b r i:=by simp[T6]
theorem b1k (N:Nand) (b r mk:Int) (i j:Nat):T6 N b r mk i (j+1)=T6 N b r mk i j++(R.fnd (R.look N b r mk) b r mk j).toList:=by
 unfold T6;rw[List.range_succ,List.filterMap_append,List.append_assoc];congr 2
theorem b3y (N:Nand) (b r mk:Int) (i:Nat) (h:(M.masks N b r)[i]? =some mk):T6 N b r mk i (G.slots mk).toNat=a1q N b r (i+1):=by
 unfold T6 a1q;rw[List.take_add_one,h,Option.toList_some,List.flatMap_append];congr 1;rw[List.flatMap_cons,List.flatMap_nil,List.append_nil,R.allM,(D1 N b r mk).1]
theorem b7c (p:Nat) (N:Nand) (hN:N.Ok) (hR:N.Room) (b r:Int):FP 110 [pp p,iI b,iI r] [i9 p N]
  (λv As=>∃a c,v=slv a (R.all N b r).length c/\As=[i9 p N,c9 186 25 a (R.all N b r).length c (j6 (R.all N b r))]):=by
 have hbd:=hN.bd;have hml:=a5E N b r;refine FE [2,0,0] Tryz.func110 λX F hX=>?_;refine J.qc (b0q p N hN hR b r) [1] λ_=>?_;rintro v As ⟨am,cm,rfl,rfl⟩;refine⟨_,rfl,trivial,?_⟩;refine J.turn1 [] rfl (As:=[c9 186 25 none 0 0 (j6 (a1q N b r 0))]) (λh s=>Sep.one ⟨rfl,rfl,rfl⟩) rfl ?_;refine J.q λ_=>?_;refine J.l (α:=(Nat×Option Nat×Nat)) (λz=>z.1<=(M.masks N b r).length) (λz=>[si 20 z.1,⟨19,iI (M.masks N b r).length,0, .tt⟩,sv 18 (slv am (M.masks N b r).length cm),sv 7 (slv z.2.1 (a1q N b r z.1).length z.2.2),⟨0,pp p,2, .tt⟩,si 1 b,si 2 r]) [3] (λz=>[c9 186 25 z.2.1 (a1q N b r z.1).length z.2.2 (j6 (a1q N b r z.1))]) (λz=>(M.masks N b r).length-z.1) ((0,none,0)) (Nat.zero_le _) λz hI=>?_;obtain⟨i,ao,co⟩:=z;dsimp only at hI ⊢;refine J.qd (λ_ h1=>?_) λ_ h1=>?_
 ·simp only[decide_eq_true_eq,Int.ofNat_lt]at h1;refine J.know (λh' s=>j4 (c:=(am,cm)) (by omega) (s.get (i:=2) rfl)) λhg=>?_;obtain⟨gm,rfl⟩:=hg;obtain⟨mk,hmk⟩:∃mk,(M.masks N b r)[i]? =some mk:=⟨_,List.getElem?_eq_getElem h1⟩;refine J.q λ_=>?_;refine J.v (iI mk) rfl rfl (λhg a w he hw=>?_) ?_
  ·exact l8 tk rfl rfl he rfl rfl rfl (hw.get (i:=2) rfl) (by rw[show 0+(i:Int).toNat*1=i from by omega];exact K7 hmk)
  have hsb:=I5 mk;have hlen:=D1 N b r mk;have hdat:=V0 hN b r mk;refine J.q λb7=>?_;refine J.cb (b3h p N hN hR b r mk) [1] ?_;rintro v As ⟨a1,c1,a2,c2,rfl,rfl⟩;refine⟨_,rfl,trivial,?_⟩;have hfnd:∀j,R.fnd (R.look N b r mk) b r mk j=if R.okAt (R.look N b r mk) j&&(R.enAt (R.look N b r mk) j).role !=3 then some ⟨R.enAt (R.look N b r mk) j,b,r,j,mk,(R.look N b r mk).whole,!((R.look N b r mk).good.getD j false)⟩else none:=λj=>rfl
  have hout:=b1k N b r mk i;have hz:=b1j N b r mk i;have hall:=b3y N b r mk i hmk;have hol:∀j,j<=7->(T6 N b r mk i j).length<=49:=λj hj=>b3x N b r mk i j (by omega) hj;have hnb:(G.slots mk).toNat<=7:=by omega
  rw[<- hz];generalize hf:R.look N b r mk=f at hlen hdat hfnd hout;generalize hn:(G.slots mk).toNat=n at hlen hall hnb;refine J.q λbbf=>?_;refine J.l (α:=(Nat×Option Nat×Nat)) (λz=>z.1<=n) (λz=>[si 32 z.1,si 31 n,sv 30 (slv a1 n c1),⟨10,pp (bbf 0),7, .tt⟩,si 9 mk,si 20 i,⟨19,iI (M.masks N b r).length,0, .tt⟩,sv 18 (slv (some gm) (M.masks N b r).length cm),sv 7 (slv z.2.1 (T6 N b r mk i z.1).length z.2.2),⟨0,pp p,2, .tt⟩,si 1 b,si 2 r]) [3] (λz=>[c9 186 25 z.2.1 (T6 N b r mk i z.1).length z.2.2 (j6 (T6 N b r mk i z.1))]) (λz=>n-z.1) ((0,ao,co)) (Nat.zero_le _) λz hI=>?_;obtain⟨j,ao,co⟩:=z;dsimp only at hI ⊢;refine J.qd (λ_ h2=>?_) λ_ h2=>?_
  ·simp only[decide_eq_true_eq,Int.ofNat_lt]at h2;refine J.know (λh' s=>j4 (c:=(a1,c1)) (by omega) (s.get (i:=4) rfl)) λhg=>?_;obtain⟨g1,rfl⟩:=hg;refine J.know (λh' s=>j4 (c:=(a2,c2)) (by omega) (s.get (i:=5) rfl)) λhg=>?_;obtain⟨g2,rfl⟩:=hg;obtain⟨s,hs⟩:∃s,f.slots[j]? =some s:=⟨_,List.getElem?_eq_getElem (by omega)⟩;obtain⟨gk,hgd⟩:∃g,f.good[j]? =some g:=⟨_,List.getElem?_eq_getElem (by omega)⟩;have hgk:f.good.getD j false=gk:=by rw[List.getD_eq_getElem?_getD,hgd,Option.getD_some]
   have hsk:f.slots.getD j Sh.zero=s:=by rw[List.getD_eq_getElem?_getD,hs,Option.getD_some]
   refine J.q λ_=>?_;refine J.v (shV s) rfl rfl (λhg a w he hw=>?_) ?_
   ·exact p6 tk rfl rfl he rfl rfl rfl (hw.get (i:=4) rfl) (by rw[show 0+(j:Int).toNat*23=j*23 from by omega];exact X8 hs) rfl
   obtain⟨bb,hbb⟩:∃x,bbf 0=x:=⟨_,rfl⟩;rw[hbb];refine J.p (.take false 0 (.take true 2 (.take false 3 (.take true 4 (.take true 5 (.take false 6 (.alt false 1 ((.of [30,34,36])) (.alt false 7 ((.of [6,34,36])) .non)))))))) [9] [5,6,7] λ_=>?_;refine J.join (α:=Nat) (λx=>[sv 14 (.bool gk),⟨13,pp x,8, .tt⟩,si 11 j,si 32 j,si 31 n,sv 30 (slv (some g1) n c1),⟨10,pp bb,7, .tt⟩,si 9 mk,si 20 i,⟨19,iI (M.masks N b r).length,0, .tt⟩,sv 18 (slv (some gm) (M.masks N b r).length cm),sv 7 (slv ao (T6 N b r mk i j).length co),⟨0,pp p,2, .tt⟩,si 1 b,si 2 r]) (λx=>[.hp F,i9 p N,c9 3 1 (some gm) (M.masks N b r).length cm (f6 (M.masks N b r)),c9 186 25 ao (T6 N b r mk i j).length co (j6 (T6 N b r mk i j)),c9 222 23 (some g1) n c1 (m9 f.slots),c9 4 1 (some g2) n c2 (y8 f.good), .pt bb 224 (fdL (some g1) c1 (some g2) c2 n f.parity f.whole), .pt x 132 (enL s.en)]) (λhj=>?_) (λx=>?_)
   ·skip
    refine J.qn 5 λ_=>?_;refine J.vT (.bool gk) rfl rfl (λ_ a w he hC=>l8 tk rfl rfl he rfl rfl rfl (hC rfl _ (f9 (i:=5) rfl)) (by rw[show 0+(j:Int).toNat*1=j from by omega];exact R4 hgd)) ?_;refine J.alts ?_ ?_
    ·skip
     refine J.qp (a6B s) [] λ_=>?_;refine J.qn 1 λb7=>?_;refine J.qn 3 λ_=>?_;exact J.goto [0,1,2,3,4,5,6,8] (hj (b7 0)) ⟨rfl,rfl,rfl,rfl,rfl,rfl,rfl,rfl,rfl,rfl,rfl,rfl,rfl,rfl,rfl,trivial⟩ rfl rfl
    ·skip
     refine J.qn 1 λb7=>?_;refine J.qp (a6B s) [] λ_=>?_;refine J.qn 3 λ_=>?_;exact J.goto [0,1,2,3,4,5,6,8] (hj (b7 0)) ⟨rfl,rfl,rfl,rfl,rfl,rfl,rfl,rfl,rfl,rfl,rfl,rfl,rfl,rfl,rfl,trivial⟩ rfl rfl
   refine J.q λ_=>?_;refine J.join (α:=Unit) (λ_=>[sv 14 (.bool (R.okAt f j)),⟨13,pp x,8, .tt⟩,si 11 j,si 32 j,si 31 n,sv 30 (slv (some g1) n c1),⟨10,pp bb,7, .tt⟩,si 9 mk,si 20 i,⟨19,iI (M.masks N b r).length,0, .tt⟩,sv 18 (slv (some gm) (M.masks N b r).length cm),sv 7 (slv ao (T6 N b r mk i j).length co),⟨0,pp p,2, .tt⟩,si 1 b,si 2 r]) (λ_=>[.hp F,i9 p N,c9 3 1 (some gm) (M.masks N b r).length cm (f6 (M.masks N b r)),c9 186 25 ao (T6 N b r mk i j).length co (j6 (T6 N b r mk i j)),c9 222 23 (some g1) n c1 (m9 f.slots),c9 4 1 (some g2) n c2 (y8 f.good), .pt bb 224 (fdL (some g1) c1 (some g2) c2 n f.parity f.whole), .pt x 132 (enL (R.enAt f j))]) (λhj=>?_) (λ_=>?_)
   ·refine J.qd (λ_ h3=>?_) λ_ h3=>?_
    ·simp only[Bool.not_eq_true']at h3;subst h3;refine J.qp (a7O f n (by omega) hlen.1 hlen.2 hdat.1 hdat.2 (some g1) (some g2) c1 c2 j) [4,5] λ_=>?_;rw[show R.okAt f j=R.mendB f j from by rw[R.okAt,hgk];rfl,show R.enAt f j=R.mend f j from by rw[R.enAt,hgk];rfl]at hj;refine J.qn 6 λ_=>?_;exact J.goto [0,1,2,3,4,5,6,7] (hj ()) ⟨rfl,rfl,rfl,rfl,rfl,rfl,rfl,rfl,rfl,rfl,rfl,rfl,rfl,rfl,rfl,trivial⟩ rfl rfl
    ·simp only[Bool.not_eq_false']at h3;subst h3;rw[show R.okAt f j=true from by rw[R.okAt,hgk];rfl,show R.enAt f j=s.en from by rw[R.enAt,hgk,if_pos rfl,hsk]]at hj;refine J.qn 1 λ_=>?_;exact J.goto [0,1,2,3,4,5,6,7] (hj ()) ⟨rfl,rfl,rfl,rfl,rfl,rfl,rfl,rfl,rfl,rfl,rfl,rfl,rfl,rfl,rfl,trivial⟩ rfl rfl
   have hf1:=hfnd j;have ho1:=hout j;have hol1:=hol j (by omega);generalize R.okAt f j=ok at hf1;generalize R.enAt f j=e at hf1;refine J.qd (λ_ h4=>?_) λ_ h4=>?_
   ·rw[if_pos h4,hgk]at hf1;rw[hf1,Option.toList_some]at ho1;have hsl:(T6 N b r mk i j).length+1=(T6 N b r mk i (j+1)).length:=by rw[ho1,List.length_append];rfl
    refine J.pn 14 (.of [0,5,8,12,16,20,24,28,33,36,41,44,48,53,56,60,66,70,72]) [18] [5,6,7] λ_ _=>?_;refine J.vT (.bool gk) rfl rfl (λ_ a w he hC=>l8 tk rfl rfl he rfl rfl rfl (hC rfl _ (f9 (i:=5) rfl)) (by rw[show 0+(j:Int).toNat*1=j from by omega];exact R4 hgd)) ?_;refine J.q λ_=>?_;refine J.append hX tk 3 8 0 rfl rfl rfl rfl rfl rfl rfl rfl rfl rfl rfl rfl rfl rfl rfl rfl ?_ ?_ (λ_=>rfl) λa4 c4=>⟨_,(congrArg (λz=>p9 _ 3 (c9 _ _ _ _ _ z)) ((a0s _ _).symm.trans (congrArg j6 ho1.symm))).trans rfl,⟨rfl,rfl,rfl,trivial⟩,?_⟩
    ·simp only[maxLen];omega
    ·omega
    rw[hsl];refine J.q λ_=>?_;rw[<- hbb];refine J.q λ_=>?_;refine J.n ((j+1,a4,c4)) (by dsimp only;omega) (by dsimp only;omega) [0,1,2,3,4,5,6]
   ·rw[if_neg (by rw[h4];exact Bool.false_ne_true)]at hf1;rw[hf1,Option.toList_none,List.append_nil]at ho1;rw[<- ho1];refine J.q λ_=>?_;rw[<- hbb];refine J.q λ_=>?_;refine J.n ((j+1,ao,co)) (by dsimp only;omega) (by dsimp only;omega) [0,1,2,3,4,5,6]
  ·simp only[decide_eq_false_iff_not,Int.ofNat_lt]at h2;obtain rfl:j=n:=by omega
   rw[hall];refine J.q λ_=>?_;refine J.n ((i+1,ao,co)) (by dsimp only;omega) (by dsimp only;omega) [0,1,2,3]
 ·simp only[decide_eq_false_iff_not,Int.ofNat_lt]at h1;obtain rfl:i=(M.masks N b r).length:=by omega
  have:a1q N b r (M.masks N b r).length=R.all N b r:=by unfold a1q R.all;rw[List.take_length]
  rw[this];refine J.qr [1,3] λ_=>?_;exact⟨ao,co,rfl,rfl⟩
theorem b4z (b r:Int) {mm:Nat}:∀(q:List (Int×Sh)) (N:Nand) (f:Int) (k:Nat),(∀x∈q,x.2.data.length=16)->N.Gd (q.length+k) mm->(R.go b r q N f).1.Gd k mm
 | [],N,f,k,_,h=>by rw[R.go];exact h.less (by simp) (Nat.le_refl _)
 | (d,s)::q,N,f,k,hd,h=>by
  have h1:(N.progN d b r (J4 s)).Gd (q.length+k) mm:=Nand.Gd.prog (h.less (by rw[List.length_cons];omega) (Nat.le_refl _)) d b r _ (U1 s (hd (d,s) (by simp)));have hd':∀x∈q,x.2.data.length=16:=λx hx=>hd x (by simp[hx]);rw[R.go];split
  ·exact b4z b r q _ _ k hd' h1
  ·split
   ·exact h1.less (by omega) (Nat.le_refl _)
   ·exact b4z b r q _ _ k hd' h1
theorem b4i {b r m:Int} {l:List En} (hd:∀s∈l,s.data.length=16):∀x∈R.job b r m l,x.2.data.length=16:=by
 intro x hx;simp only[R.job,List.mem_append,List.mem_map,List.mem_range,List.mem_singleton]at hx;rcases hx with⟨k,hk,rfl⟩ | rfl
 ·refine hd _ ?_;rw[List.getD_eq_getElem?_getD,List.getElem?_eq_getElem hk];exact List.getElem_mem _
 ·exact V7 (λt ht=>by obtain⟨e,he,rfl⟩:=List.mem_map.1 ht;exact hd e he) _ rfl
theorem P9 {b r m:Int} {l:List En} (h:W.parB b r m l=true):(l.length:Int)=G.slots m/\1<=l.length/\l.length<=7/\∀e∈l,W.ok b r m e=true:=by
 simp only[W.parB,Bool.and_eq_true,decide_eq_true_eq,List.all_eq_true]at h;have:=I5 m;refine⟨h.1.1,?_,by omega,h.2⟩;cases l with
 | nil=>simp at h
 | cons x l=>simp
theorem a1a {N:Nand} {b r m:Int} {l:List En} {k mm:Nat} (hd:∀s∈l,s.data.length=16) (h:N.Gd (8+k) mm):(R.write N b r m l).1.Gd k mm:=by
 unfold R.write;split
 ·rename_i hB;have:=P9 hB;exact b4z b r _ _ _ k (b4i hd) (h.less (by rw[a6P];omega) (Nat.le_refl _))
 ·exact h.less (by omega) (Nat.le_refl _)
theorem a6X (b r:Int):∀(q:List (Int×Sh)) (N:Nand) (f:Int),N.Like (R.go b r q N f).1
 | [],N,f=>by rw[R.go];exact Nand.Like.refl N
 | (d,s)::q,N,f=>by
  rw[R.go];split
  ·exact(Nand.like_prog _ _ _ _ _).trans (a6X b r q _ _)
  ·split
   ·exact Nand.like_prog _ _ _ _ _
   ·exact(Nand.like_prog _ _ _ _ _).trans (a6X b r q _ _)
theorem a8Q (N:Nand) (b r m:Int) (l:List En):N.Like (R.write N b r m l).1:=by
 unfold R.write;split
 ·exact a6X b r _ _ _
 ·exact Nand.Like.refl N
end Go.Proofs.YtgkpkpbnonmopaaGreat
namespace Go.Proofs.YtgkpkpbnonmopaaGreat
namespace Tl
def clean (t:Tl) (k:Int) (on:Bool):Tl:=t.set k {t.at_ k with used:=!on}
def hold (t:Tl) (k:Int) (on:Bool):Tl:=t.set k {t.at_ k with held:=on}
def die (t:Tl) (d:Int):Tl:=if t.hasDie d=true then⟨t.d,t.b,t.p,t.l,L.with_ t.dead d⟩else t
end Tl
def En.pad:En:=⟨0,0,3,zeros16⟩
structure Dv where
 N:Nand
 t:Tl
 T:Tb
 op:Int
 row:Int
 mask:Int
 next:Int
namespace Dv
def pick (S:Dv):Int:=H7 (λx y=>C1 (S.t.wear x) (S.t.wear y)) (f7 (y9 S.t S.T) S.op S.t.b)
def left (S:Dv):Bool:=decide (S.op>=0)&&decide (S.row<S.N.pages)&&decide (G.slots S.mask>0)
def slots (S:Dv):Int:=if S.left then G.slots S.mask else G.slots (S.t.mask S.pick)
def opened (S:Dv):Dv:={S with t:=S.t.clean S.pick false,op:=S.pick,row:=0,mask:=(S.t.clean S.pick false).mask S.pick}
def lose (f:Int) (S:Dv) (d:Nat):Dv:=
 if L.has f d then
  {S with t:=if S.N.deadAt d then S.t.die d else S.t.bad d S.op,mask:=L.without S.mask d}
 else S
def loses (S:Dv) (f:Int):Dv:=(List.range S.N.dies).foldl (lose f) S
def numAt (l:List En) (next:Int) (k:Nat):En:=if k<l.length then {l.getD k En.zero with seq:=next+k}else En.pad
def num (l:List En) (next:Int) (n:Nat):List En:=(List.range n).map (numAt l next)
def puts (T:Tb) (b r m:Int) (es:List En) (k:Nat):Tb:=(List.range k).foldl (λT (i:Nat)=>T.put (es.getD i En.zero) b r i m) T
def fit (S:Dv) (l:List En):Nat:=min l.length (G.slots S.mask).toNat
def es (S:Dv) (l:List En):List En:=num l S.next (G.slots S.mask).toNat
def wr (S:Dv) (l:List En):Nand×Int×Int:=R.write S.N S.op S.row S.mask (S.es l)
def wrote (S:Dv) (l:List En):Dv:={S with N:=(S.wr l).1,row:=S.row+1,next:=S.next+S.fit l}
def write:Nat->Dv->List En->Dv×Int×Int
 | 0,S,_=>(S,0,0)
 | k+1,S,l=>
  if l.length=0 then(S,0,0)
  else if S.left=false/\S.pick<0 then(S,0,11)
  else
   let S1:=if S.left then S else S.opened
   if S1.next>1099511627775-(S1.fit l:Int)+1 then(S1,0,11)
   else if(S1.wr l).2.2=1 then({S1 with next:=S1.next+S1.fit l,N:=(S1.wr l).1},0,1)
   else if(S1.wr l).2.2=0 then({S1.wrote l with T:=puts S1.T S1.op S1.row S1.mask (S1.es l) (S1.fit l)},S1.fit l,0)
   else if(S1.wr l).2.2=9 then(S1.wrote l,0,9)
   else write k ((S1.wrote l).loses (S1.wr l).2.1) l
def fuel:Nat:=160
def pen (S:Dv) (l:List En):Dv×Int×Int:=write fuel S l
def rd (S:Dv) (i:Int):En×Int:=
 let a:=(Tb.look S.T.at_ i).getD AtV.zero
 let x:=R.read S.N a.block a.row a.slot a.mask
 if x.2=9 then(En.zero,9)
 else if x.2≠0\/x.1.lpn≠i\/x.1.seq≠a.seq then(⟨i,0,4,zeros16⟩,0)
 else(x.1,0)
def rds (S:Dv):List Int->List En×Int
 | []=>([],0)
 | i::l=>if(S.rd i).2≠0 then([],(S.rd i).2)else((S.rd i).1::(rds S l).1,(rds S l).2)
def carryGo:Nat->Dv->List Int->Int->Dv×Int×Int
 | 0,S,_,done=>(S,done,0)
 | k+1,S,l,done=>
  if l.length=0 then(S,done,0)
  else
   let r:=S.rds (l.take (max S.slots 1).toNat)
   if r.2≠0 then(S,done,r.2)
   else
    let w:=S.pen r.1
    if w.2.2≠0 then(w.1,done+w.2.1,w.2.2)
    else carryGo k w.1 (l.drop w.2.1.toNat) (done+w.2.1)
def carry (S:Dv) (b most:Int):Dv×Int×Int:=
 let l:=(S.T.ins b).take (max most 0).toNat
 carryGo l.length S l 0
def eraseD (b m:Int) (x:Nand×Tl×Int) (d:Nat):Nand×Tl×Int:=
 if x.2.2≠0 then x
 else if L.has m d=false then x
 else
  let e:=x.1.eraseE d b
  (x.1.eraseN d b,if e=0 then x.2.1 else if e=9 then x.2.1 else if e=8 then x.2.1.die d else x.2.1.bad d b,if e=9 then 9 else 0)
def eraseB (N:Nand) (t:Tl) (b:Int):Nand×Tl×Int:=(List.range N.dies).foldl (eraseD b (t.mask b)) (N,t,0)
def wores (N:Nand) (t:Tl) (b:Int):Tl:=(List.range N.dies).foldl (λt (d:Nat)=>t.wore b (N.wornAt d b)) t
def eraseT (N:Nand) (t:Tl) (b:Int):Tl:=if(wores N t b).usable b then(wores N t b).clean b true else wores N t b
def erase (N:Nand) (t:Tl) (b:Int):Nand×Tl×Int:=
 let x:=eraseB N t b
 if x.2.2≠0 then x else(x.1,eraseT x.1 x.2.1 b,0)
def clearGo:List Int->Nand->Tl->Nand×Tl×Int
 | [],N,t=>(N,t,0)
 | b::l,N,t=>
  let x:=erase N t b
  if x.2.2≠0 then x else clearGo l x.1 x.2.1
def clearX (N:Nand) (t:Tl) (T:Tb) (o:Int):Nand×Tl×Int:=clearGo (f7 (j5 t T) o t.b) N t
def clear(S:Dv):Dv×Int:=
 let x:=clearX S.N S.t S.T S.op
 ({S with N:=x.1,t:=x.2.1},x.2.2)
def victim (S:Dv):Int:=H7 (λx y=>orI [C1 (S.T.count x) (S.T.count y),C1 (S.t.wear x) (S.t.wear y)]) (f7 (A9 S.t S.T) S.op S.t.b)
def free (S:Dv):Nat:=(f7 (y9 S.t S.T) S.op S.t.b).length
def roomGo:Nat->Dv->Dv×Int
 | 0,S=>(S,0)
 | k+1,S=>
  if(S.free:Int)>4 then(S,0)
  else if S.victim<0\/S.T.count S.victim>=S.t.p*G.slots (S.t.mask S.victim)then(S,0)
  else
   let c:=S.carry S.victim (S.T.count S.victim)
   if c.2.2≠0 then(c.1,c.2.2)
   else
    let d:=c.1.clear
    if d.2≠0 then d else roomGo k d.1
def room (S:Dv):Dv×Int:=if S.clear.2≠0 then S.clear else roomGo S.t.b S.clear.1
def hurts (S:Dv):List Int:=f7 (P8 S.t S.T) (-1) S.t.b
def leftN (S:Dv):Int:=(S.hurts.map S.T.count).sum
def seeDead (N:Nand) (t:Tl):Tl:=(List.range t.d).foldl (λt (d:Nat)=>if N.deadAt d then t.die d else t) t
def seen (S:Dv):Dv:={S with t:=seeDead S.N S.t}
def step (S:Dv) (most:Int):Dv×Int×Int:=
 let r:=S.seen.room
 if r.2≠0 then(r.1,0,r.2)
 else match r.1.hurts with
  | []=>(r.1,0,0)
  | b::_=>r.1.carry b most
def tornGo:Nat->Dv->List En->Dv×Int
 | 0,S,_=>(S,0)
 | k+1,S,l=>
  if l.length=0 then(S,0)
  else
   let r:=S.room
   if r.2≠0 then r
   else
    let w:=r.1.pen l
    if w.2.2≠0 then(w.1,w.2.2)else tornGo k w.1 (l.drop w.2.1.toNat)
def torn (S:Dv) (l:List En):Dv×Int:=tornGo l.length S l
end Dv
end Go.Proofs.YtgkpkpbnonmopaaGreat
namespace Go.Proofs.YtgkpkpbnonmopaaGreat
theorem a5u (f:Int->Int->Int):∀(l:List Int) (m:Int),O3 f l m=m\/O3 f l m∈l
 | [],m=> .inl rfl
 | x::l,m=>by
  rw[O3];rcases a5u f l (if f x m<0 then x else m)with h | h
  ·rw[h];split
   ·exact .inr (List.mem_cons_self ..)
   ·exact .inl rfl
  ·exact .inr (List.mem_cons_of_mem _ h)
theorem a2y (f:Int->Int->Int) {l:List Int} (h:l≠[]):H7 f l∈l:=by
 cases l with
 | nil=>exact absurd rfl h
 | cons x l=>
  rcases a5u f l x with e | e
  ·show O3 f l x∈_;rw[e];exact List.mem_cons_self ..
  ·exact List.mem_cons_of_mem _ e
theorem mem_pkSome {kind:Int->Bool} {o x:Int} {n:Nat}:x∈f7 kind o n↔0<=x/\x<n/\x≠o/\kind x=true:=by
 simp only[f7,List.mem_map,List.mem_filter,List.mem_range,Bool.and_eq_true,bne_iff_ne,ne_eq];constructor
 ·rintro⟨k,⟨h1,h2,h3⟩,rfl⟩;exact⟨by omega,by omega,h2,h3⟩
 ·rintro⟨h1,h2,h3,h4⟩;obtain⟨k,rfl⟩:=Int.eq_ofNat_of_zero_le h1;exact⟨k,⟨by omega,h3,h4⟩,rfl⟩
theorem a5w (f:Int->Int->Int) (kind:Int->Bool) (o:Int) (n:Nat):(H7 f (f7 kind o n)= -1/\f7 kind o n=[])\/(H7 f (f7 kind o n)∈f7 kind o n/\0<=H7 f (f7 kind o n)):=by
 by_cases h:f7 kind o n=[]
 ·left;rw[h];exact⟨rfl,rfl⟩
 ·right;have:=a2y f h;exact⟨this,(mem_pkSome.1 this).1⟩
structure Tl.Fit (t:Tl) (N:Nand):Prop where
 d:t.d=N.dies
 b:t.b=N.blocks
 p:t.p=N.pages
 len:t.l.length=t.b
namespace Tl
theorem set_len (t:Tl) (k:Int) (s:Sb):(t.set k s).l.length=t.l.length:=by unfold set;split<;>simp
theorem Fit.set {t:Tl} {N:Nand} (h:t.Fit N) (k:Int) (s:Sb):(t.set k s).Fit N:=
 ⟨by rw[set_d];exact h.d,by rw[set_b];exact h.b,by rw[set_p];exact h.p,by rw[set_len,set_b];exact h.len⟩
theorem Fit.wore {t:Tl} {N:Nand} (h:t.Fit N) (k n:Int):(t.wore k n).Fit N:=h.set _ _
theorem Fit.clean {t:Tl} {N:Nand} (h:t.Fit N) (k:Int) (on:Bool):(t.clean k on).Fit N:=h.set _ _
theorem Fit.hold {t:Tl} {N:Nand} (h:t.Fit N) (k:Int) (on:Bool):(t.hold k on).Fit N:=h.set _ _
theorem Fit.bad {t:Tl} {N:Nand} (h:t.Fit N) (d k:Int):(t.bad d k).Fit N:=by unfold Tl.bad;split;(· exact h.set _ _);exact h
theorem Fit.die {t:Tl} {N:Nand} (h:t.Fit N) (d:Int):(t.die d).Fit N:=by unfold Tl.die;split;(· exact⟨h.d,h.b,h.p,h.len⟩);exact h
theorem Fit.like {t:Tl} {N N':Nand} (h:t.Fit N) (l:N.Like N'):t.Fit N':=⟨h.d.trans l.dies.symm,h.b.trans l.blocks.symm,h.p.trans l.pages.symm,h.len⟩
def blanks (t:Tl):Nat:=t.l.countP λs=>!s.used
theorem countP_set {α:Type} (p:α->Bool) (x y:α):∀(l:List α) (k:Nat),l[k]? =some x->(l.set k y).countP p+(if p x then 1 else 0)=l.countP p+(if p y then 1 else 0)
 | [],k,h=>by simp at h
 | z::l,0,h=>by
  simp only[List.getElem?_cons_zero,Option.some.injEq]at h;subst h;simp only[List.set_cons_zero,List.countP_cons];omega
 | z::l,k+1,h=>by
  have:=countP_set p x y l k (by simpa using h);simp only[List.set_cons_succ,List.countP_cons];omega
theorem blanks_same {t:Tl} (hl:t.l.length=t.b) (k:Int) (s:Sb) (h:s.used=(t.at_ k).used):(t.set k s).blanks=t.blanks:=by
 unfold set blanks;split
 ·rename_i hh;have:=countP_set (λs:Sb=>!s.used) (t.at_ k) s t.l k.toNat (get_at hl hh);dsimp only;rw[h]at this;omega
 ·rfl
theorem blanks_bad {t:Tl} (hl:t.l.length=t.b) (d k:Int):(t.bad d k).blanks=t.blanks:=by
 unfold Tl.bad;split
 ·exact blanks_same hl _ _ rfl
 ·rfl
theorem blanks_die (t:Tl) (d:Int):(t.die d).blanks=t.blanks:=by unfold Tl.die;split<;>rfl
theorem blanks_open {t:Tl} (hl:t.l.length=t.b) {k:Int} (h:t.blank k=true):(t.clean k false).blanks+1=t.blanks:=by
 simp only[blank,Bool.and_eq_true,Bool.not_eq_true']at h;have:=countP_set (λs:Sb=>!s.used) (t.at_ k) {t.at_ k with used:=!false} t.l k.toNat (get_at hl h.1);unfold clean set blanks;rw[if_pos h.1];simp only[h.2]at this;simpa using this
theorem blanks_le {t:Tl} (hl:t.l.length=t.b):t.blanks<=t.b:=by unfold blanks;rw[<- hl];exact List.countP_le_length
end Tl
structure Dv.Ok (S:Dv) (k m:Nat):Prop where
 gd:S.N.Gd k m
 t:S.t.Fit S.N
 T:S.T.Ok
 sl:∀x∈S.T.at_,0<=x.2.slot/\x.2.slot<=1000
 row:0<=S.row/\S.row<=8
 next:1<=S.next/\S.next<=1099511627776
theorem Nand.Ok.bd16 {N:Nand} (h:N.Ok):(3<=N.dies/\N.dies<=6)/\(8<=N.blocks/\N.blocks<=16)/\(2<=N.pages/\N.pages<=8):=by
 have:=h.geo;simp[y6]at this;omega
theorem Tb.put_slot {T:Tb} {e:En} {b r s m:Int} (h:∀x∈T.at_,0<=x.2.slot/\x.2.slot<=1000) (hs:0<=s/\s<=1000):∀x∈(T.put e b r s m).at_,0<=x.2.slot/\x.2.slot<=1000:=by
 have key:∀(l:List (Int×AtV)) (k:Int) (v:AtV),(∀x∈l,0<=x.2.slot/\x.2.slot<=1000)->(0<=v.slot/\v.slot<=1000)->∀x∈Tb.put1 l k v,0<=x.2.slot/\x.2.slot<=1000:=by
  intro l k v
  induction l with
  | nil=>intro _ hv x hx;simp[Tb.put1]at hx;subst hx;exact hv
  | cons y l ih=>
   intro hl hv x hx;simp only[Tb.put1]at hx;split at hx
   ·rcases List.mem_cons.1 hx with rfl | hx
    ·exact hv
    ·exact hl x (List.mem_cons_of_mem _ hx)
   ·rcases List.mem_cons.1 hx with rfl | hx
    ·exact hl _ (List.mem_cons_self ..)
    ·exact ih (λz hz=>hl z (List.mem_cons_of_mem _ hz)) hv x hx
 unfold Tb.put;split
 ·exact key _ _ _ h hs
 ·exact h
namespace Dv
variable {S : Dv} {k m : Nat}
theorem Ok.less (h:S.Ok k m) {k':Nat} (hk:k'<=k):S.Ok k' m:=⟨h.gd.less hk (Nat.le_refl _),h.t,h.T,h.sl,h.row,h.next⟩
theorem slots_le (x:Int):0<=G.slots x/\G.slots x<=7:=by
 have:=L.count_le x;unfold G.slots;split<;>omega
theorem num_len (l:List En) (next:Int) (n:Nat):(num l next n).length=n:=by simp[num]
theorem es_len (S:Dv) (l:List En):(S.es l).length=(G.slots S.mask).toNat:=num_len _ _ _
theorem getD_data {l:List En} (hd:∀s∈l,s.data.length=16) {i:Nat} (h:i<l.length):(l.getD i En.zero).data.length=16:=by
 rw[List.getD_eq_getElem?_getD,List.getElem?_eq_getElem h];exact hd _ (List.getElem_mem _)
theorem num_data {l:List En} (hd:∀s∈l,s.data.length=16) (next:Int) (n:Nat):∀s∈num l next n,s.data.length=16:=by
 intro s hs;simp only[num,List.mem_map]at hs;obtain⟨i,_,rfl⟩:=hs;unfold numAt;split
 ·rename_i h;exact getD_data hd h
 ·rfl
theorem fit_le (S:Dv) (l:List En):S.fit l<=7/\S.fit l<=l.length/\(S.fit l:Int)<=G.slots S.mask:=by
 have:=slots_le S.mask;unfold fit;omega
theorem lose_N (f:Int) (S:Dv) (d:Nat):(lose f S d).N=S.N/\(lose f S d).T=S.T/\(lose f S d).op=S.op/\(lose f S d).row=S.row/\(lose f S d).next=S.next:=by
 unfold lose;split<;>exact⟨rfl,rfl,rfl,rfl,rfl⟩
theorem lose_t (f:Int) (S:Dv) (d:Nat) (h:S.t.Fit S.N):(lose f S d).t.Fit S.N/\(lose f S d).t.blanks=S.t.blanks:=by
 unfold lose;split
 ·dsimp only;split
  ·exact⟨h.die _,Tl.blanks_die _ _⟩
  ·exact⟨h.bad _ _,Tl.blanks_bad h.len _ _⟩
 ·exact⟨h,rfl⟩
theorem foldl_lose (f:Int):∀(q:List Nat) (S:Dv),(S.t.Fit S.N)->(q.foldl (lose f) S).N=S.N/\(q.foldl (lose f) S).T=S.T/\(q.foldl (lose f) S).op=S.op/\(q.foldl (lose f) S).row=S.row/\(q.foldl (lose f) S).next=S.next/\(q.foldl (lose f) S).t.Fit S.N/\(q.foldl (lose f) S).t.blanks=S.t.blanks
 | [],S,h=>⟨rfl,rfl,rfl,rfl,rfl,h,rfl⟩
 | d::q,S,h=>by
  obtain⟨e1,e2,e3,e4,e5⟩:=lose_N f S d;have ht:=lose_t f S d h;have ih:=foldl_lose f q (lose f S d) (by rw[e1];exact ht.1);rw[List.foldl_cons];rw[e1,e2,e3,e4,e5,ht.2]at ih;exact ih
theorem loses_same (S:Dv) (f:Int) (h:S.t.Fit S.N):(S.loses f).N=S.N/\(S.loses f).T=S.T/\(S.loses f).op=S.op/\(S.loses f).row=S.row/\(S.loses f).next=S.next/\(S.loses f).t.Fit S.N/\(S.loses f).t.blanks=S.t.blanks:=foldl_lose f _ S h
theorem Ok.loses (h:S.Ok k m) (f:Int):(S.loses f).Ok k m:=by
 obtain⟨e1,e2,_,e4,e5,e6,_⟩:=loses_same S f h.t;exact⟨by rw[e1];exact h.gd,by rw[e1];exact e6,by rw[e2];exact h.T,by rw[e2];exact h.sl,by rw[e4];exact h.row,by rw[e5];exact h.next⟩
theorem pick_spec (S:Dv):S.pick= -1\/(0<=S.pick/\S.pick<S.t.b/\S.pick≠S.op/\y9 S.t S.T S.pick=true):=by
 rcases a5w (λx y=>C1 (S.t.wear x) (S.t.wear y)) (y9 S.t S.T) S.op S.t.b with h | h
 ·exact .inl h.1
 ·exact .inr (mem_pkSome.1 h.1)
theorem pick_blank {S:Dv} (h:¬S.pick<0):S.t.blank S.pick=true:=by
 rcases S.pick_spec with e | ⟨_,_,_,e⟩
 ·omega
 ·simp only[y9,Bool.and_eq_true]at e;exact e.1.2
theorem Ok.opened (h:S.Ok k m):S.opened.Ok k m:=⟨h.gd,h.t.clean _ _,h.T,h.sl,by show(0:Int)<=0/\(0:Int)<=8;omega,h.next⟩
theorem puts_ok {T:Tb} (h:T.Ok) (hs:∀x∈T.at_,0<=x.2.slot/\x.2.slot<=1000) (b r mk:Int) (es:List En):∀n,n<=1000->(puts T b r mk es n).Ok/\(∀x∈(puts T b r mk es n).at_,0<=x.2.slot/\x.2.slot<=1000)/\(puts T b r mk es n).logical=T.logical
 | 0,_=>⟨h,hs,rfl⟩
 | n+1,hn=>by
  have ih:=puts_ok h hs b r mk es n (by omega);have e:puts T b r mk es (n+1)=(puts T b r mk es n).put (es.getD n En.zero) b r (n:Nat) mk:=by unfold puts;rw[List.range_succ,List.foldl_append];rfl
  rw[e];exact⟨ih.1.put _ _ _ _ _,Tb.put_slot ih.2.1 (by omega),by rw[Tb.put_logical];exact ih.2.2⟩
theorem puts_succ (T:Tb) (b r mk:Int) (es:List En) (n:Nat):puts T b r mk es (n+1)=(puts T b r mk es n).put (es.getD n En.zero) b r (n:Nat) mk:=by unfold puts;rw[List.range_succ,List.foldl_append];rfl
def mu (S:Dv):Nat:=9*S.t.blanks+(if S.left then(S.N.pages-S.row).toNat else 0)
theorem mu_le (h:S.Ok k m):S.mu<=152:=by
 have h1:=Tl.blanks_le h.t.len;have h2:=h.gd.ok.bd16;have h3:=h.t.b;have h4:=h.row;unfold mu;split<;>omega
theorem left_spec (h:S.left=true):0<=S.op/\S.row<S.N.pages/\0<G.slots S.mask:=by
 simp only[left,Bool.and_eq_true,decide_eq_true_eq]at h;omega
def at1 (S:Dv):Dv:=if S.left then S else S.opened
theorem Ok.at1 (h:S.Ok k m):S.at1.Ok k m:=by unfold Dv.at1;split;(· exact h);exact h.opened
theorem at1_like (S:Dv):S.at1.N=S.N/\S.at1.T=S.T/\S.at1.next=S.next:=by unfold at1;split<;>exact⟨rfl,rfl,rfl⟩
theorem usable_slots {t:Tl} {b:Int} (h:t.usable b=true):0<G.slots (t.mask b):=by simpa[Tl.usable]using h
theorem mask_clean {t:Tl} (hl:t.l.length=t.b) (k:Int) (on:Bool) (j:Int):(t.clean k on).mask j=t.mask j:=by
 unfold Tl.clean Tl.mask Tl.alive;have e1:(t.set k {t.at_ k with used:=!on}).has j=t.has j:=by unfold Tl.has;rw[Tl.set_b]
 rw[e1,Tl.set_d,Tl.set_dead];split
 ·rename_i hj;congr 1;unfold Tl.set;split
  ·rename_i hk;unfold Tl.at_;dsimp only
   by_cases e:k.toNat=j.toNat
   ·simp only[Tl.has,Bool.and_eq_true,decide_eq_true_eq]at hk hj;have:k=j:=by omega
    subst this;rw[List.getD_eq_getElem?_getD,List.getElem?_set_self (by omega)];rfl
   ·rw[List.getD_eq_getElem?_getD,List.getElem?_set_ne e,<- List.getD_eq_getElem?_getD]
  ·rfl
 ·rfl
theorem at1_left (h:S.Ok k m) (h0:¬(S.left=false/\S.pick<0)):S.at1.left=true/\S.at1.op<S.N.blocks\/S.left=true:=by
 unfold at1;cases hl:S.left with
 | true=>exact .inr rfl
 | false=>
  left;rw[if_neg Bool.false_ne_true];have hp:¬S.pick<0:=λe=>h0 ⟨hl,e⟩;rcases S.pick_spec with e | ⟨e1,e2,_,e4⟩
  ·omega
  ·have hb:=h.gd.ok.bd16;have htb:=h.t.b;simp only[y9,Bool.and_eq_true]at e4;have hu:=usable_slots e4.1.1;refine⟨?_,by show S.pick<_;omega⟩;have g1:S.opened.op=S.pick:=rfl;have g2:S.opened.row=0:=rfl;have g3:S.opened.mask=S.t.mask S.pick:=mask_clean h.t.len _ _ _;have g4:S.opened.N=S.N:=rfl;unfold left;rw[g1,g2,g3,g4,decide_eq_true (by omega),decide_eq_true (by omega),decide_eq_true (by omega)];rfl
theorem at1_left' (h:S.Ok k m) (h0:¬(S.left=false/\S.pick<0)):S.at1.left=true:=by
 rcases at1_left h h0 with e | e
 ·exact e.1
 ·unfold at1;rw[if_pos e];exact e
theorem mu_at1 (h:S.Ok k m) (h0:¬(S.left=false/\S.pick<0)):S.at1.mu<=S.mu:=by
 unfold at1;cases hl:S.left with
 | true=>rw[if_pos rfl];exact Nat.le_refl _
 | false=>
  rw[if_neg Bool.false_ne_true];have hp:¬S.pick<0:=λe=>h0 ⟨hl,e⟩;have h1:=Tl.blanks_open h.t.len (pick_blank hp);have h2:=h.gd.ok.bd16;have e1:S.opened.t.blanks=(S.t.clean S.pick false).blanks:=rfl;have e2:S.opened.N.pages=S.N.pages:=rfl;have e3:S.opened.row=0:=rfl;unfold mu;rw[e1,e2,e3,hl];split<;>simp only[Bool.false_eq_true,if_false]<;>omega
theorem wr_gd (h:S.Ok (8+k) m) {l:List En} (hd:∀s∈l,s.data.length=16):(S.wr l).1.Gd k m:=a1a (num_data hd _ _) h.gd
theorem wr_like (S:Dv) (l:List En):S.N.Like (S.wr l).1:=a8Q _ _ _ _ _
theorem Ok.wrote (h:S.Ok (8+k) m) {l:List En} (hd:∀s∈l,s.data.length=16) (hr:S.row<S.N.pages) (hn:¬S.next>1099511627775-(S.fit l:Int)+1):(S.wrote l).Ok k m:=by
 have h1:=h.gd.ok.bd16;have h2:=h.row;have h3:=h.next;exact⟨wr_gd h hd,h.t.like (S.wr_like l),h.T,h.sl,by show 0<=S.row+1/\S.row+1<=8;omega,by show 1<=S.next+(S.fit l:Int)/\S.next+(S.fit l:Int)<=1099511627776;omega⟩
theorem mu_wrote (h:S.Ok (8+k) m) (hl:S.left=true) (l:List En) (f:Int):((S.wrote l).loses f).mu<S.mu:=by
 have ht:(S.wrote l).t.Fit (S.wrote l).N:=h.t.like (S.wr_like l);obtain⟨e1,_,_,e4,_,_,e7⟩:=loses_same (S.wrote l) f ht;have hs:=left_spec hl;have hp:=(S.wr_like l).pages;unfold mu;rw[e7,e1,e4,hl];have e8:(S.wrote l).row=S.row+1:=rfl;have e9:(S.wrote l).N.pages=S.N.pages:=hp;have e10:(S.wrote l).t=S.t:=rfl;rw[e8,e9,e10,if_pos rfl];split<;>omega
theorem write_succ (f:Nat) (S:Dv) (l:List En):write (f+1) S l=(if l.length=0 then(S,0,0)else if S.left=false/\S.pick<0 then(S,0,11)else if S.at1.next>1099511627775-(S.at1.fit l:Int)+1 then(S.at1,0,11)else if(S.at1.wr l).2.2=1 then({S.at1 with next:=S.at1.next+S.at1.fit l,N:=(S.at1.wr l).1},0,1)else if(S.at1.wr l).2.2=0 then({S.at1.wrote l with T:=puts S.at1.T S.at1.op S.at1.row S.at1.mask (S.at1.es l) (S.at1.fit l)},S.at1.fit l,0)else if(S.at1.wr l).2.2=9 then(S.at1.wrote l,0,9)else write f ((S.at1.wrote l).loses (S.at1.wr l).2.1) l:Dv×Int×Int):=rfl
theorem write_keep:∀(f:Nat) (S:Dv) (l:List En) (k:Nat),S.Ok (8*f+k) m->(∀s∈l,s.data.length=16)->(write f S l).1.Ok k m/\S.N.Like (write f S l).1.N/\(write f S l).1.T.logical=S.T.logical
 | 0,S,l,k,h,hd=>⟨h.less (by omega),Nand.Like.refl _,rfl⟩
 | f+1,S,l,k,h,hd=>by
  rw[write_succ];have ha:=at1_like S;have h1:S.at1.Ok (8+(8*f+k)) m:=h.at1.less (by omega);split
  ·exact⟨h.less (by omega),Nand.Like.refl _,rfl⟩
  split
  ·exact⟨h.less (by omega),Nand.Like.refl _,rfl⟩
  rename_i h0;split
  ·exact⟨h1.less (by omega),by rw[ha.1];exact Nand.Like.refl _,by rw[ha.2.1]⟩
  rename_i hn;have hlf:=at1_left' h h0;have hs:=left_spec hlf;have hw:=h1.wrote hd hs.2.1 hn;have hlk:S.N.Like (S.at1.wr l).1:=by have:=S.at1.wr_like l;rw[ha.1]at this;exact this
  split
  ·exact⟨⟨hw.gd.less (by omega) (Nat.le_refl _),hw.t,h1.T,h1.sl,h1.row,hw.next⟩,hlk,by show S.at1.T.logical=_;rw[ha.2.1]⟩
  split
  ·have hp:=puts_ok h1.T h1.sl S.at1.op S.at1.row S.at1.mask (S.at1.es l) (S.at1.fit l) (by have:=fit_le S.at1 l;omega);exact⟨⟨hw.gd.less (by omega) (Nat.le_refl _),hw.t,hp.1,hp.2.1,hw.row,hw.next⟩,hlk,by show(puts _ _ _ _ _ _).logical=_;rw[hp.2.2,ha.2.1]⟩
  split
  ·exact⟨hw.less (by omega),hlk,by show S.at1.T.logical=_;rw[ha.2.1]⟩
  ·have ho:=hw.loses (S.at1.wr l).2.1;have hsm:=loses_same (S.at1.wrote l) (S.at1.wr l).2.1 hw.t;have ih:=write_keep f _ l k ho hd;refine⟨ih.1,?_,?_⟩
   ·have:=ih.2.1;rw[hsm.1]at this;exact hlk.trans this
   ·rw[ih.2.2,hsm.2.1];show S.at1.T.logical=_;rw[ha.2.1]
theorem pen_keep (h:S.Ok (8*fuel+k) m) {l:List En} (hd:∀s∈l,s.data.length=16):(S.pen l).1.Ok k m/\S.N.Like (S.pen l).1.N/\(S.pen l).1.T.logical=S.T.logical:=write_keep fuel S l k h hd
theorem write_took:∀(f:Nat) (S:Dv) (l:List En) (k:Nat),S.Ok (8*f+k) m->(∀s∈l,s.data.length=16)->S.mu<f->(write f S l).2.2=0->l.length≠0->1<=(write f S l).2.1/\(write f S l).2.1<=l.length/\(write f S l).2.1<=7
 | 0,S,l,k,h,hd,hm,h0,hl=>by omega
 | f+1,S,l,k,h,hd,hm,h0,hl=>by
  rw[write_succ]at h0 ⊢;rw[if_neg hl]at h0 ⊢;split at h0
  ·cases h0
  rename_i hp;rw[if_neg hp];split at h0
  ·cases h0
  rename_i hn;rw[if_neg hn];have hlf:=at1_left' h hp;have hs:=left_spec hlf;have h1:S.at1.Ok (8+(8*f+k)) m:=h.at1.less (by omega);split at h0
  ·cases h0
  rename_i e1;rw[if_neg e1];split at h0
  ·rename_i e2;rw[if_pos e2];have:=fit_le S.at1 l;have h2:1<=S.at1.fit l:=by unfold fit;omega
   dsimp only;omega
  rename_i e2;rw[if_neg e2];split at h0
  ·cases h0
  rename_i e3;rw[if_neg e3];have h3:=mu_at1 h hp;have h4:=mu_wrote h1 hlf l (S.at1.wr l).2.1;have hw:=h1.wrote hd hs.2.1 hn;exact write_took f _ l k (hw.loses _) hd (by omega) h0 hl
theorem pen_took (h:S.Ok (8*fuel+k) m) {l:List En} (hd:∀s∈l,s.data.length=16) (h0:(S.pen l).2.2=0) (hl:l.length≠0):1<=(S.pen l).2.1/\(S.pen l).2.1<=l.length/\(S.pen l).2.1<=7:=
 write_took fuel S l k h hd (by have:=mu_le h;unfold fuel;omega) h0 hl
end Dv
end Go.Proofs.YtgkpkpbnonmopaaGreat
namespace Go.Proofs.YtgkpkpbnonmopaaGreat
namespace Bt
theorem byte_bit:∀b0 b1 b2 b3 b4 b5 b6 b7:Bool,∀i:Fin 8,(b0.toNat*128+b1.toNat*64+b2.toNat*32+b3.toNat*16+b4.toNat*8+b5.toNat*4+b6.toNat*2+b7.toNat).testBit (7-i.1)=[b0,b1,b2,b3,b4,b5,b6,b7].getD i.1 false:=by decide+kernel
theorem byte_bit2 (b0 b1 b2 b3 b4 b5 b6 b7:Bool) (i:Nat) (hi:i<8):(b0.toNat*128+b1.toNat*64+b2.toNat*32+b3.toNat*16+b4.toNat*8+b5.toNat*4+b6.toNat*2+b7.toNat).testBit (7-i)=[b0,b1,b2,b3,b4,b5,b6,b7].getD i false:=byte_bit b0 b1 b2 b3 b4 b5 b6 b7 ⟨i,hi⟩
theorem byteAt_bit (l:List Bool) (q i:Nat) (hi:i<8):(byteAt l q).testBit (7-i)=l.getD (q+i) false:=by
 unfold byteAt;rw[byte_bit2 _ _ _ _ _ _ _ _ i hi]
 match i,hi with
 | 0,_=>rfl
 | 1,_=>rfl
 | 2,_=>rfl
 | 3,_=>rfl
 | 4,_=>rfl
 | 5,_=>rfl
 | 6,_=>rfl
 | 7,_=>rfl
theorem bitAt_pack (l:List Bool) (j:Nat) (h:j<l.length):bitAt (pack l) j=l.getD j false:=by
 have h1:(pack l).getD (j/8) 0=UInt8.ofNat (byteAt l (8*(j/8))):=by
  rw[List.getD_eq_getElem?_getD,pack_get l (j/8) (by omega)];rfl
 have h2:(UInt8.ofNat (byteAt l (8*(j/8)))).toNat=byteAt l (8*(j/8)):=by
  rw[UInt8.toNat_ofNat',Nat.mod_eq_of_lt (byteAt_lt l _)]
 unfold bitAt;rw[h1,h2,byteAt_bit l _ _ (Nat.mod_lt _ (by omega)),Nat.div_add_mod]
theorem numAt_eq (b:List UInt8) (k w u:Nat) (h:∀i<w,bitAt b (k+i)=u.testBit (w-1-i)):∀v,v<=w->numAt b k v=u/2^(w-v) % 2^v
 | 0,_=>by simp[numAt,Nat.mod_one]
 | v+1,hv=>by
  rw[numAt,numAt_eq b k w u h v (by omega),h v (by omega),Nat.testBit_eq_decide_div_mod_eq];have e1:w-v=(w-1-v)+1:=by omega
  have e2:w-(v+1)=w-1-v:=by omega
  rw[e1,e2,Nat.pow_succ,<- Nat.div_div_eq_div_mul,Nat.pow_succ 2 v,Nat.mul_comm (2^v) 2,Nat.mod_mul];generalize u/2^(w-1-v)=x;rcases Nat.mod_two_eq_zero_or_one x with hx | hx
  ·rw[hx];simp
  ·rw[hx];simp[Nat.add_comm]
theorem numAt_pack (A B:List Bool) (u w k:Nat) (hk:A.length=k):numAt (pack (A++(bits u w++B))) k w=u % 2^w:=by
 have:=numAt_eq (pack (A++(bits u w++B))) k w u (λi hi=>by
  have hb:(bits u w).length=w:=length_bits u w;rw[bitAt_pack _ _ (by simp[hb];omega),List.getD_eq_getElem?_getD,List.getElem?_append_right (by omega),hk,Nat.add_sub_cancel_left,List.getElem?_append_left (by omega)];simp[bits,hi]) w (Nat.le_refl _)
 rw[this,Nat.sub_self,Nat.pow_zero,Nat.div_one]
end Bt
namespace S
def hdL (M b r m k c:Nat):List Bool:=Bt.bits M 64++(Bt.bits b 8++(Bt.bits r 8++(Bt.bits m 8++(Bt.bits k 8++Bt.bits c 32))))
theorem hdL_eq (s:Sh) (c:Nat):head s++Bt.bits c 32=hdL (meta_ s.role s.lpn s.seq) s.block.toNat s.row.toNat s.mask.toNat s.kind.toNat c:=by
 unfold head hdL;generalize meta_ s.role s.lpn s.seq=M;simp only[List.append_assoc]
theorem hd1 (M b r m k c:Nat):Bt.numAt (Bt.pack (hdL M b r m k c)) 0 64=M % 2^64:=Bt.numAt_pack [] _ M 64 0 rfl
theorem hd2 (M b r m k c:Nat):Bt.numAt (Bt.pack (hdL M b r m k c)) 64 8=b % 2^8:=Bt.numAt_pack (Bt.bits M 64) _ b 8 64 (Bt.length_bits _ _)
theorem hd3 (M b r m k c:Nat):Bt.numAt (Bt.pack (hdL M b r m k c)) 72 8=r % 2^8:=by
 have:=Bt.numAt_pack (Bt.bits M 64++Bt.bits b 8) (Bt.bits m 8++(Bt.bits k 8++Bt.bits c 32)) r 8 72 (by rw[List.length_append,Bt.length_bits,Bt.length_bits]);rw[<- this,List.append_assoc];rfl
theorem hd4 (M b r m k c:Nat):Bt.numAt (Bt.pack (hdL M b r m k c)) 80 8=m % 2^8:=by
 have:=Bt.numAt_pack (Bt.bits M 64++(Bt.bits b 8++Bt.bits r 8)) (Bt.bits k 8++Bt.bits c 32) m 8 80 (by rw[List.length_append,List.length_append,Bt.length_bits,Bt.length_bits,Bt.length_bits]);rw[<- this,List.append_assoc,List.append_assoc];rfl
theorem hd5 (M b r m k c:Nat):Bt.numAt (Bt.pack (hdL M b r m k c)) 88 8=k % 2^8:=by
 have:=Bt.numAt_pack (Bt.bits M 64++(Bt.bits b 8++(Bt.bits r 8++Bt.bits m 8))) (Bt.bits c 32) k 8 88 (by rw[List.length_append,List.length_append,List.length_append,Bt.length_bits,Bt.length_bits,Bt.length_bits,Bt.length_bits]);rw[<- this,List.append_assoc,List.append_assoc,List.append_assoc];rfl
theorem meta_back (role lpn seq:Int) (h1:0<=role/\role<=255) (h2:0<=lpn/\lpn<=65535) (h3:0<=seq/\seq<=1099511627775):((meta_ role lpn seq/72057594037927936:Nat):Int)=role/\((meta_ role lpn seq/1099511627776 % 65536:Nat):Int)=lpn/\((meta_ role lpn seq % 1099511627776:Nat):Int)=seq:=by
 unfold meta_;refine⟨?_,?_,?_⟩<;>omega
theorem fields_put (s:Sh) (hd:s.data.length=16) (h:may s=true):fields (put s)=s:=by
 obtain⟨hb,hr,hm,hk⟩:=may_bounds s h;have hn:(0<=s.seq/\s.seq<=1099511627775)/\(0<=s.lpn/\s.lpn<=65535)/\(0<=s.role/\s.role<=255):=by
  simp only[may,numbers,inB,Bool.and_eq_true,decide_eq_true_eq]at h;omega
 obtain⟨k1,k2,k3⟩:=meta_back s.role s.lpn s.seq hn.2.2 hn.2.1 hn.1;have hM:=meta_lt s.role s.lpn s.seq;obtain⟨M,hMe⟩:∃M,meta_ s.role s.lpn s.seq=M:=⟨_,rfl⟩;obtain⟨c,hc⟩:∃c,K.sum (s.data++Bt.pack (head s))=c:=⟨_,rfl⟩;have hp:put s=s.data++Bt.pack (hdL M s.block.toNat s.row.toNat s.mask.toNat s.kind.toNat c):=by rw[put,hc,hdL_eq,hMe]
 rw[hMe]at k1 k2 k3 hM;have e1:(put s).take 16=s.data:=by rw[hp,<- hd,List.take_left]
 have e2:(put s).drop 16=Bt.pack (hdL M s.block.toNat s.row.toNat s.mask.toNat s.kind.toNat c):=by rw[hp,<- hd,List.drop_left]
 have m1:=hd1 M s.block.toNat s.row.toNat s.mask.toNat s.kind.toNat c;have m2:=hd2 M s.block.toNat s.row.toNat s.mask.toNat s.kind.toNat c;have m3:=hd3 M s.block.toNat s.row.toNat s.mask.toNat s.kind.toNat c;have m4:=hd4 M s.block.toNat s.row.toNat s.mask.toNat s.kind.toNat c;have m5:=hd5 M s.block.toNat s.row.toNat s.mask.toNat s.kind.toNat c;have f:∀x:Int,0<=x/\x<=255->((x.toNat % 2^8:Nat):Int)=x:=λx hx=>by
  rw[Nat.mod_eq_of_lt (by omega)];omega
 rw[Nat.mod_eq_of_lt (show M<2^64 from hM)]at m1;have f1:=f s.block ⟨hb.1,by omega⟩;have f2:=f s.row ⟨hr.1,by omega⟩;have f3:=f s.mask hm;have f4:=f s.kind ⟨by omega,by omega⟩;unfold fields;simp only[e1,e2,m1,m2,m3,m4,m5,k1,k2,k3,f1,f2,f3,f4]
theorem get_put (s:Sh) (hd:s.data.length=16) (h:may s=true):get (put s)=some s:=by
 unfold get;rw[fields_put s hd h,if_pos ⟨h,rfl⟩]
theorem getV_put (s:Sh) (hd:s.data.length=16) (h:may s=true):getV (put s)=s/\getE (put s)=0:=by
 unfold getV getE;rw[get_put s hd h];exact⟨rfl,rfl⟩
end S
end Go.Proofs.YtgkpkpbnonmopaaGreat
namespace Go.Proofs.YtgkpkpbnonmopaaGreat
open Go
namespace K
theorem xor_cancel {a b c:Nat} (h:a ^^^ c=b ^^^ c):a=b:=by
 have:=congrArg (· ^^^ c) h;simpa[Nat.xor_assoc]using this
theorem round_inj {s t:Nat} (hs:s<4294967296) (ht:t<4294967296) (h:round s=round t):s=t:=by
 have odd:∀a:Nat,a % 2=0->(a ^^^ 1947962583) % 2=1:=λa ha=>by
  have h0:(a ^^^ 1947962583).testBit 0=true:=by
   rw[Nat.testBit_xor,Nat.testBit_zero,Nat.testBit_zero,decide_eq_false (by omega)];rfl
  rw[Nat.testBit_zero]at h0;exact of_decide_eq_true h0
 unfold round at h;split at h
 ·split at h
  ·omega
  ·have:=odd (t*2 % 4294967296) (by omega);omega
 ·split at h
  ·have:=odd (s*2 % 4294967296) (by omega);omega
  ·have:=xor_cancel h;omega
theorem rounds_inj:∀(n:Nat) {s t:Nat},s<4294967296->t<4294967296->rounds n s=rounds n t->s=t
 | 0,_,_,_,_,h=>h
 | n+1,s,t,hs,ht,h=>rounds_inj n hs ht (round_inj (rounds_lt n s hs) (rounds_lt n t ht) h)
theorem step_lt0 {s x:Nat} (hs:s<4294967296) (hx:x<256):s ^^^ (x*16777216)<4294967296:=Nat.xor_lt_two_pow (n:=32) (by omega) (by omega)
theorem step_inj {s t x:Nat} (hs:s<4294967296) (ht:t<4294967296) (hx:x<256) (h:step s x=step t x):s=t:=
 xor_cancel (rounds_inj 8 (step_lt0 hs hx) (step_lt0 ht hx) h)
theorem step_inj2 {s x y:Nat} (hs:s<4294967296) (hx:x<256) (hy:y<256) (h:step s x=step s y):x=y:=by
 have h1:=rounds_inj 8 (step_lt0 hs hx) (step_lt0 hs hy) h;rw[Nat.xor_comm s,Nat.xor_comm s]at h1;have:=xor_cancel h1;omega
theorem fold_inj (l:List UInt8):∀s t:Nat,s<4294967296->t<4294967296->l.foldl (λs x=>step s x.toNat) s=l.foldl (λs x=>step s x.toNat) t->s=t:=by
 induction l with
 | nil=>intro s t _ _ h;exact h
 | cons x l ih=>
  intro s t hs ht h;have hx:x.toNat<256:=x.toNat_lt;rw[List.foldl_cons,List.foldl_cons]at h;exact step_inj hs ht hx (ih _ _ (step_lt _ _ hs hx) (step_lt _ _ ht hx) h)
theorem sum_one (a b:List UInt8) (x y:UInt8) (h:sum (a++x::b)=sum (a++y::b)):x=y:=by
 unfold sum at h;rw[List.foldl_append,List.foldl_append,List.foldl_cons,List.foldl_cons]at h;have hs:=foldl_lt a 4294967295 (by omega);have hx:x.toNat<256:=x.toNat_lt;have hy:y.toNat<256:=y.toNat_lt;have:=step_inj2 hs hx hy (fold_inj b _ _ (step_lt _ _ hs hx) (step_lt _ _ hs hy) h);exact UInt8.toNat_inj.1 this
end K
namespace Bt
theorem byteAt_congr {a b:List Bool} {i j:Nat} (h:∀k,k<8->a.getD (i+k) false=b.getD (j+k) false):byteAt a i=byteAt b j:=by
 have h0:=h 0 (by omega);rw[Nat.add_zero,Nat.add_zero]at h0;unfold byteAt;rw[h0,h 1 (by omega),h 2 (by omega),h 3 (by omega),h 4 (by omega),h 5 (by omega),h 6 (by omega),h 7 (by omega)]
theorem pack_append (A C:List Bool) (q:Nat) (hA:A.length=8*q):pack (A++C)=pack A++pack C:=by
 apply List.ext_getElem?;intro j;have hl:(pack A).length=q:=by rw[length_pack,hA];omega
 rw[List.getElem?_append,hl]
 by_cases hj:j<(A.length+C.length+7)/8
 ·rw[pack_get _ _ (by rw[List.length_append];exact hj)];split
  ·rename_i h;rw[pack_get _ _ (by rw[hA];omega)];congr 2;refine byteAt_congr λk hk=>?_;simp only[List.getD_eq_getElem?_getD];rw[List.getElem?_append_left (by omega)]
  ·rename_i h;rw[pack_get _ _ (by omega)];congr 2;refine byteAt_congr λk hk=>?_;simp only[List.getD_eq_getElem?_getD];rw[List.getElem?_append_right (by omega)];congr 2;omega
 ·rw[List.getElem?_eq_none (by rw[length_pack,List.length_append];omega),if_neg (by omega),List.getElem?_eq_none (by rw[length_pack];omega)]
theorem bits_inj {u v:Nat} (hu:u<4294967296) (hv:v<4294967296) (h:pack (bits u 32)=pack (bits v 32)):u=v:=by
 have h1:=numAt_pack [] [] u 32 0 rfl;have h2:=numAt_pack [] [] v 32 0 rfl;simp only[List.nil_append,List.append_nil]at h1 h2;rw[h,h2]at h1;omega
end Bt
namespace S
theorem put_tail (s:Sh) (hs:s.data.length=16):put s=(put s).take 28++Bt.pack (Bt.bits (K.sum ((put s).take 28)) 32):=by
 have hl:(Bt.pack (head s)).length=12:=by rw[Bt.length_pack,length_head]
 have h1:put s=(s.data++Bt.pack (head s))++Bt.pack (Bt.bits (K.sum (s.data++Bt.pack (head s))) 32):=by
  unfold put;rw[Bt.pack_append _ _ 12 (length_head s),List.append_assoc]
 have h2:(put s).take 28=s.data++Bt.pack (head s):=by
  rw[h1];exact List.take_left' (by rw[List.length_append,hs,hl])
 rw[h2];exact h1
theorem turned_none (s:Sh) (hs:s.data.length=16) (N:Nat) (hN:N<32) (y:UInt8) (hy:y≠(put s).getD N 0):get ((put s).set N y)=none:=by
 have hpl:=length_put s hs;unfold get;rw[if_neg];rintro⟨_,h2⟩;have hx:(fields ((put s).set N y)).data.length=16:=by
  show(((put s).set N y).take 16).length=16;rw[List.length_take,List.length_set,hpl];rfl
 have t1:=put_tail s hs;have t2:=put_tail (fields ((put s).set N y)) hx;rw[h2]at t2;have hd:∀l:List UInt8,l.length=32->∀t,l=l.take 28++t->l.drop 28=t:=λl hl t h=>by
  have:=congrArg (List.drop 28) h
  rwa [List.drop_left' (by rw[List.length_take,hl];rfl)]at this
 have d1:=hd _ hpl _ t1;have d2:=hd _ (by rw[List.length_set];exact hpl) _ t2;have hg:(put s).getD N 0=(put s)[N]'(by omega):=by rw[List.getD_eq_getElem?_getD,List.getElem?_eq_getElem (by omega),Option.getD_some]
 rcases Nat.lt_or_ge N 28 with h | h
 ·have e1:((put s).set N y).drop 28=(put s).drop 28:=by rw[List.drop_set,if_pos h]
  rw[e1,d1]at d2;have hsum:=Bt.bits_inj (K.sum_lt _) (K.sum_lt _) d2;have hl28:((put s).take 28).length=28:=by rw[List.length_take,hpl];rfl
  have hN28:N<((put s).take 28).length:=by omega
  have hel:((put s).take 28)[N]=(put s)[N]'(by omega):=List.getElem_take;have ha:(put s).take 28=((put s).take 28).take N++(put s)[N]'(by omega)::((put s).take 28).drop (N+1):=by
   rw[<- hel,<- List.drop_eq_getElem_cons hN28,List.take_append_drop]
  have hb:((put s).set N y).take 28=((put s).take 28).take N++y::((put s).take 28).drop (N+1):=by
   rw[List.take_set,List.set_eq_take_append_cons_drop,if_pos (by omega)]
  rw[hb]at hsum;have hsum:=(congrArg K.sum ha).symm.trans hsum;exact hy ((K.sum_one _ _ _ _ hsum).symm.trans hg.symm)
 ·have e1:((put s).set N y).take 28=(put s).take 28:=by rw[List.take_set,List.set_eq_of_length_le (by rw[List.length_take,hpl];omega)]
  rw[e1]at t2;have e2:(put s).set N y=put s:=t2.trans t1.symm;have:=congrArg (λl:List UInt8=>l.getD N 0) e2;simp only[List.getD_eq_getElem?_getD,List.getElem?_set,hpl,if_pos hN,if_true,Option.getD_some]at this;rw[List.getD_eq_getElem?_getD]at hy;exact hy this
end S
def b4Q (M q:Nat):Bool:=
 let p:=L.at_ M q
 if q<L.count M then
  L.has M p&&decide (0<=p)&&decide (p<6)&&
  ((List.range (L.count M-1)).all λk=>let d:=L.at_ (L.without M p) (k:Nat);L.has M d&&d !=p&&decide (0<=d)&&decide (d<6)&&(List.range k).all λk'=>L.at_ (L.without M p) (k':Nat) !=d)&&
  ((List.range 6).all λd=>!L.has M (d:Nat)||((d:Nat):Int)==p||(List.range (L.count M-1)).any λk=>L.at_ (L.without M p) (k:Nat)==((d:Nat):Int))
 else true
theorem a9B:∀M,M<64->∀q,q<6->b4Q M q=true:=by decide+kernel
theorem b2c:∀M,M<64->L.count (M:Nat)<=6:=by decide+kernel
structure DieFacts (m b r:Int):Prop where
 par:L.has m (G.parity m b r)=true/\0<=G.parity m b r/\G.parity m b r<6
 die:∀k:Nat,(k:Int)<G.slots m->L.has m (G.die m b r k)=true/\G.die m b r k≠G.parity m b r/\0<=G.die m b r k/\G.die m b r k<6
 inj:∀k k':Nat,(k:Int)<G.slots m->k'<k->G.die m b r k'≠G.die m b r k
 all:∀d:Nat,d<6->L.has m (d:Nat)=true->(d:Int)=G.parity m b r\/∃k:Nat,(k:Int)<G.slots m/\G.die m b r k=d
theorem b4P (m b r:Int) (h0:0<=m) (h1:m<64) (hc:2<=L.count m) (hb:0<=b) (hr:0<=r):DieFacts m b r:=by
 obtain⟨M,rfl⟩:=Int.eq_ofNat_of_zero_le h0;have hM:M<64:=by omega
 have hp:G.parity M b r=L.at_ M ((b+r) % L.count (M:Int)):=by unfold G.parity;rw[if_neg (by omega)]
 have hs:G.slots M=(L.count (M:Int):Int)-1:=by unfold G.slots;rw[if_neg (by omega)]
 have hq:0<=(b+r) % (L.count (M:Int):Int)/\(b+r) % (L.count (M:Int):Int)<L.count (M:Int):=⟨Int.emod_nonneg _ (by omega),Int.emod_lt_of_pos _ (by omega)⟩;obtain⟨q,hq2⟩:=Int.eq_ofNat_of_zero_le hq.1;have h6:=b2c M hM;have hchk:=a9B M hM q (by omega);rw[hq2]at hp hq;unfold b4Q at hchk;rw[if_pos (by omega)]at hchk;simp only[<- hp]at hchk;simp only[Bool.and_eq_true,decide_eq_true_eq,List.all_eq_true,List.mem_range,bne_iff_ne,ne_eq,Bool.or_eq_true,List.any_eq_true,Bool.not_eq_true',beq_iff_eq]at hchk;obtain⟨⟨⟨⟨c1,c2⟩,c3⟩,c4⟩,c5⟩:=hchk;have hd:∀k:Nat,G.die M b r k=L.at_ (L.without M (G.parity M b r)) (k:Nat):=λk=>by unfold G.die;rw[if_neg (by omega)]
 refine⟨⟨c1,c2,c3⟩,λk hk=>?_,λk k' hk hkk=>?_,λd hd6 hh=>?_⟩
 ·obtain⟨⟨⟨⟨a1,a2⟩,a3⟩,a4⟩,_⟩:=c4 k (by omega);rw[hd];exact⟨a1,a2,a3,a4⟩
 ·obtain⟨_,a5⟩:=c4 k (by omega);rw[hd,hd];exact a5 k' hkk
 ·rcases c5 d hd6 with(h | h) | ⟨k,h,h'⟩
  ·rw[hh]at h;cases h
  ·exact .inl h
  ·exact .inr ⟨k,by omega,by rw[hd];exact h'⟩
theorem a0T {m:Int} {D d:Nat} (h:m<2^D) (hh:L.has m (d:Nat)=true):d<D:=by
 obtain⟨h1,h2,h3,h4⟩:=L.has_lt m d hh;obtain⟨M,rfl⟩:=Int.eq_ofNat_of_zero_le h3;simp only[L.has,Bool.and_eq_true,Int.toNat_natCast]at hh;rcases Nat.lt_or_ge d D with hlt | hge
 ·exact hlt
 ·have hM:M<2^D:=by
   have e:((2^D:Nat):Int)=2^D:=by simp
   omega
  have:M<2^d:=Nat.lt_of_lt_of_le hM (Nat.pow_le_pow_right (by omega) hge);rw[Nat.testBit_lt_two_pow this]at hh;simp at hh
namespace Nand
variable {N : Nand}
theorem geoIn_of {d b p x y z:Int} (h1:0<=x/\x<d) (h2:0<=y/\y<b) (h3:0<=z/\z<p):C7 d b p x y z=true:=by
 simp[C7,h1,h2,h3]
end Nand
theorem a2X {α:Type} (n:Nat) (f:Nat->α) (h:∀k k',k<n->k'<k->f k'≠f k):((List.range n).map f).Nodup:=by
 rw[List.nodup_iff_pairwise_ne,List.pairwise_map,List.pairwise_iff_getElem];intro i j hi hj hij;simp only[List.getElem_range];exact h j i (by simpa using hj) hij
theorem mem_job {b r m:Int} {l:List En} {x:Int×Sh}:x∈R.job b r m l↔(∃k,k<l.length/\x=(G.die m b r (k:Nat),W.sh b r m (l.getD k En.zero)))\/x=(G.parity m b r,W.parS b r m l):=by
 simp only[R.job,List.mem_append,List.mem_map,List.mem_range,List.mem_singleton];constructor
 ·rintro(⟨k,h,rfl⟩ | rfl)
  ·exact .inl ⟨k,h,rfl⟩
  ·exact .inr rfl
 ·rintro(⟨k,h,rfl⟩ | rfl)
  ·exact .inl ⟨k,h,rfl⟩
  ·exact .inr rfl
theorem b1F {b r m:Int} {l:List En} (F:DieFacts m b r) (hl:(l.length:Int)=G.slots m):((R.job b r m l).map (·.1)).Nodup:=by
 rw[R.job,List.map_append,List.map_map];rw[List.nodup_append];refine⟨a2X _ _ λk k' hk hkk=>F.inj k k' (by omega) hkk,by simp,λx hx y hy=>?_⟩;simp only[List.mem_map,List.mem_range]at hx;obtain⟨k,hk,rfl⟩:=hx;simp only[List.map_cons,List.map_nil,List.mem_singleton]at hy;subst hy;exact(F.die k (by omega)).2.1
theorem a7T {b r m:Int} {l:List En} (hB:W.parB b r m l=true):S.may (W.parS b r m l)=true:=by
 obtain⟨h1,h2,h3,h4⟩:=P9 hB;obtain⟨e,he⟩:∃e,e∈l:=by
  cases l with
  | nil=>simp at h2
  | cons x l=>exact⟨x,by simp⟩
 have hok:=h4 e he;simp only[W.ok,S.may,Bool.and_eq_true]at hok;have hpl:S.place (W.parS b r m l)=true:=hok.1.1;have hov:∃M:Nat,(W.over (l.map (W.sh b r m))).2=M/\M<18446744073709551616:=a1p (l.map (W.sh b r m)) (zeros16,0) ⟨by decide,by decide⟩;obtain⟨M,hM,hM2⟩:=hov;simp only[S.may,hpl,Bool.true_and,Bool.and_eq_true];refine⟨?_,by simp[W.parS]⟩;simp only[S.numbers,S.inB,W.parS,hM,Int.toNat_natCast,Bool.and_eq_true,decide_eq_true_eq];omega
theorem a7U {b r m:Int} {l:List En} (hd:∀s∈l,s.data.length=16):(W.parS b r m l).data.length=16:=
 V7 (λt ht=>by obtain⟨e,he,rfl⟩:=List.mem_map.1 ht;exact hd e he) _ rfl
theorem a0p {α β:Type} {f g:α->Option β}:∀{l:List α},(∀x∈l,f x=g x)->l.filterMap f=l.filterMap g
 | [],_=>rfl
 | x::l,h=>by rw[List.filterMap_cons,List.filterMap_cons,h x (by simp),a0p λy hy=>h y (by simp[hy])]
namespace Xo
def op (a b:List UInt8×Nat):List UInt8×Nat:=(List.zipWith (· ^^^ ·) a.1 b.1,a.2 ^^^ b.2)
def z:List UInt8×Nat:=(zeros16,0)
def Ok (a:List UInt8×Nat):Prop:=a.1.length=16
def all (l:List (List UInt8×Nat)):List UInt8×Nat:=l.foldl op z
theorem op_ok {a b} (ha:Ok a) (hb:Ok b):Ok (op a b):=by unfold Ok op at*;simp[ha,hb]
theorem z_ok:Ok z:=rfl
theorem op_comm (a b):op a b=op b a:=by
 unfold op;refine Prod.ext ?_ (Nat.xor_comm _ _);apply List.ext_getElem?;intro i;simp only[List.getElem?_zipWith];cases a.1[i]? <;>cases b.1[i]? <;>simp[UInt8.xor_comm]
theorem op_assoc (a b c):op (op a b) c=op a (op b c):=by
 unfold op;refine Prod.ext ?_ (Nat.xor_assoc _ _ _);apply List.ext_getElem?;intro i;simp only[List.getElem?_zipWith];cases a.1[i]? <;>cases b.1[i]? <;>cases c.1[i]? <;>simp[UInt8.xor_assoc]
theorem z_op {a} (ha:Ok a):op z a=a:=by
 obtain⟨d,n⟩:=a;unfold op z;refine Prod.ext ?_ (Nat.zero_xor n);apply List.ext_getElem?;intro i;have hd:d.length=16:=ha;simp only[List.getElem?_zipWith,zeros16,List.getElem?_replicate]
 by_cases hi:i<16
 ·rw[if_pos hi];cases d[i]? <;>simp
 ·rw[if_neg hi,List.getElem?_eq_none (by omega)]
theorem op_self {a} (ha:Ok a):op a a=z:=by
 obtain⟨d,n⟩:=a;unfold op z;refine Prod.ext ?_ (Nat.xor_self n);apply List.ext_getElem?;intro i;have hd:d.length=16:=ha;simp only[List.getElem?_zipWith,zeros16,List.getElem?_replicate]
 by_cases hi:i<16
 ·rw[if_pos hi,List.getElem?_eq_getElem (by omega)];simp
 ·rw[if_neg hi,List.getElem?_eq_none (by omega)]
theorem fold_ok:∀(l:List (List UInt8×Nat)),(∀x∈l,Ok x)->∀a,Ok a->Ok (l.foldl op a)
 | [],_,_,h=>h
 | x::l,hl,a,h=>fold_ok l (λy hy=>hl y (by simp[hy])) _ (op_ok h (hl x (by simp)))
theorem fold_from:∀(l:List (List UInt8×Nat)),(∀x∈l,Ok x)->∀a,Ok a->l.foldl op a=op a (all l)
 | [],_,a,h=>by unfold all;rw[List.foldl_nil,List.foldl_nil,op_comm,z_op h]
 | x::l,hl,a,h=>by
  have hx:=hl x (by simp);have hl':∀y∈l,Ok y:=λy hy=>hl y (by simp[hy]);unfold all;rw[List.foldl_cons,List.foldl_cons,fold_from l hl' _ (op_ok h hx),z_op hx,fold_from l hl' _ hx,op_assoc]
theorem all_erase:∀(l:List (List UInt8×Nat)) (k:Nat) (x:List UInt8×Nat),(∀x∈l,Ok x)->l[k]? =some x->op (all (l.eraseIdx k)) x=all l
 | [],_,_,_,h=>by simp at h
 | y::l,0,x,hl,h=>by
  simp at h;subst h;have hl':∀z∈l,Ok z:=λz hz=>hl z (by simp[hz]);have hy:=hl y (by simp);rw[List.eraseIdx_cons_zero];show _=(y::l).foldl op z;rw[List.foldl_cons,z_op hy,fold_from l hl' _ hy,op_comm]
 | y::l,k+1,x,hl,h=>by
  have hl':∀z∈l,Ok z:=λz hz=>hl z (by simp[hz]);have hy:=hl y (by simp);have he:∀z∈l.eraseIdx k,Ok z:=λz hz=>hl' z (List.mem_of_mem_eraseIdx hz);rw[List.eraseIdx_cons_succ];show op ((y::l.eraseIdx k).foldl op z) x=(y::l).foldl op z;rw[List.foldl_cons,List.foldl_cons,z_op hy,fold_from _ he _ hy,fold_from l hl' _ hy,op_assoc,all_erase l k x hl' (by simpa using h)]
theorem all_back (l:List (List UInt8×Nat)) (k:Nat) (x:List UInt8×Nat) (hl:∀x∈l,Ok x) (h:l[k]? =some x):all (l.eraseIdx k++[all l])=x:=by
 have he:∀z∈l.eraseIdx k,Ok z:=λz hz=>hl z (List.mem_of_mem_eraseIdx hz);have hx:=hl x (List.mem_of_getElem? h);have e:all (l.eraseIdx k++[all l])=op (all (l.eraseIdx k)) (all l):=by unfold all;rw[List.foldl_append];rfl
 have hok:Ok (all (l.eraseIdx k)):=fold_ok _ he _ z_ok;rw[e,<- all_erase l k x hl h,<- op_assoc,op_self hok,z_op hx]
theorem ovM_nat {a b:Nat} (ha:a<18446744073709551616) (hb:b<18446744073709551616):W.ovM a b=((a ^^^ b:Nat):Int):=by
 unfold W.ovM;have h1:(BitVec.ofInt 64 (a:Int) ^^^ BitVec.ofInt 64 (b:Int)).toNat=a ^^^ b:=by
  rw[BitVec.toNat_xor,BitVec.ofInt_natCast,BitVec.ofInt_natCast,BitVec.toNat_ofNat,BitVec.toNat_ofNat,Nat.mod_eq_of_lt ha,Nat.mod_eq_of_lt hb]
 rw[h1];have h2:a ^^^ b<18446744073709551616:=Nat.xor_lt_two_pow (n:=64) ha hb;simp[IntKind.wrap,IntKind.bits,IntKind.signed];omega
def toX (s:Sh):List UInt8×Nat:=(s.data,S.meta_ s.role s.lpn s.seq)
theorem mix_all {x s:List UInt8} (hx:x.length=16) (hs:s.length=16):W.mix x s 16=List.zipWith (· ^^^ ·) x s:=by
 unfold W.mix;rw[List.take_of_length_le (by simp[hx,hs]),List.drop_of_length_le (by omega),List.append_nil]
theorem over_all:∀(l:List Sh) (a:List UInt8×Nat),(∀s∈l,s.data.length=16)->Ok a->a.2<18446744073709551616->l.foldl W.over1 (a.1,(a.2:Int))=(((l.map toX).foldl op a).1,((((l.map toX).foldl op a).2:Nat):Int))/\((l.map toX).foldl op a).2<18446744073709551616
 | [],a,_,_,h=>⟨rfl,h⟩
 | s::l,a,hl,ha,h=>by
  have hs:=hl s (by simp);have hm:=S.meta_lt s.role s.lpn s.seq;have hlt:a.2 ^^^ S.meta_ s.role s.lpn s.seq<18446744073709551616:=Nat.xor_lt_two_pow (n:=64) h hm;have e:W.over1 (a.1,(a.2:Int)) s=((op a (toX s)).1,(((op a (toX s)).2:Nat):Int)):=by
   unfold W.over1;rw[ovM_nat h hm,mix_all ha hs];rfl
  rw[List.foldl_cons,List.map_cons,List.foldl_cons,e];exact over_all l (op a (toX s)) (λt ht=>hl t (by simp[ht])) (op_ok ha hs) hlt
end Xo
theorem b3w (l:List Sh) (hl:∀s∈l,s.data.length=16):W.over l=((Xo.all (l.map Xo.toX)).1,((Xo.all (l.map Xo.toX)).2:Int))/\(Xo.all (l.map Xo.toX)).2<18446744073709551616:=
 Xo.over_all l Xo.z hl Xo.z_ok (by decide)
theorem b2G {b r m:Int} {l:List En} (hd:∀s∈l,s.data.length=16):Xo.toX (W.parS b r m l)=Xo.all ((l.map (W.sh b r m)).map Xo.toX):=by
 obtain⟨h1,h2⟩:=b3w (l.map (W.sh b r m)) (λs hs=>by obtain⟨e,he,rfl⟩:=List.mem_map.1 hs;exact hd e he);have e2:(W.over (l.map (W.sh b r m))).2.toNat=(Xo.all ((l.map (W.sh b r m)).map Xo.toX)).2:=by rw[h1];rfl
 have e1:(W.over (l.map (W.sh b r m))).1=(Xo.all ((l.map (W.sh b r m)).map Xo.toX)).1:=by rw[h1]
 refine Prod.ext e1 ?_;show S.meta_ ((W.over (l.map (W.sh b r m))).2.toNat/72057594037927936:Nat) ((W.over (l.map (W.sh b r m))).2.toNat/1099511627776 % 65536:Nat) ((W.over (l.map (W.sh b r m))).2.toNat % 1099511627776:Nat)=_;rw[e2];generalize(Xo.all ((l.map (W.sh b r m)).map Xo.toX)).2=x at h2;unfold S.meta_;omega
theorem a5F {α β:Type} (f:α->β):∀(l:List α) (k:Nat),(l.eraseIdx k).map f=(l.map f).eraseIdx k
 | [],_=>rfl
 | _::_,0=>rfl
 | x::l,k+1=>by simp only[List.eraseIdx_cons_succ,List.map_cons,a5F f l k]
theorem b5b {b r m:Int} {l:List En} (hd:∀s∈l,s.data.length=16) (hB:W.parB b r m l=true) {k:Nat} {e:En} (hk:l[k]? =some e):W.backS (W.parS b r m l) ((l.map (W.sh b r m)).eraseIdx k)=e:=by
 have hdm:∀s∈l.map (W.sh b r m),s.data.length=16:=λs hs=>by obtain⟨e,he,rfl⟩:=List.mem_map.1 hs;exact hd e he
 have hde:∀s∈(l.map (W.sh b r m)).eraseIdx k++[W.parS b r m l],s.data.length=16:=λs hs=>by
  rw[List.mem_append,List.mem_singleton]at hs;rcases hs with hs | rfl
  ·exact hdm s (List.mem_of_mem_eraseIdx hs)
  ·exact a7U hd
 obtain⟨h1,h2⟩:=b3w _ hde;have hx:Xo.all (((l.map (W.sh b r m)).eraseIdx k++[W.parS b r m l]).map Xo.toX)=Xo.toX (W.sh b r m e):=by
  rw[List.map_append,List.map_cons,List.map_nil,b2G hd,a5F];exact Xo.all_back _ k _ (λx hx=>by obtain⟨s,hs,rfl⟩:=List.mem_map.1 hx;exact hdm s hs) (by rw[List.getElem?_map,List.getElem?_map,hk];rfl)
 rw[hx]at h1;have hok:=(P9 hB).2.2.2 e (List.mem_of_getElem? hk);have hmay:S.may (W.sh b r m e)=true:=hok;have hb:=hmay;simp only[S.may,S.numbers,S.inB,Bool.and_eq_true,decide_eq_true_eq]at hb;obtain⟨m1,m2,m3⟩:=S.meta_back e.role e.lpn e.seq hb.1.2.2 hb.1.2.1.2 hb.1.2.1.1;unfold W.backS;simp only[h1];obtain⟨el,es,er,ed⟩:=e;exact(En.mk.injEq ..).mpr ⟨m2,m3,m1,rfl⟩
theorem Bt.numAt_congr {a b:List UInt8} {k:Nat}:∀w,(∀i,i<w->Bt.bitAt a (k+i)=Bt.bitAt b (k+i))->Bt.numAt a k w=Bt.numAt b k w
 | 0,_=>rfl
 | w+1,h=>by rw[Bt.numAt,Bt.numAt,Bt.numAt_congr w (λi hi=>h i (by omega)),h w (by omega)]
theorem a8u (K:Nat) (p:List UInt8) (hp:p.length=32) (hK:K<=32) (i:Nat):(Nand.fillP K p).getD i 0=if i<K then p.getD i 0 else if i<32 then 255 else 0:=by
 unfold Nand.fillP;simp only[List.getD_eq_getElem?_getD];rw[List.getElem?_append,List.length_take,hp]
 by_cases h:i<K
 ·rw[if_pos (by omega),if_pos h,List.getElem?_take,if_pos h]
 ·rw[if_neg (by omega),if_neg h]
  by_cases h2:i<32
  ·rw[if_pos h2,List.getElem?_replicate,if_pos (by omega)];rfl
  ·rw[if_neg h2,List.getElem?_replicate,if_neg (by omega)];rfl
theorem a2m (p:List UInt8) (k i:Nat):(p.drop k).getD i 0=p.getD (k+i) 0:=by
 simp[List.getD_eq_getElem?_getD]
theorem b0R (K:Nat) (p:List UInt8) (hp:p.length=32) (hK:K<28):(S.fields (Nand.fillP K p)).kind=255:=by
 show((Bt.numAt ((Nand.fillP K p).drop 16) 88 8:Nat):Int)=255;rw[Bt.numAt_eq _ 88 8 255 (λi hi=>?_) 8 (Nat.le_refl 8)]
 ·rfl
 ·unfold Bt.bitAt;rw[show(88+i)/8=11 from by omega,a2m,a8u K p hp (by omega),if_neg (by omega),if_pos (by omega),show 7-(88+i) % 8=8-1-i from by omega];rfl
theorem a7C (K:Nat) (p:List UInt8) (hp:p.length=32) (hK:28<=K) (hK2:K<=32):S.fields (Nand.fillP K p)=S.fields p:=by
 have hb:∀j,j<96->Bt.bitAt ((Nand.fillP K p).drop 16) j=Bt.bitAt (p.drop 16) j:=λj hj=>by
  unfold Bt.bitAt;rw[a2m,a2m,a8u K p hp hK2,if_pos (by omega)]
 have h16:(Nand.fillP K p).take 16=p.take 16:=by
  unfold Nand.fillP;rw[List.take_append_of_le_length (by rw[List.length_take,hp];omega),List.take_take,Nat.min_eq_left (by omega)]
 unfold S.fields;simp only[h16,Bt.numAt_congr (a:=(Nand.fillP K p).drop 16) (b:=p.drop 16) (k:=0) 64 (λi hi=>hb _ (by omega)),Bt.numAt_congr (a:=(Nand.fillP K p).drop 16) (b:=p.drop 16) (k:=88) 8 (λi hi=>hb _ (by omega)),
  Bt.numAt_congr (a:=(Nand.fillP K p).drop 16) (b:=p.drop 16) (k:=64) 8 (λi hi=>hb _ (by omega)),Bt.numAt_congr (a:=(Nand.fillP K p).drop 16) (b:=p.drop 16) (k:=72) 8 (λi hi=>hb _ (by omega)),Bt.numAt_congr (a:=(Nand.fillP K p).drop 16) (b:=p.drop 16) (k:=80) 8 (λi hi=>hb _ (by omega))]
namespace Nand
variable {N : Nand} {n : Nat}
end Nand
theorem b2i {b r m:Int} {l:List En} (hd:∀s∈l,s.data.length=16) (hB:W.parB b r m l=true) {k:Nat} {e:En} (hk:l[k]? =some e):W.backB (W.parS b r m l) ((l.map (W.sh b r m)).eraseIdx k)=true/\W.back (W.parS b r m l) ((l.map (W.sh b r m)).eraseIdx k)=e:=by
 obtain⟨p1,p2,p3,p4⟩:=P9 hB;have hb:=b5b hd hB hk;have hkl:k<l.length:=(List.getElem?_eq_some_iff.1 hk).1;have hany:((l.map (W.sh b r m)).eraseIdx k).any (W.alien (W.parS b r m l))=false:=by
  rw[List.any_eq_false];intro s hs;obtain⟨x,hx,rfl⟩:=List.mem_map.1 (List.mem_of_mem_eraseIdx hs);have hmay:S.may (W.sh b r m x)=true:=p4 x hx;unfold W.alien;rw[hmay];simp[W.sh,W.parS]
 have hlen:decide ((((l.map (W.sh b r m)).eraseIdx k).length:Int)=G.slots (W.parS b r m l).mask-1)=true:=by
  refine decide_eq_true ?_;rw[List.length_eraseIdx,if_pos (by rw[List.length_map];exact hkl),List.length_map];show((l.length-1:Nat):Int)=G.slots m-1;omega
 have h1:W.backB (W.parS b r m l) ((l.map (W.sh b r m)).eraseIdx k)=true:=by
  unfold W.backB;rw[a7T hB,hany,hlen,hb];show(((2:Int)==2&&true&& !false&&true)&&W.ok b r m e)=true;rw[p4 e (List.mem_of_getElem? hk)];rfl
 refine⟨h1,?_⟩;unfold W.back;rw[if_pos h1,hb]
end Go.Proofs.YtgkpkpbnonmopaaGreat
namespace Go.Proofs.YtgkpkpbnonmopaaGreat
open Go
variable {N : Nand} {b m : Int} {l : List En} {j : Nat}
end Go.Proofs.YtgkpkpbnonmopaaGreat
