/- Helpers. No condition. -/
import Derived.Test.YtpohajhbfllbbaaGreatD06
import Derived.Test.YtpohajhbfllbbaaGreatD09
import Derived.Test.YtpohajhbfllbbaaGreatD11
set_option maxRecDepth 20000
set_option linter.all false
namespace Go.Proofs.YtpohajhbfllbbaaGreat
structure Nand.Gd (N:Nand) (k m:Nat):Prop where
 ok:N.Ok
 ops:N.ops+k<4611686018427387904
 broken:N.broken+k<4611686018427387904
 nodup:N.plan.Nodup
 few:N.plan.length<=m
namespace Nand
variable {N : Nand} {k m : Nat}
theorem Gd.room (h:N.Gd k m):N.Room:=⟨by have:=h.ops;omega,by have:=h.broken;omega⟩
theorem Gd.less (h:N.Gd k m) {k' m':Nat} (hk:k'<=k) (hm:m<=m'):N.Gd k' m':=⟨h.ok,by have:=h.ops;omega,by have:=h.broken;omega,h.nodup,by have:=h.few;omega⟩
theorem Ok.setBlk (h:N.Ok) (i j:Nat) (B:NBlock) (h1:B.cells.length<=N.pages) (h2:∀c∈B.cells,c.p.length=32) (h3:0<=B.worn/\B.worn<=N.ops):(N.setBlk i j B).Ok:=by
 refine⟨h.geo,h.dead,λa b ha hb=>?_,⟨h.num.1,h.num.2.1,λa b=>?_⟩,h.lft,h.lf2,h.kp⟩
 ·show(if a=i/\b=j then B else N.blk a b).cells.length<=N.pages/\∀c∈(if a=i/\b=j then B else N.blk a b).cells,c.p.length=32;split
  ·exact⟨h1,h2⟩
  ·exact h.cells a b ha hb
 ·show 0<=(if a=i/\b=j then B else N.blk a b).worn/\(if a=i/\b=j then B else N.blk a b).worn<=N.ops;split
  ·exact h3
  ·exact h.num.2.2 a b
theorem Ok.cutN (h:N.Ok):N.cutN.Ok:=by
 have h1:=h.num;have h2:=h.lft;have h3:=h.lf2;refine⟨h.geo,h.dead,h.cells,⟨by show 0<=N.ops+1;omega,h1.2.1,λa b=>⟨(h1.2.2 a b).1,by show _<=N.ops+1;have:=(h1.2.2 a b).2;exact Int.le_trans this (by omega)⟩⟩,λhc=>?_,?_,h.kp⟩
 ·have hc:(if N.cutB then false else N.cuts)=true:=hc;show 0<=(if N.cuts then N.left-1 else N.left)/\(if N.cuts then N.left-1 else N.left)<=9223372036854775807;split at hc
  ·cases hc
  ·rename_i hb;simp[cutB,hc]at hb;have:=h2 hc;rw[if_pos hc];omega
 ·show-9223372036854775807<=(if N.cuts then N.left-1 else N.left)/\(if N.cuts then N.left-1 else N.left)<=9223372036854775807;split
  ·rename_i hc;have:=h2 hc;omega
  ·exact h3
theorem Ok.push (h:N.Ok) (i j:Nat) (c:NCell) (h1:(N.blk i j).cells.length<N.pages) (h2:c.p.length=32) (hi:i<N.dies) (hj:j<N.blocks):(N.push i j c).Ok:=by
 refine h.setBlk i j _ ?_ ?_ (h.num.2.2 i j)
 ·simp;omega
 ·intro x hx;simp only[List.mem_append,List.mem_singleton]at hx;rcases hx with hx | hx
  ·exact(h.cells i j hi hj).2 x hx
  ·rw[hx];exact h2
theorem Ok.plan (h:N.Ok) (l:List A3'):Ok {N with plan:=l}:=⟨h.geo,h.dead,h.cells,h.num,h.lft,h.lf2,h.kp⟩
theorem fillP_len (k:Nat) (p:List UInt8) (h:p.length=32) (hk:k<=32):(fillP k p).length=32:=by simp[fillP,h];omega
theorem Ok.prog (h:N.Ok) (x y z:Int) (pg:List UInt8) (hp:pg.length=32):(N.progN x y z pg).Ok:=by
 unfold progN;split
 ·exact h
 ·rename_i h0;simp only[ne_eq,Decidable.not_not]at h0;obtain⟨_,_,hr⟩:=refuses_zero h0;split
  ·exact⟨h.geo,h.dead,h.cells,⟨h.num.1,by show 0<=N.broken+1;have:=h.num.2.1;omega,h.num.2.2⟩,h.lft,h.lf2,h.kp⟩
  ·rename_i h1;simp only[ne_eq,Decidable.not_not]at h1;have hlt:(N.blk x.toNat y.toNat).cells.length<N.pages:=by omega
   have hi:x.toNat<N.dies:=by omega
   have hj:y.toNat<N.blocks:=by omega
   split
   ·exact h.cutN.push _ _ _ hlt (fillP_len _ _ hp (by have:=h.kp;omega)) hi hj
   ·exact(h.cutN.plan _).push _ _ _ hlt hp hi hj
theorem Gd.prog (h:N.Gd (k+1) m) (x y z:Int) (pg:List UInt8) (hp:pg.length=32):(N.progN x y z pg).Gd k m:=by
 have h1:=h.ops;have h2:=h.broken;refine⟨h.ok.prog x y z pg hp,?_,?_,?_,?_⟩
 ·unfold progN;split
  ·omega
  ·split
   ·show N.ops+_<_;omega
   ·split<;>(show N.ops+1+(k:Int)<_;omega)
 ·unfold progN;split
  ·omega
  ·split
   ·show N.broken+1+(k:Int)<_;omega
   ·split<;>(show N.broken+(k:Int)<_;omega)
 ·unfold progN;split
  ·exact h.nodup
  ·split
   ·exact h.nodup
   ·split
    ·exact h.nodup
    ·exact h.nodup.erase _
 ·have h3:=h.few;unfold progN;split
  ·exact h3
  ·split
   ·exact h3
   ·split
    ·exact h3
    ·show(N.plan.erase _).length<=m;rw[List.length_erase];split<;>omega
theorem Ok.erase (h:N.Ok) (x y:Int):(N.eraseN x y).Ok:=by
 unfold eraseN;dsimp only;split
 ·exact h
 ·rename_i h0;simp only[ne_eq,Decidable.not_not]at h0;obtain⟨_,_,hr⟩:=refuses_zero h0;have hi:x.toNat<N.dies:=by omega
  have hj:y.toNat<N.blocks:=by omega
  have hc:=h.cells _ _ hi hj;split
  ·refine h.cutN.setBlk _ _ _ ?_ ?_ (h.cutN.num.2.2 _ _)
   ·show _<=N.pages;simp;omega
   ·intro c hcm;simp only[List.mem_map,List.mem_append,List.mem_replicate]at hcm;obtain⟨a,ha,rfl⟩:=hcm;rcases ha with ha | ha
    ·exact hc.2 a ha
    ·rw[ha.2];rfl
  ·split
   ·exact h.cutN.setBlk _ _ _ hc.1 hc.2 (h.cutN.num.2.2 _ _)
   ·refine(h.cutN.setBlk _ _ _ (by simp) (by simp) ?_).plan _;show 0<=(N.blk x.toNat y.toNat).worn+1/\(N.blk x.toNat y.toNat).worn+1<=N.ops+1;have:=h.num.2.2 x.toNat y.toNat
    omega
theorem Gd.erase (h:N.Gd (k+1) m) (x y:Int):(N.eraseN x y).Gd k m:=by
 have h1:=h.ops;have h2:=h.broken;refine⟨h.ok.erase x y,?_,?_,?_,?_⟩
 ·unfold eraseN;dsimp only;split
  ·omega
  ·(repeat' split)<;>(show N.ops+1+(k:Int)<_;omega)
 ·unfold eraseN;dsimp only;split
  ·omega
  ·(repeat' split)<;>(show N.broken+(k:Int)<_;omega)
 ·unfold eraseN;dsimp only
  (repeat' split)<;>first | exact h.nodup | exact h.nodup.filter _
 ·have h3:=h.few;unfold eraseN;dsimp only
  (repeat' split)<;>first | exact h3 | exact Nat.le_trans (List.length_filter_le _ _) h3
theorem xorAt_len (p:List UInt8) (n:Nat) (x:UInt8):(xorAt p n x).length=p.length:=by simp[xorAt]
theorem Ok.setCell (h:N.Ok) (x y z:Int) (f:NCell->NCell) (hf:∀c,(f c).p.length=c.p.length) (hi:x.toNat<N.dies) (hj:y.toNat<N.blocks):(N.setCell x y z f).Ok:=by
 have hc:=h.cells _ _ hi hj;refine h.setBlk _ _ _ (by simpa using hc.1) ?_ (h.num.2.2 _ _);intro c hm;obtain⟨i,hi',rfl⟩:=List.mem_iff_getElem.1 hm;simp only[List.length_modify]at hi';rw[List.getElem_modify];split
 ·rw[hf];exact hc.2 _ (List.getElem_mem _)
 ·exact hc.2 _ (List.getElem_mem _)
theorem Ok.fault (h:N.Ok) (kind x y z n xx:Int):(N.fault kind x y z n xx).2.Ok:=by
 unfold Nand.fault;split
 ·exact h
 ·rename_i h0;have hr:0<=x/\x<N.dies/\0<=y/\y<N.blocks:=by simp[B1]at h0;omega
  have hi:x.toNat<N.dies:=by omega
  have hj:y.toNat<N.blocks:=by omega
  have hc:=h.cells _ _ hi hj;split
  ·exact h.plan _
  ·split
   ·exact h.setBlk _ _ _ hc.1 hc.2 (h.num.2.2 _ _)
   ·split
    ·exact h.setCell _ _ _ _ (λ_=>rfl) hi hj
    ·split
     ·exact⟨h.geo,by show(N.dead.set _ _).length=_;rw[List.length_set];exact h.dead,h.cells,h.num,h.lft,h.lf2,h.kp⟩
     ·split
      ·split
       ·exact h
       ·split
        ·exact h
        ·split
         ·exact h
         ·split
          ·exact h
          ·exact h.setCell _ _ _ _ (λc=>xorAt_len _ _ _) hi hj
      ·exact h
theorem Gd.fault (h:N.Gd k m) (kind x y z n xx:Int):(N.fault kind x y z n xx).2.Gd k (m+1):=by
 refine⟨h.ok.fault ..,?_,?_,?_,?_⟩
 ·unfold Nand.fault
  (repeat' split)<;>exact h.ops
 ·unfold Nand.fault
  (repeat' split)<;>exact h.broken
 ·unfold Nand.fault;have h1:∀a,(addP N.plan a).Nodup:=λa=>by
   unfold addP;split
   ·exact h.nodup
   ·rename_i hn;rw[List.nodup_append];exact⟨h.nodup,by simp,λb hb c hc=>by simp at hc;subst hc;rintro rfl;exact hn hb⟩
  (repeat' split)<;>first | exact h.nodup | exact h1 _
 ·unfold Nand.fault;have h3:=h.few;have h1:∀a,(addP N.plan a).length<=m+1:=λa=>by
   unfold addP;split
   ·omega
   ·simp;omega
  (repeat' split)<;>first | exact h1 _ | exact Nat.le_succ_of_le h3
theorem Gd.fault0 (h:N.Gd k m) (kind x y z n xx:Int) (hk:kind≠1):(N.fault kind x y z n xx).2.Gd k m:=by
 have h1:=h.fault kind x y z n xx;refine⟨h1.ok,h1.ops,h1.broken,h1.nodup,?_⟩;unfold Nand.fault;rw[if_neg hk]
 (repeat' split)<;>exact h.few
theorem Gd.cut (h:N.Gd k m) (x kk:Int) (h1: -9223372036854775807<=x) (h2:x<=9223372036854775807):(N.setCut x kk).Gd k m:=by
 unfold setCut;split
 ·exact h
 ·exact⟨⟨h.ok.geo,h.ok.dead,h.ok.cells,h.ok.num,λhc=>by simp at hc;exact⟨hc,h2⟩,⟨h1,h2⟩,by show 0<=min (max kk 0) 32/\min (max kk 0) 32<=32;omega⟩,h.ops,h.broken,h.nodup,h.few⟩
theorem Gd.on (h:N.Gd k m):N.onN.Gd k m:=⟨⟨h.ok.geo,h.ok.dead,h.ok.cells,h.ok.num,λhc=>(by cases hc),h.ok.lf2,h.ok.kp⟩,h.ops,h.broken,h.nodup,h.few⟩
theorem Gd.new (d b p:Nat) (h:t6 d b p=true) (k:Nat) (hk:k<=1000000):(Nand.new d b p).Gd k 0:=
 ⟨⟨h,by simp[Nand.new],λi j _ _=>by simp[Nand.new],⟨by simp[Nand.new],by simp[Nand.new],λi j=>by simp[Nand.new]⟩,λhc=>(by cases hc),by simp[Nand.new],by simp[Nand.new]⟩,by simp[Nand.new];omega,by simp[Nand.new];omega,by simp[Nand.new],by simp[Nand.new]⟩
structure Like (N N':Nand):Prop where
 dies:N'.dies=N.dies
 blocks:N'.blocks=N.blocks
 pages:N'.pages=N.pages
theorem Like.refl (N:Nand):Like N N:=⟨rfl,rfl,rfl⟩
theorem Like.trans {A B C:Nand} (h:Like A B) (h':Like B C):Like A C:=⟨h'.dies.trans h.dies,h'.blocks.trans h.blocks,h'.pages.trans h.pages⟩
theorem like_prog (N:Nand) (x y z:Int) (pg:List UInt8):Like N (N.progN x y z pg):=by
 unfold progN;(repeat' split)<;>exact⟨rfl,rfl,rfl⟩
theorem like_erase (N:Nand) (x y:Int):Like N (N.eraseN x y):=by
 unfold eraseN;dsimp only;(repeat' split)<;>exact⟨rfl,rfl,rfl⟩
theorem like_fault (N:Nand) (kind x y z n xx:Int):Like N (N.fault kind x y z n xx).2:=by
 unfold fault;(repeat' split)<;>exact⟨rfl,rfl,rfl⟩
theorem like_cut (N:Nand) (x kk:Int):Like N (N.setCut x kk):=by
 unfold setCut;(repeat' split)<;>exact⟨rfl,rfl,rfl⟩
end Nand
end Go.Proofs.YtpohajhbfllbbaaGreat
namespace Go.Proofs.YtpohajhbfllbbaaGreat
open Go Go.RowKit
theorem a5z (b r m:Int) (l:List En):(R.job b r m l).length=l.length+1:=by simp[R.job]
theorem a7J (b r m:Int) (l:List En) (k:Nat) (h:k<l.length):(R.job b r m l)[k]? =some (G.die m b r (k:Nat),W.sh b r m (l.getD k En.zero)):=by
 rw[R.job,List.getElem?_append_left (by simpa using h)];simp[h]
theorem a0B (b r m:Int) (l:List En):(R.job b r m l)[l.length]? =some (G.parity m b r,W.parS b r m l):=by
 rw[R.job,List.getElem?_append_right (by simp)];simp
theorem b2f {b r m:Int} {l:List En} {k:Nat} {x:Int×Sh} (h:(R.job b r m l)[k]? =some x):(R.job b r m l).drop k=x::(R.job b r m l).drop (k+1):=by
 obtain⟨h1,h2⟩:=List.getElem?_eq_some_iff.1 h;rw[List.drop_eq_getElem_cons h1,h2]
theorem a2a (p:Nat) (N:Nand) (A:Atom) (b r m:Int) (a:Option Addr) (n cap mm:Nat) (l:List En) (hA:Rd A a 19 n (d6 l)) (hl:l.length=n) (hd:∀s∈l,s.data.length=16) (hG:N.Gd 8 mm):
  FP 161 [pp p,iI b,iI r,iI m, .slice a n cap] [i5 p N,A]
  (λv As=>v= .tuple #[iI (R.write N b r m l).2.1,iI (R.write N b r m l).2.2]/\As=[i5 p (R.write N b r m l).1,A]):=by
 have hsb:=H4 m;refine FE [2,0,0,0,0] Tryz.func161 λX F hX=>?_;refine J.qp (a6a b r m A a n cap l hA hl hd) [2] λ_=>?_;refine J.q λbb=>?_;refine J.cond rfl (λh0=>?_) (λh0=>?_)
 ·simp only[Bool.not_eq_true']at h0;refine J.qr [1,2] λ_=>?_;simp only[R.write,h0];exact⟨rfl,rfl⟩
 simp only[Bool.not_eq_false']at h0;have hw:R.write N b r m l=R.go b r (R.job b r m l) N 0:=by rw[R.write,if_pos h0]
 have hB:=h0;simp only[W.parB,Bool.and_eq_true,decide_eq_true_eq,List.all_eq_true]at hB;have hn:n<=7:=by have:=hB.1.1;omega
 refine J.q λb5=>?_;refine J.l (α:=(Nat×Nand×Int)) (λz=>z.1<=n+1/\z.2.1.Gd (n+1-z.1) mm/\R.go b r ((R.job b r m l).drop z.1) z.2.1 z.2.2=R.write N b r m l) (λz=>[si 33 z.1,⟨32,iI ((n:Int)+1),0, .tt⟩,si 14 z.2.2,⟨12,pp (bb 0),4, .tt⟩,⟨0,pp p,2, .tt⟩,si 1 b,si 2 r,si 3 m,sv 4 (.slice a n cap)]) [1] (λz=>[i5 p z.2.1]) (λz=>n+1-z.1) ((0,N,0)) (⟨Nat.zero_le _,hG.less (by dsimp only;omega) (Nat.le_refl _),hw.symm⟩) λz hI=>?_;obtain⟨k,Nk,f⟩:=z;dsimp only at hI ⊢;obtain⟨hI1,hI2,hI3⟩:=hI;refine J.qd (λ_ h1=>?_) λ_ h1=>?_
 ·simp only[decide_eq_true_eq]at h1;have h1:k<n+1:=by omega
  refine J.p (.take true 0 (.take true 1 (.take true 2 (.take false 4 (.alt false 3 ((.of [22,24,31])) (.alt false 5 ((.of [14,24,31])) .non)))))) [7] [3] λ_=>?_;refine J.join (α:=Nat) (λx=>[si 16 (G.parity m b r),⟨17,pp x,5, .tt⟩,si 15 k,si 33 k,⟨32,iI ((n:Int)+1),0, .tt⟩,si 14 f,⟨12,pp (bb 0),4, .tt⟩,⟨0,pp p,2, .tt⟩,si 1 b,si 2 r,si 3 m,sv 4 (.slice a n cap)]) (λx=>[.hp F,i5 p Nk,A, .pt (bb 0) 219 (shL (W.par b r m l)), .pt x 219 (shL (W.par b r m l))]) (λhj=>?_) (λx=>?_)
  ·skip
   refine J.qn 4 λ_=>?_;refine J.alts ?_ ?_
   ·skip
    refine J.qp (K1 m b r) [] λ_=>?_;refine J.qn 1 λb5=>?_;refine J.qn 3 λ_=>?_;exact J.goto [0,1,2,3,4] (hj (b5 0)) ⟨rfl,rfl,rfl,rfl,rfl,rfl,rfl,rfl,rfl,rfl,rfl,rfl,trivial⟩ rfl rfl
   ·skip
    refine J.qn 1 λb5=>?_;refine J.qp (K1 m b r) [] λ_=>?_;refine J.qn 3 λ_=>?_;exact J.goto [0,1,2,3,4] (hj (b5 0)) ⟨rfl,rfl,rfl,rfl,rfl,rfl,rfl,rfl,rfl,rfl,rfl,rfl,trivial⟩ rfl rfl
  obtain⟨⟨d,s⟩,hjob⟩:∃x,(R.job b r m l)[k]? =some x:=⟨_,List.getElem?_eq_getElem (by rw[a5z];omega)⟩;have hsl:s.data.length=16:=by
   by_cases hk:k<l.length
   ·rw[a7J b r m l k hk]at hjob;injection hjob with hjob;injection hjob with _ hjob;rw[<- hjob];refine hd _ ?_;rw[List.getD_eq_getElem?_getD,List.getElem?_eq_getElem hk];exact List.getElem_mem _
   ·rw[show k=l.length by omega,a0B]at hjob;injection hjob with hjob;injection hjob with _ hjob;rw[<- hjob];exact R9 (λt ht=>by obtain⟨e,he,rfl⟩:=List.mem_map.1 ht;exact hd e he) _ rfl
  refine J.q λ_=>?_;refine J.join (α:=Unit) (λ_=>[si 16 d,⟨17,pp x,5, .tt⟩,si 33 k,⟨32,iI ((n:Int)+1),0, .tt⟩,si 14 f,⟨12,pp (bb 0),4, .tt⟩,⟨0,pp p,2, .tt⟩,si 1 b,si 2 r,si 3 m,sv 4 (.slice a n cap)]) (λ_=>[.hp F,i5 p Nk,A, .pt (bb 0) 219 (shL (W.par b r m l)), .pt x 219 (shL s)]) (λhj=>?_) (λ_=>?_)
  ·refine J.qd (λ_ h2=>?_) λ_ h2=>?_
   ·simp only[decide_eq_true_eq,Int.ofNat_lt]at h2;have hkl:k<l.length:=by omega
    rw[a7J b r m l k hkl]at hjob;simp only[Option.some.injEq,Prod.mk.injEq]at hjob;obtain⟨hd1,hs1⟩:=hjob;have hget:l[k]? =some (l.getD k En.zero):=by rw[List.getD_eq_getElem?_getD,List.getElem?_eq_getElem hkl,Option.getD_some]
    have hel:(l.getD k En.zero).data.length=16:=hd _ (List.mem_of_getElem? hget);have hok:W.ok b r m (l.getD k En.zero)=true:=hB.2 _ (List.mem_of_getElem? hget);refine J.qp (a8G m b r k (by omega) (by omega)) [] λ_=>?_;refine J.know (p:=∃g o,a=some ⟨g,o,none⟩) (λh' s=>Rd.addr (hA _ (s.get (i:=2) rfl)) (by omega)) λhk=>?_;obtain⟨g,o,rfl⟩:=hk;refine J.q λ_=>?_;refine J.v (enV (l.getD k En.zero)) rfl rfl (λhg a w he hw=>?_) ?_
    ·exact Y3 tk rfl rfl he rfl rfl rfl (hA _ (hw.get (i:=2) rfl)) (by omega) (j:=k*19) (by omega) (by have:=D4 l [] k _ hget;rwa [List.append_nil]at this) rfl
    refine J.qp (a6b b r m (l.getD k En.zero) hel) [] λ_=>?_;rw[show W.own b r m (l.getD k En.zero)=s from by rw[W.own,if_pos hok,hs1],hd1];refine J.qn 5 λ_=>?_;exact J.goto [0,1,2,3,4] (hj ()) ⟨rfl,rfl,rfl,rfl,rfl,rfl,rfl,rfl,rfl,rfl,rfl,trivial⟩ rfl rfl
   ·simp only[decide_eq_false_iff_not,Int.ofNat_lt]at h2;have hkl:k=l.length:=by omega
    rw[hkl,a0B]at hjob;simp only[Option.some.injEq,Prod.mk.injEq]at hjob;obtain⟨hd1,hs1⟩:=hjob;rw[hd1,show W.par b r m l=s from by rw[W.par,if_pos h0,hs1]]at*;refine J.qn 1 λ_=>?_;exact J.goto [0,1,2,3,4] (hj ()) ⟨rfl,rfl,rfl,rfl,rfl,rfl,rfl,rfl,rfl,rfl,rfl,trivial⟩ rfl rfl
  have hj2:=b2f hjob;rw[hj2]at hI3;rw[R.go]at hI3;have hG0:Nk.Gd (n-k+1) mm:=hI2.less (by omega) (Nat.le_refl _);have hG1:(Nk.progN d b r (D2 s)).Gd (n+1-(k+1)) mm:=(hG0.prog d b r _ (W6 s hsl)).less (by omega) (Nat.le_refl _);refine J.qp (b2w s hsl) [] λ_=>?_;refine J.qp (Y6 p Nk hI2.ok hI2.room d b r (D2 s) (W6 s hsl)) [1] λ_=>?_;refine J.qd (λ_ h3=>?_) λ_ h3=>?_
  ·simp only[beq_iff_eq]at h3;rw[if_pos h3]at hI3;refine J.q λ_=>?_;refine J.n ((k+1,Nk.progN d b r (D2 s),f)) (⟨by dsimp only;omega,hG1,hI3⟩) (by dsimp only;omega) [0,1,2,3]
  ·simp only[beq_eq_false_iff_ne,ne_eq]at h3;rw[if_neg h3]at hI3;refine J.qd (λ_ h4=>?_) λ_ h4=>?_
   ·simp only[beq_iff_eq]at h4;rw[if_pos h4]at hI3;refine J.qr [1,2] λ_=>?_;rw[<- hI3];exact⟨rfl,rfl⟩
   ·simp only[beq_eq_false_iff_ne,ne_eq]at h4;rw[if_neg h4]at hI3;refine J.qp (a5y f d) [] λ_=>?_;refine J.q λ_=>?_;refine J.n ((k+1,Nk.progN d b r (D2 s),L.with_ f d)) (⟨by dsimp only;omega,hG1,hI3⟩) (by dsimp only;omega) [0,1,2,3]
 ·simp only[decide_eq_false_iff_not]at h1;have:k=n+1:=by omega
  subst this;rw[List.drop_of_length_le (by rw[a5z];omega),R.go]at hI3;refine J.qd (λ_ h5=>?_) λ_ h5=>?_
  ·simp only[bne_iff_ne,ne_eq]at h5;rw[if_neg h5]at hI3;refine J.qr [1,2] λ_=>?_;rw[<- hI3];exact⟨rfl,rfl⟩
  ·simp only[bne_eq_false_iff_eq]at h5;rw[if_pos h5]at hI3;refine J.qr [1,2] λ_=>?_;rw[<- hI3,h5];exact⟨rfl,rfl⟩
def W.backC (p:Sh) (l:List Sh):Bool:=p.kind==2&&S.may p&& !l.any (alien p)&&decide ((l.length:Int)=G.slots p.mask-1)
def b2o (p:Sh->Bool) (l:List Sh):Int:=match l.findIdx? p with
 | some k=>k
 | none=> -1
theorem a9O {p:Sh->Bool} {l:List Sh} {k:Nat} {x:Sh} (h:l[k]? =some x) (h0:∀i<k,p (l.getD i Sh.zero)=false) (hp:p x=true):l.findIdx? p=some k:=by
 rw[List.findIdx?_eq_some_iff_getElem];obtain⟨h1,h2⟩:=List.getElem?_eq_some_iff.1 h;refine⟨h1,by rw[h2];exact hp,λj hj=>?_⟩;have:=h0 j hj;rw[List.getD_eq_getElem?_getD,List.getElem?_eq_getElem (by omega),Option.getD_some]at this;simp[this]
theorem a9P {p:Sh->Bool} {l:List Sh} (h0:∀i<l.length,p (l.getD i Sh.zero)=false):l.findIdx? p=none:=by
 rw[List.findIdx?_eq_none_iff];intro x hx;obtain⟨i,hi,rfl⟩:=List.mem_iff_getElem.1 hx;have:=h0 i hi
 rwa [List.getD_eq_getElem?_getD,List.getElem?_eq_getElem hi,Option.getD_some]at this
theorem b2n (p:Sh->Bool) (l:List Sh):decide (b2o p l>=0)=l.any p:=by
 unfold b2o;cases h:l.findIdx? p with
 | none=>
  rw[List.findIdx?_eq_none_iff]at h;have:l.any p=false:=by rw[List.any_eq_false];exactλx hx=>by simp[h x hx]
  rw[this];rfl
 | some k=>
  rw[List.findIdx?_eq_some_iff_getElem]at h;obtain⟨h1,h2,_⟩:=h;have:l.any p=true:=List.any_eq_true.2 ⟨l[k],List.getElem_mem _,h2⟩;rw[this];simp
theorem b0t (c:Nat) (cs:List Value) (p:Sh->Bool) (A:Atom) (hcal:n5 Tryz.prog c=true) (l:List Sh) (hf:∀x∈l,Fn Tryz.prog c (shV x::cs) [A] (Ps (.bool (p x)) [A]))
  (a:Option Nat) (n cap:Nat) (hl:l.length=n) (hn:n<=4611686018427387904):FP 256 [slv a n cap,fnC c cs] [c9 219 23 a n cap (m7 l),A]
  (Ps (iI (b2o p l)) [c9 219 23 a n cap (m7 l),A]):=by
 refine FE [0,0] Tryz.func256 λX F hX=>?_;refine J.q λ_=>?_;refine J.l (α:=Nat) (λk=>k<=n/\∀i<k,p (l.getD i Sh.zero)=false) (λk=>[si 8 k,si 7 n,sv 0 (slv a n cap),⟨1,fnC c cs,0, .tt⟩]) [] (λk=>[]) (λk=>n-k) (0) (⟨by omega,by omega⟩) λk hI=>?_;refine J.qd (λ_ h1=>?_) λ_ h1=>?_
 ·simp only[decide_eq_true_eq,Int.ofNat_lt]at h1;cases a with
  | none=>
   refine J.know (λh' s=>(s.get (i:=1) rfl).2.1) λhn0=>?_;omega
  | some g=>
   have hk:l[k]? =some (l.getD k Sh.zero):=by rw[List.getD_eq_getElem?_getD,List.getElem?_eq_getElem (by omega),Option.getD_some]
   refine J.q λ_=>?_;refine J.v (shV (l.getD k Sh.zero)) rfl rfl (λhg a w he hs=>?_) ?_
   ·exact n8 tk rfl rfl he rfl rfl rfl (hs.get (i:=1) rfl) (by rw[show 0+(k:Int).toNat*23=k*23 from by omega];have:=Z4 l [] k _ hk;rwa [List.append_nil]at this) rfl
   refine J.q λ_=>?_;refine J.call hX hcal (hf (l.getD k Sh.zero) (List.mem_of_getElem? hk)) [2] 0 rfl rfl rfl rfl (by(repeat' (first | exact Conj.nil | refine Conj.cons ?_ ?_ | omega | exact hq0 | (simpa using hq0) | (exactλh=>h) | exact rfl | (intro hq;have hq0:=hq;try simp only[Bool.and_eq_true,Bool.or_eq_true,decide_eq_true_eq,Bool.not_eq_true',decide_eq_false_iff_not]at hq) | (simp;done) | (simp;omega) | decide))) rfl rfl (λ_=>rfl) ?_;refine cpq ⟨_,rfl,trivial,?_⟩;refine J.qd (λ_ h2=>?_) λ_ h2=>?_
   ·refine J.qr [1,2] λ_=>?_;exact⟨by rw[b2o,a9O hk hI.2 h2],rfl⟩
   ·refine J.q λ_=>?_;refine J.nx (k+1) (⟨by omega,λi hi=>by
     rcases Nat.lt_succ_iff_lt_or_eq.1 hi with h3 | h3
     ·exact hI.2 i h3
     ·rw[h3];exact h2⟩) (by omega) (λ_ s=>s)
 ·simp only[decide_eq_false_iff_not,Int.ofNat_lt]at h1;refine J.qr [1,2] λ_=>?_;exact⟨by rw[b2o,a9P (λi hi=>hI.2 i (by omega))],rfl⟩
theorem a5W (c:Nat) (cs:List Value) (p:Sh->Bool) (A:Atom) (hcal:n5 Tryz.prog c=true) (l:List Sh) (hf:∀x∈l,Fn Tryz.prog c (shV x::cs) [A] (Ps (.bool (p x)) [A]))
  (a:Option Nat) (n cap:Nat) (hl:l.length=n) (hn:n<=4611686018427387904):FP 229 [slv a n cap,fnC c cs] [c9 219 23 a n cap (m7 l),A]
  (Ps (.bool (l.any p)) [c9 219 23 a n cap (m7 l),A]):=by
 refine FE [0,0] Tryz.func229 λX F hX=>?_;refine J.qp (b0t c cs p A hcal l hf a n cap hl hn) [1,2] λ_=>?_;refine J.qr [1,2] λ_=>?_;exact⟨by rw[<- b2n],rfl⟩
theorem a7O (l:List Sh):∀u∈m7 l,u.oneCell'=true:=by
 intro u hu;simp only[m7,List.mem_flatMap]at hu;obtain⟨s,_,hu⟩:=hu;simp only[shL,List.mem_cons,List.not_mem_nil,or_false]at hu;rcases hu with rfl | rfl | rfl | rfl | rfl | rfl | rfl | rfl | rfl | rfl | rfl | rfl | rfl | rfl | rfl | rfl | rfl | rfl | rfl | rfl | rfl | rfl | rfl<;>rfl
theorem W3 (a:Option Nat) (n cap:Nat) (l:List Sh) (hl:l.length=n) (hn:n<=1000000):FP 233 [slv a n cap] [c9 219 23 a n cap (m7 l)]
  (λv As=>∃a' c',v=slv a' n c'/\As=[c9 219 23 a n cap (m7 l),c9 219 23 a' n c' (m7 l)]):=by
 refine FE [0] Tryz.func233 λX F hX=>?_;cases a with
 | none=>
  refine J.know (λh' s=>(s.get (i:=1) rfl).2) λhn0=>?_;obtain⟨rfl,rfl⟩:=hn0;have:l=[]:=List.eq_nil_of_length_eq_zero hl;subst this;refine J.qT λ_=>?_;refine J.turn1 [] rfl (As:=[c9 219 23 none 0 0 (m7 [])]) (λh s=>Sep.one ⟨rfl,rfl,rfl⟩) rfl ?_;refine J.qr [1,2] λ_=>?_;exact⟨none,0,rfl,rfl⟩
 | some g=>
  refine J.qF λ_=>?_;refine J.qn 5 λbb=>?_;refine J.closeOwn (e:=219) (size:=23) (n:=0) (cap:=0) (xs:=[]) 2 rfl rfl rfl (Nat.le_refl _) (Nat.zero_le _) rfl rfl rfl ?_;refine J.q λ_=>?_;refine J.appendR hX tk (a:=some (bb 0)) (n:=0) (cap:=0) (xs:=[]) (oo:=0) (Ay:=c9 219 23 (some g) n cap (m7 l)) 2 1 0 rfl rfl rfl rfl rfl rfl rfl rfl rfl rfl (C6 _ _ (some g) _ _ _) rfl rfl rfl rfl (a7O l) ?_ ?_ (λ_=>rfl) λa' c'=>⟨_,rfl,trivial,?_⟩
  ·simp only[maxLen];omega
  ·omega
  rw[Nat.zero_add n,List.nil_append];refine J.qr [1,2] λ_=>?_;exact⟨a',c',rfl,rfl⟩
theorem b3h (b2:Nat) (p s:Sh) (h:s.data.length=16):FP 230 [shV s,pp b2] [.pt b2 219 (shL p)] (Ps (.bool (W.alien p s)) [.pt b2 219 (shL p)]):=by
 refine FE [0,2] Tryz.func230 λX F hX=>?_;refine J.q λ_=>?_;refine J.gcase hX rfl rfl rfl trivial (λhb=>?_) (λhb=>?_)
 ·have hb2:(s.kind !=1)=false:=by rwa [Bool.not_eq_true']at hb
  rw[hb2];refine J.qp (a4C s h) [] λ_=>?_;refine J.qr [1] λ_=>?_;exact⟨by simp only[W.alien];rw[hb2],rfl⟩
 ·have hb2:(s.kind !=1)=true:=by rwa [Bool.not_eq_false']at hb
  rw[hb2];refine J.q λ_=>?_;refine J.v (.bool false) rfl rfl (λhg a w he hw=>by simp[G.on]at hg) ?_;refine J.qr [1] λ_=>?_;exact⟨by simp only[W.alien];rw[hb2];simp,rfl⟩
theorem b1y {l:List Sh} (hd:∀s∈l,s.data.length=16):(W.over l).1.length=16:=R9 hd _ rfl
theorem b0B (p:Sh) (hp:p.data.length=16) (a:Option Nat) (n cap:Nat) (l:List Sh) (hl:l.length=n) (hn:n<=100) (hd:∀s∈l,s.data.length=16):FP 197 [shV p,slv a n cap] [c9 219 23 a n cap (m7 l)]
  (Ps (.tuple #[enV (W.back p l), .bool (W.backB p l)]) [c9 219 23 a n cap (m7 l)]):=by
 have hsb:=H4 p.mask;have hdp:∀s∈l++[p],s.data.length=16:=λs hs=>by
  rw[List.mem_append,List.mem_singleton]at hs;rcases hs with hs | rfl
  ·exact hd s hs
  ·exact hp
 have key:∀(b:Bool),W.backB p l=b->W.back p l=if b then W.backS p l else En.zero:=λb hb=>by rw[W.back,hb]
 refine FE [0,0] Tryz.func197 λX F hX=>?_;refine J.q λbb=>?_;refine J.ca hX (by kernel_rfl) (a5W 230 [pp (bb 0)] (W.alien p) _ (by kernel_rfl) l (λx hx=>b3h (bb 0) p x (hd x hx)) a n cap hl (by omega)) [1,2] 0 rfl rfl rfl rfl rfl rfl (λ_=>rfl) ?_;refine cpq ⟨_,rfl,trivial,?_⟩;refine J.q λ_=>?_;refine J.join (α:=Unit) (λ_=>[sv 34 (.bool (!W.backC p l)),sv 1 (slv a n cap),sv 5 (.bool false),⟨2,pp (bb 0),3, .tt⟩,⟨4,pp (bb (0+1)),4, .tt⟩]) (λ_=>[.hp F,c9 219 23 a n cap (m7 l), .pt (bb 0) 219 (shL p), .pt (bb (0+1)) 135 (enL En.zero)]) (λhj=>?_) (λ_=>?_)
 ·have hnil:∀b:Bool,(!W.backC p l)=b->∀x:Bool,b=x->(!W.backC p l)=x:=λb h x e=>h.trans e;have hC:(!W.backC p l)=((p.kind !=2)|| !S.may p||l.any (W.alien p)||((n:Int) !=G.slots p.mask-1)):=by
   simp only[W.backC,Bool.not_and,Bool.not_not,hl,bne];congr 1
  refine J.gcase hX rfl rfl rfl trivial (λhb=>?_) (λhb=>?_)
  ·have hb2:(p.kind !=2)=false:=by rwa [Bool.not_eq_true']at hb
   rw[hb2]at hC ⊢;refine J.qp (a4C p hp) [] λ_=>?_;refine J.q λ_=>?_;refine J.gcase hX rfl rfl rfl trivial (λhb=>?_) (λhb=>?_)
   ·have hb3:(false|| !S.may p||l.any (W.alien p))=false:=by rwa [Bool.not_eq_true']at hb
    rw[hb3]at hC ⊢;refine J.qp (J6 p.mask) [] λ_=>?_;refine J.q λ_=>?_;exact J.goto [0,1,2,3] (hj ()) ⟨congrArg (λb=>some (Value.bool b)) hC.symm,rfl,rfl,rfl,rfl,trivial⟩ rfl rfl
   ·have hb3:(false|| !S.may p||l.any (W.alien p))=true:=by rwa [Bool.not_eq_false']at hb
    rw[hb3]at hC ⊢;refine J.q λ_=>?_;refine J.v (iI 0) rfl rfl (λhg a w he hw=>by simp[G.on]at hg) ?_;refine J.q λ_=>?_;exact J.goto [0,1,2,3] (hj ()) ⟨congrArg (λb=>some (Value.bool b)) (show _= !W.backC p l from by rw[hC];rfl),rfl,rfl,rfl,rfl,trivial⟩ rfl rfl
  ·have hb2:(p.kind !=2)=true:=by rwa [Bool.not_eq_false']at hb
   rw[hb2]at hC ⊢;refine J.q λ_=>?_;refine J.v (.bool false) rfl rfl (λhg a w he hw=>by simp[G.on]at hg) ?_;refine J.q λ_=>?_;refine J.gcase hX rfl rfl rfl trivial (λhb=>by simp at hb) (λhb=>?_);refine J.q λ_=>?_;refine J.v (iI 0) rfl rfl (λhg a w he hw=>by simp[G.on]at hg) ?_;refine J.q λ_=>?_;exact J.goto [0,1,2,3] (hj ()) ⟨congrArg (λb=>some (Value.bool b)) (show _= !W.backC p l from by rw[hC];rfl),rfl,rfl,rfl,rfl,trivial⟩ rfl rfl
 refine J.qd (λ_ h1=>?_) λ_ h1=>?_
 ·have hB:W.backB p l=false:=by
   have:W.backB p l=(W.backC p l&&W.ok p.block p.row p.mask (W.backS p l)):=rfl;rw[this,show W.backC p l=false from by simpa using h1];rfl
  refine J.qr [1] λ_=>?_;exact⟨by rw[key _ hB,hB];rfl,rfl⟩
 have h2:W.backC p l=true:=by simpa using h1
 have hB:W.backB p l=W.ok p.block p.row p.mask (W.backS p l):=by
  have:W.backB p l=(W.backC p l&&W.ok p.block p.row p.mask (W.backS p l)):=rfl;rw[this,h2];rfl
 refine J.p (.take true 0 (.take false 2 (.alt false 1 ((.alt false 3 ((.alt false 4 ((.alt false 5 ((.of [24,28,32,38,42,44])) (.alt false 9 ((.of [22,24,28,32,42,44])) .non))) (.alt false 9 ((.of [18,22,24,28,32,42,44])) .non))) (.alt false 9 ((.of [14,18,22,24,28,32,42,44])) .non))) (.alt false 3 ((.alt false 1 ((.alt false 4 ((.alt false 5 ((.of [24,28,32,38,42,44])) (.alt false 9 ((.of [22,24,28,32,42,44])) .non))) (.alt false 9 ((.of [18,22,24,28,32,42,44])) .non))) (.alt false 9 ((.of [6,18,22,24,28,32,42,44])) .non))) (.alt false 9 ((.alt false 1 ((.of [14,18,22,24,28,32,42,44])) (.alt false 3 ((.of [6,18,22,24,28,32,42,44])) .non))) .non))))) [11] [2] λ_=>?_;refine J.join (α:=Nat) (λx=>[⟨7,pp x,5, .tt⟩,⟨8, .int .u64 (W.over (l++[p])).2,0, .tt⟩,⟨2,pp (bb 0),3, .tt⟩,⟨4,pp (bb (0+1)),4, .tt⟩]) (λx=>[.hp F,c9 219 23 a n cap (m7 l), .pt (bb 0) 219 (shL p), .pt (bb (0+1)) 135 (enL En.zero), .pt x 31 (n6 (W.over (l++[p])).1)]) (λhj=>?_) (λx=>?_)
 ·skip
  refine J.qn 2 λ_=>?_;refine J.alts ?_ (J.alts ?_ ?_)
  ·skip
   refine J.qc (W3 a n cap l hl (by omega)) [1] λ_=>?_;rintro v As ⟨a1,c1,rfl,rfl⟩;refine⟨_,rfl,⟨rfl,trivial⟩,?_⟩;refine J.alts ?_ ?_
   ·skip
    refine J.qn 1 λb3=>?_;refine J.alts ?_ ?_
    ·skip
     refine J.append hX tk 4 5 0 rfl rfl rfl rfl rfl rfl rfl rfl rfl rfl rfl rfl rfl rfl rfl rfl ?_ ?_ (λ_=>rfl) λa2 c2=>⟨_,(congrArg (λz=>A4 _ 4 (c9 _ _ _ _ _ z)) (x6 l p).symm).trans rfl,⟨rfl,trivial⟩,?_⟩
     ·simp only[maxLen];omega
     ·omega
     refine J.alts ?_ ?_
     ·skip
      refine J.qp (M5 a2 (n+1) c2 (l++[p]) (by simp[hl]) (by omega) hdp) [4] λ_=>?_;refine J.qn 3 λ_=>?_;refine J.qn 1 λb9=>?_;refine J.qn 3 λ_=>?_;exact J.goto [0,1,2,3,6] (hj (b9 0)) ⟨rfl,rfl,rfl,rfl,trivial⟩ rfl rfl
     ·skip
      refine J.qn 1 λb9=>?_;refine J.qp (M5 a2 (n+1) c2 (l++[p]) (by simp[hl]) (by omega) hdp) [4] λ_=>?_;refine J.qn 6 λ_=>?_;exact J.goto [0,1,2,3,6] (hj (b9 0)) ⟨rfl,rfl,rfl,rfl,trivial⟩ rfl rfl
    ·skip
     refine J.qn 1 λb9=>?_;refine J.append hX tk 4 5 0 rfl rfl rfl rfl rfl rfl rfl rfl rfl rfl rfl rfl rfl rfl rfl rfl ?_ ?_ (λ_=>rfl) λa2 c2=>⟨_,(congrArg (λz=>A4 _ 4 (c9 _ _ _ _ _ z)) (x6 l p).symm).trans rfl,⟨rfl,trivial⟩,?_⟩
     ·simp only[maxLen];omega
     ·omega
     refine J.qp (M5 a2 (n+1) c2 (l++[p]) (by simp[hl]) (by omega) hdp) [4] λ_=>?_;refine J.qn 6 λ_=>?_;exact J.goto [0,1,2,3,6] (hj (b9 0)) ⟨rfl,rfl,rfl,rfl,trivial⟩ rfl rfl
   ·skip
    refine J.qn 1 λb9=>?_;refine J.qn 1 λb3=>?_;refine J.append hX tk 4 6 0 rfl rfl rfl rfl rfl rfl rfl rfl rfl rfl rfl rfl rfl rfl rfl rfl ?_ ?_ (λ_=>rfl) λa2 c2=>⟨_,(congrArg (λz=>A4 _ 4 (c9 _ _ _ _ _ z)) (x6 l p).symm).trans rfl,⟨rfl,trivial⟩,?_⟩
    ·simp only[maxLen];omega
    ·omega
    refine J.qp (M5 a2 (n+1) c2 (l++[p]) (by simp[hl]) (by omega) hdp) [4] λ_=>?_;refine J.qn 6 λ_=>?_;exact J.goto [0,1,2,3,5] (hj (b9 0)) ⟨rfl,rfl,rfl,rfl,trivial⟩ rfl rfl
  ·skip
   refine J.qn 1 λb3=>?_;refine J.alts ?_ ?_
   ·skip
    refine J.qc (W3 a n cap l hl (by omega)) [1] λ_=>?_;rintro v As ⟨a1,c1,rfl,rfl⟩;refine⟨_,rfl,⟨rfl,trivial⟩,?_⟩;refine J.alts ?_ ?_
    ·skip
     refine J.append hX tk 5 4 0 rfl rfl rfl rfl rfl rfl rfl rfl rfl rfl rfl rfl rfl rfl rfl rfl ?_ ?_ (λ_=>rfl) λa2 c2=>⟨_,(congrArg (λz=>A4 _ 5 (c9 _ _ _ _ _ z)) (x6 l p).symm).trans rfl,⟨rfl,trivial⟩,?_⟩
     ·simp only[maxLen];omega
     ·omega
     refine J.alts ?_ ?_
     ·skip
      refine J.qp (M5 a2 (n+1) c2 (l++[p]) (by simp[hl]) (by omega) hdp) [5] λ_=>?_;refine J.qn 3 λ_=>?_;refine J.qn 1 λb9=>?_;refine J.qn 3 λ_=>?_;exact J.goto [0,1,2,3,6] (hj (b9 0)) ⟨rfl,rfl,rfl,rfl,trivial⟩ rfl rfl
     ·skip
      refine J.qn 1 λb9=>?_;refine J.qp (M5 a2 (n+1) c2 (l++[p]) (by simp[hl]) (by omega) hdp) [5] λ_=>?_;refine J.qn 6 λ_=>?_;exact J.goto [0,1,2,3,6] (hj (b9 0)) ⟨rfl,rfl,rfl,rfl,trivial⟩ rfl rfl
    ·skip
     refine J.qn 1 λb9=>?_;refine J.append hX tk 5 4 0 rfl rfl rfl rfl rfl rfl rfl rfl rfl rfl rfl rfl rfl rfl rfl rfl ?_ ?_ (λ_=>rfl) λa2 c2=>⟨_,(congrArg (λz=>A4 _ 5 (c9 _ _ _ _ _ z)) (x6 l p).symm).trans rfl,⟨rfl,trivial⟩,?_⟩
     ·simp only[maxLen];omega
     ·omega
     refine J.qp (M5 a2 (n+1) c2 (l++[p]) (by simp[hl]) (by omega) hdp) [5] λ_=>?_;refine J.qn 6 λ_=>?_;exact J.goto [0,1,2,3,6] (hj (b9 0)) ⟨rfl,rfl,rfl,rfl,trivial⟩ rfl rfl
   ·skip
    refine J.qn 1 λb9=>?_;refine J.qc (W3 a n cap l hl (by omega)) [1] λ_=>?_;rintro v As ⟨a1,c1,rfl,rfl⟩;refine⟨_,rfl,⟨rfl,trivial⟩,?_⟩;refine J.append hX tk 6 4 0 rfl rfl rfl rfl rfl rfl rfl rfl rfl rfl rfl rfl rfl rfl rfl rfl ?_ ?_ (λ_=>rfl) λa2 c2=>⟨_,(congrArg (λz=>A4 _ 6 (c9 _ _ _ _ _ z)) (x6 l p).symm).trans rfl,⟨rfl,trivial⟩,?_⟩
    ·simp only[maxLen];omega
    ·omega
    refine J.qp (M5 a2 (n+1) c2 (l++[p]) (by simp[hl]) (by omega) hdp) [6] λ_=>?_;refine J.qn 6 λ_=>?_;exact J.goto [0,1,2,3,5] (hj (b9 0)) ⟨rfl,rfl,rfl,rfl,trivial⟩ rfl rfl
  ·skip
   refine J.qn 1 λb9=>?_;refine J.alts ?_ ?_
   ·skip
    refine J.qc (W3 a n cap l hl (by omega)) [1] λ_=>?_;rintro v As ⟨a1,c1,rfl,rfl⟩;refine⟨_,rfl,⟨rfl,trivial⟩,?_⟩;refine J.qn 1 λb3=>?_;refine J.append hX tk 5 6 0 rfl rfl rfl rfl rfl rfl rfl rfl rfl rfl rfl rfl rfl rfl rfl rfl ?_ ?_ (λ_=>rfl) λa2 c2=>⟨_,(congrArg (λz=>A4 _ 5 (c9 _ _ _ _ _ z)) (x6 l p).symm).trans rfl,⟨rfl,trivial⟩,?_⟩
    ·simp only[maxLen];omega
    ·omega
    refine J.qp (M5 a2 (n+1) c2 (l++[p]) (by simp[hl]) (by omega) hdp) [5] λ_=>?_;refine J.qn 6 λ_=>?_;exact J.goto [0,1,2,3,4] (hj (b9 0)) ⟨rfl,rfl,rfl,rfl,trivial⟩ rfl rfl
   ·skip
    refine J.qn 1 λb3=>?_;refine J.qc (W3 a n cap l hl (by omega)) [1] λ_=>?_;rintro v As ⟨a1,c1,rfl,rfl⟩;refine⟨_,rfl,⟨rfl,trivial⟩,?_⟩;refine J.append hX tk 6 5 0 rfl rfl rfl rfl rfl rfl rfl rfl rfl rfl rfl rfl rfl rfl rfl rfl ?_ ?_ (λ_=>rfl) λa2 c2=>⟨_,(congrArg (λz=>A4 _ 6 (c9 _ _ _ _ _ z)) (x6 l p).symm).trans rfl,⟨rfl,trivial⟩,?_⟩
    ·simp only[maxLen];omega
    ·omega
    refine J.qp (M5 a2 (n+1) c2 (l++[p]) (by simp[hl]) (by omega) hdp) [6] λ_=>?_;refine J.qn 6 λ_=>?_;exact J.goto [0,1,2,3,4] (hj (b9 0)) ⟨rfl,rfl,rfl,rfl,trivial⟩ rfl rfl

 obtain⟨mm,hm1,hm2⟩:=a0w (l++[p]) (zeros16,0) ⟨by decide,by decide⟩;have hm1:(W.over (l++[p])).2=(mm:Int):=hm1;have hS:W.backS p l=⟨(mm/1099511627776 % 65536:Nat),(mm % 1099511627776:Nat),(mm/72057594037927936:Nat),(W.over (l++[p])).1⟩:=by
  have hx:mm=(W.over (l++[p])).2.toNat:=by rw[hm1];rfl
  rw[W.backS,<- hx]
 rw[hm1];refine J.qp (b5F mm hm2) [] λ_=>?_;refine J.qp (a6b p.block p.row p.mask ⟨(mm/1099511627776 % 65536:Nat),(mm % 1099511627776:Nat),(mm/72057594037927936:Nat),(W.over (l++[p])).1⟩ (b1y hdp)) [] λ_=>?_;rw[<- hS,<- hB];refine J.qd (λ_ h3=>?_) λ_ h3=>?_
 ·simp only[Bool.not_eq_true']at h3;refine J.qr [1] λ_=>?_;exact⟨by rw[key _ h3,h3];rfl,rfl⟩
 ·simp only[Bool.not_eq_false']at h3;refine J.qr [1] λ_=>?_;exact⟨by rw[key _ h3,h3,if_pos rfl,hS];rfl,rfl⟩
def H0 (l:List Bool):List Value:=l.map .bool
theorem a7d (l:List Bool) (x:Bool):H0 (l++[x])=H0 l++[.bool x]:=by simp[H0]
theorem U9 {l:List Bool} {k:Nat} {x:Bool} (h:l[k]? =some x):(H0 l)[k]? =some (.bool x):=by simp[H0,h]
def fdL (a1:Option Nat) (c1:Nat) (a2:Option Nat) (c2 n:Nat) (s:Sh) (w:Bool):List Value:=[slv a1 n c1,slv a2 n c2,byC s.data 0,byC s.data 1,byC s.data 2,byC s.data 3,byC s.data 4,byC s.data 5,byC s.data 6,byC s.data 7,byC s.data 8,byC s.data 9,byC s.data 10,byC s.data 11,byC s.data 12,byC s.data 13,byC s.data 14,byC s.data 15,
 iI s.role,iI s.lpn,iI s.seq,iI s.kind,iI s.block,iI s.row,iI s.mask, .bool w]
theorem a5k (s:Sh):FP 138 [shV s] [] (Ps (enV s.en) []):=by
 refine FE [0] Tryz.func138 λX F hX=>?_;exact J.qx []
theorem a8n (p:Nat) (N:Nand) (hN:N.Ok) (hR:N.Room) (b r m d:Int) (b1 b2 b3 b4:Nat):FP 196 [iI d,pp b1,pp b2,pp b3,pp b4] [i5 p N, .pt b1 44 [pp p], .pt b2 3 [iI b], .pt b3 3 [iI r], .pt b4 3 [iI m]]
  (Ps (.tuple #[shV (R.one N b r m d).1, .bool (R.one N b r m d).2]) [i5 p N, .pt b1 44 [pp p], .pt b2 3 [iI b], .pt b3 3 [iI r], .pt b4 3 [iI m]]):=by
 refine FE [0,3,4,5,6] Tryz.func196 λX F hX=>?_;refine J.q λb2=>?_;refine J.q λb3=>?_;refine J.cb (a1a p N hN hR d b r) [1] ?_;refine cpq ⟨_,rfl,trivial,?_⟩;refine J.q λb4=>?_;refine J.plan (.of [1,4,8,12,16,21,25,28,32,38,40]) [10] [5,7] (by rw[hX.hP];kernel_rfl) (by kernel_rfl) ?_;exact J.qx [1,2,3,4,5]
theorem a4m (N:Nand) (b r m:Int) (k:Nat):R.ones N b r m (k+1)=R.ones N b r m k++[R.one N b r m (G.die m b r (k:Nat))]:=by simp[R.ones,List.range_succ]
theorem b1m (p:Nat) (N:Nand) (hN:N.Ok) (hR:N.Room) (b r m:Int):FP 137 [pp p,iI b,iI r,iI m] [i5 p N]
  (λv As=>∃a1 c1 a2 c2,v= .agg (fdL a1 c1 a2 c2 (G.slots m).toNat (R.look N b r m).parity (R.look N b r m).whole).toArray/\As=[i5 p N,c9 219 23 a1 (G.slots m).toNat c1 (m7 (R.look N b r m).slots),c9 4 1 a2 (G.slots m).toNat c2 (H0 (R.look N b r m).good)]):=by
 have hsb:=H4 m;obtain⟨P,hP⟩:∃P,R.one N b r m (G.parity m b r)=P:=⟨_,rfl⟩;refine FE [2,0,0,0] Tryz.func137 λX F hX=>?_;refine J.q λbb=>?_;refine J.cb (K1 m b r) [] ?_;refine cpq ⟨_,rfl,trivial,?_⟩;refine J.q λb8=>?_;refine J.cb (a8n p N hN hR b r m (G.parity m b r) (bb 0) (bb 1) (bb 2) (bb 3)) [1,2,3,4,5] ?_;refine cpq ⟨_,rfl,trivial,?_⟩;rw[hP];refine J.qp (J6 m) [] λ_=>?_;refine J.turn1 [] rfl (As:=[c9 219 23 none 0 0 (m7 []),c9 4 1 none 0 0 (H0 [])]) (λh s=>⟨λ_=>0,λi A hA=>by
  match i,hA with
  | 0,hA=>simp at hA;subst hA;exact⟨rfl,rfl,rfl⟩
  | 1,hA=>simp at hA;subst hA;exact⟨rfl,rfl,rfl⟩
  | k+2,hA=>simp at hA⟩) rfl ?_
 refine J.q λ_=>?_;refine J.l (α:=(Nat×Option Nat×Nat×Option Nat×Nat)) (λz=>z.1<=(G.slots m).toNat) (λz=>[si 28 z.1,si 27 (G.slots m),⟨9,fnC 196 [pp (bb 0),pp (bb 1),pp (bb 2),pp (bb 3)],0, .tt⟩,⟨4,pp (bb 0),3, .tt⟩,⟨5,pp (bb 1),4, .tt⟩,⟨6,pp (bb 2),5, .tt⟩,⟨7,pp (bb 3),6, .tt⟩,⟨8,pp (bb 4),7, .tt⟩,⟨10,pp (bb 5),8, .tt⟩]) [7,8,9] (λz=>[.pt (bb 5) 221 (fdL z.2.1 z.2.2.1 z.2.2.2.1 z.2.2.2.2 z.1 P.1 P.2),c9 219 23 z.2.1 z.1 z.2.2.1 (m7 ((R.ones N b r m z.1).map (·.1))),c9 4 1 z.2.2.2.1 z.1 z.2.2.2.2 (H0 ((R.ones N b r m z.1).map (·.2)))]) (λz=>(G.slots m).toNat-z.1) ((0,none,0,none,0)) (Nat.zero_le _) λz hI=>?_;obtain⟨k,a1,c1,a2,c2⟩:=z;dsimp only at hI ⊢;refine J.qd (λ_ h1=>?_) λ_ h1=>?_
 ·simp only[decide_eq_true_eq]at h1;have hS1:m7 ((R.ones N b r m k).map (·.1))++shL (R.one N b r m (G.die m b r k)).1=m7 ((R.ones N b r m (k+1)).map (·.1)):=by rw[a4m,List.map_append,<- x6];rfl
  have hS2:H0 ((R.ones N b r m k).map (·.2))++[.bool (R.one N b r m (G.die m b r k)).2]=H0 ((R.ones N b r m (k+1)).map (·.2)):=by rw[a4m,List.map_append,<- a7d];rfl
  refine J.qp (a8G m b r k (by omega) (by omega)) [] λ_=>?_;refine J.qp (a8n p N hN hR b r m (G.die m b r k) (bb 0) (bb 1) (bb 2) (bb 3)) [1,2,3,4,5] λ_=>?_;refine J.p (.take true 0 (.take false 1 (.take false 2 (.take true 5 (.take false 6 (.take true 7 (.alt false 3 ((.alt false 4 ((.of [40,34,38,47,48,55])) (.alt false 8 ((.of [18,40,38,47,48,55])) .non))) (.alt false 8 ((.of [14,18,40,38,47,48,55])) .non)))))))) [11,12,13] [7,10] λ_=>?_;refine J.join (α:=Option Nat×Nat×Option Nat×Nat) (λx=>[si 28 k,si 27 (G.slots m),⟨9,fnC 196 [pp (bb 0),pp (bb 1),pp (bb 2),pp (bb 3)],0, .tt⟩,⟨4,pp (bb 0),3, .tt⟩,⟨5,pp (bb 1),4, .tt⟩,⟨6,pp (bb 2),5, .tt⟩,⟨7,pp (bb 3),6, .tt⟩,⟨8,pp (bb 4),7, .tt⟩,⟨10,pp (bb 5),8, .tt⟩]) (λx=>[.hp F,i5 p N, .pt (bb 0) 44 [pp p], .pt (bb 1) 3 [iI b], .pt (bb 2) 3 [iI r], .pt (bb 3) 3 [iI m], .pt (bb 4) 221 (fdL none 0 none 0 0 Sh.zero false), .pt (bb 5) 221 (fdL x.1 x.2.1 x.2.2.1 x.2.2.2 (k+1) P.1 P.2),c9 219 23 x.1 (k+1) x.2.1 (m7 ((R.ones N b r m (k+1)).map (·.1))),c9 4 1 x.2.2.1 (k+1) x.2.2.2 (H0 ((R.ones N b r m (k+1)).map (·.2)))]) (λhj=>?_) (λx=>?_)
  ·skip
   refine J.qn 6 λ_=>?_;refine J.alts ?_ ?_
   ·skip
    refine J.qn 1 λb3=>?_;refine J.alts ?_ ?_
    ·skip
     refine J.ap 8 11 0 hS1 λa3 c3=>?_;refine J.qn 1 λ_=>?_;refine J.qn 1 λb8=>?_;refine J.ap 9 12 0 hS2 λa4 c4=>?_;refine J.qn 4 λ_=>?_;exact J.goto [0,1,2,3,4,5,6,7,8,9] (hj (a3,c3,a4,c4)) ⟨rfl,rfl,rfl,rfl,rfl,rfl,rfl,rfl,rfl,trivial⟩ rfl rfl
    ·skip
     refine J.qn 1 λb8=>?_;refine J.ap 8 11 0 hS1 λa3 c3=>?_;refine J.qn 1 λ_=>?_;refine J.ap 9 12 0 hS2 λa4 c4=>?_;refine J.qn 4 λ_=>?_;exact J.goto [0,1,2,3,4,5,6,7,8,9] (hj (a3,c3,a4,c4)) ⟨rfl,rfl,rfl,rfl,rfl,rfl,rfl,rfl,rfl,trivial⟩ rfl rfl
   ·skip
    refine J.qn 1 λb8=>?_;refine J.qn 1 λb3=>?_;refine J.ap 8 12 0 hS1 λa3 c3=>?_;refine J.qn 1 λ_=>?_;refine J.ap 9 11 0 hS2 λa4 c4=>?_;refine J.qn 4 λ_=>?_;exact J.goto [0,1,2,3,4,5,6,7,8,9] (hj (a3,c3,a4,c4)) ⟨rfl,rfl,rfl,rfl,rfl,rfl,rfl,rfl,rfl,trivial⟩ rfl rfl
  obtain⟨a3,c3,a4,c4⟩:=x;dsimp only;refine J.q λ_=>?_;refine J.n ((k+1,a3,c3,a4,c4)) (by dsimp only;omega) (by dsimp only;omega) [0,1,2,3,4,5,6,7,8,9]
 ·simp only[decide_eq_false_iff_not]at h1;have hk:k=(G.slots m).toNat:=by omega
  subst hk;refine J.qr [1,8,9] λ_=>?_;refine⟨a1,c1,a2,c2,?_,rfl⟩;rw[show(R.look N b r m).parity=P.1 from congrArg Prod.fst hP,show(R.look N b r m).whole=P.2 from congrArg Prod.snd hP];rfl
def T6 (l:List Sh) (k i:Nat):List Sh:=(l.take i).eraseIdx k
theorem b3Q (l:List Sh) (i:Nat) (h:i<l.length):T6 l i (i+1)=T6 l i i:=by
 unfold T6;have hl:(l.take i).length=i:=by rw[List.length_take];omega
 rw[List.eraseIdx_of_length_le (l:=l.take i) (by omega),List.take_add_one,List.getElem?_eq_getElem h,Option.toList_some];rw[List.eraseIdx_append_of_length_le (by omega),hl,Nat.sub_self];simp
theorem b3P (l:List Sh) (k i:Nat) (x:Sh) (h:l[i]? =some x) (hk:i≠k):T6 l k (i+1)=T6 l k i++[x]:=by
 unfold T6;rw[List.take_add_one,h,Option.toList_some];have hi:=(List.getElem?_eq_some_iff.1 h).1;have hl:(l.take i).length=i:=by rw[List.length_take];omega
 by_cases hlt:k<i
 ·rw[List.eraseIdx_append_of_lt_length (by omega)]
 ·rw[List.eraseIdx_of_length_le (l:=l.take i++[x]) (by rw[List.length_append,List.length_singleton];omega),List.eraseIdx_of_length_le (by omega)]
theorem b1D (l:List Sh) (k i:Nat):(T6 l k i).length<=l.length:=by
 unfold T6;refine Nat.le_trans (List.length_eraseIdx_le _ _) ?_;rw[List.length_take];omega
theorem b1C {l:List Sh} {k i:Nat} {x:Sh} (h:x∈T6 l k i):x∈l:=List.mem_of_mem_take (List.mem_of_mem_eraseIdx h)
theorem a6o (f:Fd) (n:Nat) (hn:n<=8) (h1l:f.slots.length=n) (h2l:f.good.length=n) (hd:∀s∈f.slots,s.data.length=16) (hp:f.parity.data.length=16) (a1 a2:Option Nat) (c1 c2 k:Nat):FP 139 [.agg (fdL a1 c1 a2 c2 n f.parity f.whole).toArray,iI k] [c9 219 23 a1 n c1 (m7 f.slots),c9 4 1 a2 n c2 (H0 f.good)]
  (λv As=>v= .tuple #[enV (R.mend f k), .bool (R.mendB f k)]/\As=[c9 219 23 a1 n c1 (m7 f.slots),c9 4 1 a2 n c2 (H0 f.good)]):=by
 refine FE [0,0] Tryz.func139 λX F hX=>?_;refine J.q λbb=>?_;refine J.turn1 [] rfl (As:=[c9 219 23 none 0 0 (m7 (T6 f.slots k 0))]) (λh s=>Sep.one ⟨rfl,rfl,rfl⟩) rfl ?_;refine J.q λ_=>?_;refine J.l (α:=(Nat×Option Nat×Nat)) (λz=>z.1<=n/\∀j<z.1,j=k\/f.good.getD j false=true) (λz=>[si 12 z.1,si 11 n,sv 10 (slv a1 n c1),si 1 k,⟨2,pp (bb 0),4, .tt⟩,⟨4,pp (bb 1),5, .tt⟩,sv 5 (.bool false),sv 6 (slv z.2.1 (T6 f.slots k z.1).length z.2.2)]) [5] (λz=>[c9 219 23 z.2.1 (T6 f.slots k z.1).length z.2.2 (m7 (T6 f.slots k z.1))]) (λz=>n-z.1) ((0,none,0)) (⟨Nat.zero_le _,by omega⟩) λz hI=>?_;obtain⟨i,a3,c3⟩:=z;dsimp only at hI ⊢;have hol:=b1D f.slots k i;refine J.qd (λ_ h1=>?_) λ_ h1=>?_
 ·simp only[decide_eq_true_eq,Int.ofNat_lt]at h1;refine J.know (λh' s=>i9 (c:=(a1,c1)) (by omega) (s.get (i:=1) rfl)) λhg=>?_;obtain⟨g1,rfl⟩:=hg;refine J.know (λh' s=>i9 (c:=(a2,c2)) (by omega) (s.get (i:=2) rfl)) λhg=>?_;obtain⟨g2,rfl⟩:=hg;obtain⟨s,hs⟩:∃s,f.slots[i]? =some s:=⟨_,List.getElem?_eq_getElem (by omega)⟩;have hgd:f.good[i]? =some (f.good.getD i false):=by rw[List.getD_eq_getElem?_getD,List.getElem?_eq_getElem (by omega),Option.getD_some]
  refine J.q λ_=>?_;refine J.v (shV s) rfl rfl (λhg a w he hw=>?_) ?_
  ·exact n8 tk rfl rfl he rfl rfl rfl (hw.get (i:=1) rfl) (by rw[show 0+(i:Int).toNat*23=i*23 from by omega];exact U7 hs) rfl
  refine J.qd (λ_ h2=>?_) λ_ h2=>?_
  ·simp only[beq_iff_eq,Int.natCast_inj]at h2;subst h2;rw[<- b3Q f.slots i (by omega)];refine J.q λ_=>?_;refine J.nS ((i+1,a3,c3)) (⟨by dsimp only;omega,λj hj=>by
    rcases Nat.lt_succ_iff_lt_or_eq.1 hj with h | h
    ·exact hI.2 j h
    ·exact .inl h⟩) (by dsimp only;omega) [0,1,2,3,4,5] rfl rfl
  simp only[beq_eq_false_iff_ne,ne_eq,Int.natCast_inj]at h2;refine J.q λ_=>?_;refine J.v (.bool (f.good.getD i false)) rfl rfl (λhg a w he hw=>?_) ?_
  ·exact j9 tk rfl rfl he rfl rfl rfl (hw.get (i:=2) rfl) (by rw[show 0+(i:Int).toNat*1=i from by omega];exact U9 hgd)
  refine J.qd (λ_ h3=>?_) λ_ h3=>?_
  ·simp only[Bool.not_eq_true']at h3;refine J.qr [1,2] λ_=>?_;have hr:R.rest f k=false:=by
    unfold R.rest;rw[List.all_eq_false];exact⟨i,by rw[List.mem_range];omega,by rw[h3];simpa using h2⟩
   simp only[R.mend,R.mendB,hr,Bool.false_and];exact⟨rfl,rfl⟩
  ·simp only[Bool.not_eq_false']at h3;have hsn:=b3P f.slots k i s hs h2;have hsl:(T6 f.slots k i).length+1=(T6 f.slots k (i+1)).length:=by rw[hsn];simp
   refine J.q λ_=>?_;refine J.ap 5 7 0 ((x6 _ s).symm.trans (congrArg m7 hsn.symm)) λa4 c4=>?_;rw[hsl];refine J.q λ_=>?_;refine J.nS ((i+1,a4,c4)) (⟨by dsimp only;omega,λj hj=>by
    rcases Nat.lt_succ_iff_lt_or_eq.1 hj with h | h
    ·exact hI.2 j h
    ·exact .inr (h▸h3)⟩) (by dsimp only;omega) [0,1,2,3,4,5] rfl rfl
 ·simp only[decide_eq_false_iff_not,Int.ofNat_lt]at h1;obtain rfl:i=n:=by omega
  have hr:R.rest f k=true:=by
   unfold R.rest;rw[List.all_eq_true];intro j hj;rcases hI.2 j (by simp at hj;omega)with h | h
   ·simp[h]
   ·rw[h];simp
  have ho:T6 f.slots k i=f.slots.eraseIdx k:=by unfold T6;rw[List.take_of_length_le (by omega)]
  refine J.qd (λ_ h4=>?_) λ_ h4=>?_
  ·simp only[Bool.not_eq_true']at h4;refine J.qr [1,2] λ_=>?_;simp only[R.mend,R.mendB,h4,Bool.and_false,Bool.false_and];exact⟨rfl,rfl⟩
  ·simp only[Bool.not_eq_false']at h4;refine J.qp (b0B f.parity hp a3 (T6 f.slots k i).length c3 (T6 f.slots k i) rfl (by omega) (λs hs=>hd s (b1C hs))) [5] λ_=>?_;refine J.qr [1,2] λ_=>?_;simp only[R.mend,R.mendB,hr,h4,Bool.and_self,Bool.true_and,if_true,<- ho];exact⟨rfl,rfl⟩
theorem a3I:∀m,m<256->∀k,k<8->0<=L.at_ (m:Nat) (k:Nat)->L.count (L.without (m:Nat) (L.at_ (m:Nat) (k:Nat)))=L.count (m:Nat)-1:=by decide+kernel
theorem b5M {m b r s:Int} (h:0<=G.die m b r s):0<=s/\s<G.slots m:=by
 unfold G.die at h;split at h
 ·omega
 ·rename_i hp;have hp0:0<=G.parity m b r:=by omega
  have hs:0<=s/\s<(L.count (L.without m (G.parity m b r)):Int):=by
   by_cases hh:s<0\/(L.count (L.without m (G.parity m b r)):Int)<=s
   ·rw[L.at_ge _ _ hh]at h;omega
   ·omega
  unfold G.parity at hp0 hs;split at hp0
  ·omega
  ·rename_i hc;rw[if_neg hc]at hs;have hm:0<=m/\m<256:=by
    by_cases hh:0<=m/\m<256
    ·exact hh
    ·have:=L.count_no m hh;omega
   obtain⟨M,rfl⟩:=Int.eq_ofNat_of_zero_le hm.1;have hcl:=L.count_le (M:Int);have hq:0<=(b+r) % (L.count (M:Int):Int)/\(b+r) % (L.count (M:Int):Int)<L.count (M:Int):=⟨Int.emod_nonneg _ (by omega),Int.emod_lt_of_pos _ (by omega)⟩;obtain⟨q,hq2⟩:=Int.eq_ofNat_of_zero_le hq.1;rw[hq2]at hs hp0 hq;rw[a3I M (by omega) q (by omega) hp0]at hs;unfold G.slots;rw[if_neg (by omega)];omega
theorem R4 {N:Nand} (hN:N.Ok) (b r m:Int):(∀s∈(R.look N b r m).slots,s.data.length=16)/\(R.look N b r m).parity.data.length=16:=by
 refine⟨λs hs=>?_,a4r hN _ _ _⟩;simp only[R.look,R.ones,List.map_map,List.mem_map]at hs;obtain⟨k,_,rfl⟩:=hs;exact a4r hN _ _ _
theorem a5l (p:Nat) (N:Nand) (hN:N.Ok) (hR:N.Room) (b r s m:Int) (h0: -1000000<=s) (h1:s<=1000000):FP 87 [pp p, .agg #[iI b,iI r,iI s],iI m] [i5 p N]
  (Ps (.tuple #[enV (R.read N b r s m).1,iI (R.read N b r s m).2]) [i5 p N]):=by
 have hbd:=hN.bd;refine FE [2,0,0] Tryz.func87 λX F hX=>?_;refine J.q λbb=>?_;refine J.join (α:=Unit) (λ_=>[⟨30, .bool (decide (G.die m b r s<0)|| !B1 N.dies N.blocks N.pages 0 b r),0, .tt⟩,⟨0,pp p,2, .tt⟩,si 2 m,⟨4,pp (bb 0),3, .tt⟩,⟨6,pp (bb 1),4, .tt⟩]) (λ_=>[.hp F,i5 p N, .pt (bb 0) 139 [iI b,iI r,iI s], .pt (bb 1) 135 (enL En.zero)]) (λhj=>?_) (λ_=>?_)
 ·refine J.p (.of [0,4,9,12,17,20,25,30,32,36,40,48,53,56,61,64,46,70,72,76]) [] [2] λ_=>?_;refine J.qp (a8G m b r s h0 h1) [] λ_=>?_;refine J.q λ_=>?_;refine J.gcase hX rfl rfl rfl ⟨rfl,trivial⟩ (λhb=>?_) (λhb=>?_)
  ·have hb2:decide (G.die m b r s<0)=false:=by rwa [Bool.not_eq_true']at hb
   rw[hb2]at hj ⊢;refine J.qp (M8 p N) [1] λ_=>?_;refine J.qp (a6S N.dies N.blocks N.pages 0 b r (by omega) (by omega) (by omega)) [] λ_=>?_;refine J.q λ_=>?_;exact J.goto [0,1,2,3] (hj ()) ⟨rfl,rfl,rfl,rfl,rfl,trivial⟩ rfl rfl
  ·have hb2:decide (G.die m b r s<0)=true:=by rwa [Bool.not_eq_false']at hb
   rw[hb2]at hj ⊢;refine J.q λ_=>?_;refine J.gcase hX rfl rfl rfl ⟨rfl,trivial⟩ (λhb=>by simp at hb) (λhb=>?_);refine J.q λ_=>?_;refine J.vT (.bool false) rfl rfl (λhg a w he hw=>by simp[G.on]at hg) ?_;refine J.q λ_=>?_;exact J.goto [0,1,2,3] (hj ()) ⟨rfl,rfl,rfl,rfl,rfl,trivial⟩ rfl rfl
 refine J.qd (λ_ h2=>?_) λ_ h2=>?_
 ·refine J.qr [1] λ_=>?_;have:G.die m b r s<0\/B1 N.dies N.blocks N.pages 0 b r=false:=by simpa using h2
  rw[R.read,if_pos this];exact⟨rfl,rfl⟩
 have hc:¬(G.die m b r s<0\/B1 N.dies N.blocks N.pages 0 b r=false):=by simpa using h2
 have hd:=b5M (m:=m) (b:=b) (r:=r) (s:=s) (by omega);have hsb:=H4 m;refine J.qp (a0y p N) [1] λ_=>?_;refine J.qd (λ_ h3=>?_) λ_ h3=>?_
 ·refine J.qr [1] λ_=>?_;have:N.off=true:=by simpa using h3
  rw[R.read,if_neg hc,if_pos this];exact⟨rfl,rfl⟩
 have hoff:¬N.off=true:=by simpa using h3
 obtain⟨k,rfl⟩:=Int.eq_ofNat_of_zero_le hd.1;have hlen:=K0 N b r m;have hdat:=R4 hN b r m;have hkn:k<(G.slots m).toNat:=by omega
 refine J.qc (b1m p N hN hR b r m) [1] λ_=>?_;rintro v As ⟨a1,c1,a2,c2,rfl,rfl⟩;refine⟨_,rfl,trivial,?_⟩;refine J.know (λh' s=>i9 (c:=(a1,c1)) (by omega) (s.get (i:=4) rfl)) λhg=>?_;obtain⟨g1,rfl⟩:=hg;refine J.know (λh' s=>i9 (c:=(a2,c2)) (by omega) (s.get (i:=5) rfl)) λhg=>?_;obtain⟨g2,rfl⟩:=hg;have hgd:(R.look N b r m).good[k]? =some ((R.look N b r m).good.getD k false):=by rw[List.getD_eq_getElem?_getD,List.getElem?_eq_getElem (by omega),Option.getD_some]
 have hsd:(R.look N b r m).slots[k]? =some ((R.look N b r m).slots.getD k Sh.zero):=by rw[List.getD_eq_getElem?_getD,List.getElem?_eq_getElem (by omega),Option.getD_some]
 have hr:R.read N b r k m=if(R.look N b r m).good.getD k false then(((R.look N b r m).slots.getD k Sh.zero).en,0)else if R.mendB (R.look N b r m) k then(R.mend (R.look N b r m) k,0)else(En.zero,10):=by
  rw[R.read,if_neg hc,if_neg hoff,Int.toNat_natCast]
 refine J.q λ_=>?_;refine J.v (.bool ((R.look N b r m).good.getD k false)) rfl rfl (λhg a w he hw=>?_) ?_
 ·exact j9 tk rfl rfl he rfl rfl rfl (hw.get (i:=5) rfl) (by rw[show 0+(k:Int).toNat*1=k from by omega];exact U9 hgd)
 refine J.qd (λ_ h4=>?_) λ_ h4=>?_
 ·refine J.q λ_=>?_;refine J.v (shV ((R.look N b r m).slots.getD k Sh.zero)) rfl rfl (λhg a w he hw=>?_) ?_
  ·exact n8 tk rfl rfl he rfl rfl rfl (hw.get (i:=4) rfl) (by rw[show 0+(k:Int).toNat*23=k*23 from by omega];exact U7 hsd) rfl
  refine J.qp (a5k ((R.look N b r m).slots.getD k Sh.zero)) [] λ_=>?_;refine J.qr [1] λ_=>?_;rw[hr,if_pos h4];exact⟨rfl,rfl⟩
 refine J.qp (a6o (R.look N b r m) (G.slots m).toNat (by omega) hlen.1 hlen.2 hdat.1 hdat.2 (some g1) (some g2) c1 c2 k) [4,5] λ_=>?_;refine J.qd (λ_ h5=>?_) λ_ h5=>?_
 ·refine J.qr [1] λ_=>?_;rw[hr,if_neg (by rw[h4];exact Bool.false_ne_true),if_pos h5];exact⟨rfl,rfl⟩
 ·refine J.qr [1] λ_=>?_;rw[hr,if_neg (by rw[h4];exact Bool.false_ne_true),if_neg (by rw[h5];exact Bool.false_ne_true)];exact⟨rfl,rfl⟩
end Go.Proofs.YtpohajhbfllbbaaGreat
