/- Helpers. No condition. -/
import Derived.Test.YtmafiplddapokaaGreatT07
set_option maxRecDepth 20000
set_option linter.all false
namespace Go.Proofs.YtmafiplddapokaaGreat
section
namespace Tb
def cntB (l:List (Int×AtV)) (b:Int):Nat:=l.countP λx=>x.2.block==b
structure Ok (t:Tb):Prop where
 keys:(t.at_.map (·.1)).Nodup
 rng:∀x∈t.at_,0<=x.1/\x.1<t.logical
 cnt:∀b,t.count b=(cntB t.at_ b:Int)
 log:0<=t.logical/\t.logical<=65536
theorem look_none {α:Type} {k:Int}:∀{l:List (Int×α)},look l k=none↔k∉l.map (·.1)
 | []=>by simp[look]
 | x::l=>by
  simp only[look,n8,I3,not_or];split
  ·rename_i h;simp[h]
  ·rename_i h;rw[look_none];simp[h]
theorem look_mem {α:Type} {k:Int} {a:α}:∀{l:List (Int×α)},look l k=some a->(k,a)∈l
 | [],h=>by simp[look]at h
 | x::l,h=>by
  simp only[look]at h;split at h
  ·rename_i e;injection h with h;subst h;subst e;exact H5 ..
  ·exact H1 _ (look_mem h)
theorem put1_new {α:Type} {k:Int} {v:α}:∀{l:List (Int×α)},look l k=none->put1 l k v=l++[(k,v)]
 | [],_=>rfl
 | x::l,h=>by
  simp only[look]at h;split at h
  ·cases h
  ·rename_i e;simp only[put1,d4 e,put1_new h,V6]
theorem put1_keys {α:Type} {k:Int} {v:α}:∀{l:List (Int×α)},(look l k).isSome=true->(put1 l k v).map (·.1)=l.map (·.1)
 | [],h=>by simp[look]at h
 | x::l,h=>by
  simp only[look]at h;simp only[put1];split
  ·rename_i e;simp[e]
  ·rename_i e;rw[d4 e]at h;simp only[n8,put1_keys h]
theorem cntB_put {k:Int} {v:AtV} (b:Int):∀{l:List (Int×AtV)},(l.map (·.1)).Nodup->(cntB (put1 l k v) b:Int)=(cntB l b:Int)-(match look l k with | some a=>if a.block=b then 1 else 0 | none=>0)+(if v.block=b then 1 else 0)
 | [],_=>by simp[put1,look,cntB];split<;>simp_all
 | x::l,h=>by
  simp only[put1,look]
  by_cases e:k=x.1
  ·rw[d7 e,d7 e];simp only[cntB,O7,B4];split<;>split<;>omega
  ·rw[d4 e,d4 e];have:=cntB_put (k:=k) (v:=v) b (l:=l) (by simp only[n8,List.nodup_cons]at h;exact h.2);simp only[cntB,O7]at this ⊢;rw[a2t,a2t,this];omega
theorem count_put1 (c:List (Int×Int)) (k v b:Int):(look (put1 c k v) b).getD 0=if b=k then v else(look c b).getD 0:=by
 rw[look_put1];split<;>rfl
theorem ok_spec {t:Tb} {e:En} (h:t.ok e=true):0<=e.lpn/\e.lpn<t.logical:=by
 simp only[ok,i4,D5,c8]at h;omega
theorem Ok.new (n:Int):(Tb.new n).Ok:=⟨by simp[Tb.new],by simp[Tb.new],λb=>rfl,by simp only[Tb.new];omega⟩
theorem Ok.put {t:Tb} (h:t.Ok) (e:En) (b r s m:Int):(t.put e b r s m).Ok:=by
 unfold Tb.put;split
 ·rename_i hp;simp only[putB,f8]at hp;have ho:=ok_spec hp.1;have hk:(put1 t.at_ e.lpn ⟨b,r,s,m,e.seq,e.role⟩).map (·.1)=t.at_.map (·.1)\/look t.at_ e.lpn=none/\(put1 t.at_ e.lpn ⟨b,r,s,m,e.seq,e.role⟩).map (·.1)=t.at_.map (·.1)++[e.lpn]:=by
   cases hl:look t.at_ e.lpn with
   | none=>right;exact⟨rfl,by rw[put1_new hl];simp⟩
   | some a=>left;exact put1_keys (by rw[hl];rfl)
  refine⟨?_,?_,?_,h.log⟩
  ·rcases hk with hk | ⟨hn,hk⟩
   ·show((put1 _ _ _).map _).Nodup;rw[hk];exact h.keys
   ·show((put1 _ _ _).map _).Nodup;rw[hk,M7];exact⟨h.keys,by simp,λa ha c hc=>by simp at hc;subst hc;exactλe=>look_none.1 hn (e▸ha)⟩
  ·intro x hx;have hx:x.1∈(put1 t.at_ e.lpn ⟨b,r,s,m,e.seq,e.role⟩).map (·.1):=L9 hx;have hr:∀k∈t.at_.map (·.1),0<=k/\k<t.logical:=λk hk=>by
    obtain⟨y,hy,rfl⟩:=List.mem_map.1 hk;exact h.rng y hy
   rcases hk with hk | ⟨_,hk⟩
   ·rw[hk]at hx;exact hr _ hx
   ·rw[hk,M4]at hx;rcases hx with hx | hx
    ·exact hr _ hx
    ·simp at hx;rw[hx];exact ho
  ·intro c;show(look (cnt2 t e b) c).getD 0=(cntB (put1 t.at_ e.lpn ⟨b,r,s,m,e.seq,e.role⟩) c:Int);rw[cntB_put c h.keys];have h1:∀d,(look (cnt1 t e) d).getD 0=(cntB t.at_ d:Int)-(match look t.at_ e.lpn with | some a=>if a.block=d then 1 else 0 | none=>0):=by
    intro d;have hd:(look t.cnt d).getD 0=(cntB t.at_ d:Int):=h.cnt d;unfold cnt1;cases hl:look t.at_ e.lpn with
    | none=>dsimp only;rw[hd];omega
    | some a=>
     dsimp only;rw[count_put1];split
     ·rename_i e1;subst e1;rw[d7 rfl,h.cnt]
     ·rename_i e1;rw[d4 (λe=>e1 e.symm),hd];omega
   unfold cnt2;rw[count_put1,h1 b,h1 c];dsimp only
   by_cases e1:c=b
   ·subst e1;rw[d7 rfl,d7 rfl]
   ·rw[d4 e1,d4 (λe=>e1 e.symm)];omega
 ·exact h
theorem countP_one {p q:Nat->Bool} {i0:Nat} (h1:∀i,i≠i0->p i=q i) (h2:q i0=false):∀n,(List.range n).countP p=(List.range n).countP q+(if i0<n/\p i0=true then 1 else 0)
 | 0=>by simp
 | n+1=>by
  rw[t6,a2L,a2L,countP_one h1 h2 n];simp only[List.countP_singleton]
  by_cases e:n=i0
  ·subst e;rw[h2];cases p n<;>simp
  ·rw[h1 n e]
   by_cases e2:i0<n
   ·simp[e2,show i0<n+1 by omega];omega
   ·simp[e2,show¬i0<n+1 by omega]
theorem at_cnt {α:Type} (n:Nat):∀l:List (Int×α),(l.map (·.1)).Nodup->(∀x∈l,0<=x.1/\x.1<(n:Int))->l.length=(List.range n).countP λi:Nat=>(look l (i:Int)).isSome
 | [],_,_=>by simp[look]
 | x::l,h1,h2=>by
  simp only[n8,List.nodup_cons]at h1;have ih:=at_cnt n l h1.2 (λy hy=>h2 y (H1 _ hy));have hx:=h2 x (H5 ..);have hn:look l x.1=none:=look_none.2 h1.1;rw[countP_one (q:=λi:Nat=>(look l (i:Int)).isSome) (i0:=x.1.toNat)]
  ·rw[<- ih];have:((x.1.toNat:Nat):Int)=x.1:=by omega
   simp only[this,look,a0d,a2J,and_true,l6];rw[d7 (by omega)]
  ·intro i hi;simp only[look];rw[d4 (by omega)]
  ·have:((x.1.toNat:Nat):Int)=x.1:=by omega
   simp only[this,hn];rfl
theorem len_le {α:Type} (n:Nat) (l:List (Int×α)) (h1:(l.map (·.1)).Nodup) (h2:∀x∈l,0<=x.1/\x.1<(n:Int)):l.length<=n:=by
 rw[at_cnt n l h1 h2];have:=List.countP_le_length (p:=λi:Nat=>(look l (i:Int)).isSome) (l:=List.range n)
 rwa [K7]at this
theorem Ok.len {t:Tb} (h:t.Ok):t.at_.length<=65536:=by
 have:=len_le t.logical.toNat t.at_ h.keys (λx hx=>by have:=h.rng x hx;omega);have:=h.log;omega
theorem Ok.bd {t:Tb} (h:t.Ok) (k:Int):0<=t.count k/\t.count k<=1000000:=by
 rw[h.cnt];have:cntB t.at_ k<=t.at_.length:=List.countP_le_length;have:=h.len;omega
theorem range_cnt (b:Int) (n:Nat):∀l:List (Int×AtV),(l.map (·.1)).Nodup->(∀x∈l,0<=x.1/\x.1<(n:Int))->(List.range n).countP (λi:Nat=>match look l (i:Int)with | some a=>a.block==b | none=>false)=cntB l b
 | [],_,_=>by simp[look,cntB]
 | x::l,h1,h2=>by
  simp only[n8,List.nodup_cons]at h1;have ih:=range_cnt b n l h1.2 (λy hy=>h2 y (H1 _ hy));have hx:=h2 x (H5 ..);have hn:look l x.1=none:=look_none.2 h1.1;rw[countP_one (q:=λi:Nat=>match look l (i:Int)with | some a=>a.block==b | none=>false) (i0:=x.1.toNat)]
  ·rw[ih,cntB,cntB,O7];have:((x.1.toNat:Nat):Int)=x.1:=by omega
   simp only[this,look,a0d];have hlt:x.1.toNat<n:=by omega
   simp only[hlt,true_and]
  ·intro i hi;simp only[look];rw[d4 (by omega)]
  ·have:((x.1.toNat:Nat):Int)=x.1:=by omega
   simp only[this,hn]
theorem Ok.inK_len {t:Tb} (h:t.Ok) (b:Int):((inK t b t.logical.toNat).length:Int)=t.count b:=by
 rw[h.cnt,inK,j5,<- List.countP_eq_length_filter,<- range_cnt b t.logical.toNat t.at_ h.keys (λx hx=>by have:=h.rng x hx;omega)];rfl
theorem Ok.ins {t:Tb} (h:t.Ok) (b:Int):t.ins b=inK t b t.logical.toNat:=by
 unfold Tb.ins;split
 ·rename_i h0;have:=h.inK_len b;rw[h0]at this;have:(inK t b t.logical.toNat).length=0:=by omega
  exact(m7 this).symm
 ·rfl
theorem Ok.ins_len {t:Tb} (h:t.Ok) (b:Int):((t.ins b).length:Int)=t.count b:=by rw[h.ins,h.inK_len]
theorem put_logical (t:Tb) (e:En) (b r s m:Int):(t.put e b r s m).logical=t.logical:=by unfold Tb.put;split<;>rfl
end Tb
end
section
open Go Go.RowKit
def mk0 (N:Nand) (b r:Int) (k:Nat):List Int:=((M.rowN N b r N.dies).take k).filterMap M.maskOf
theorem b4l (N:Nand) (b r:Int) (n k:Nat) (h:k<n):(M.rowN N b r n)[k]? =some (M.look N (k:Nat) b r):=by simp[M.rowN,h]
theorem b2m (N:Nand) (b r:Int) (k:Nat) (h:k<N.dies):mk0 N b r (k+1)=mk0 N b r k++(M.maskOf (M.look N (k:Nat) b r)).toList:=by
 unfold mk0;rw[D2,b4l N b r _ k h,V1];congr 1
theorem c0k (N:Nand) (b r:Int) (k:Nat):(mk0 N b r k).length<=k:=by
 refine E9 (List.length_filterMap_le _ _) ?_;rw[l5];omega
theorem a8T {l:List Int} {k:Nat} {x:Int} (h:l[k]? =some x):(B2 l)[k]? =some (iI x):=by simp[B2,h]
theorem a3D {l:List Sh} {k:Nat} {x:Sh} (h:l[k]? =some x):((J0 l).drop (k*23)).take 23=shL x:=by
 have:=a4F l [] k x h;rwa [l8]at this
theorem b4D (p:Nat) (N:Nand) (hN:N.Ok) (hR:N.Room) (b r:Int):FP 161 [pp p,iI b,iI r] [C3 p N]
  (λv As=>∃a c,v=slv a (M.masks N b r).length c/\As=[C3 p N,l9 3 1 a (M.masks N b r).length c (B2 (M.masks N b r))]):=by
 have hbd:=hN.bd;refine FE [2,0,0] Tryz.func161 λX F hX=>?_;refine J.qc (c1k p N hN hR b r) [1] λ_=>?_;rintro v As ⟨a1,c1,a2,c2,rfl,rfl⟩;refine⟨_,rfl,trivial,?_⟩;refine J.turn1 [] rfl (As:=[l9 3 1 none 0 0 (B2 (mk0 N b r 0))]) (λh s=>Sep.one ⟨rfl,rfl,rfl⟩) rfl ?_;refine J.q λ_=>?_;refine J.l (α:=(Nat×Option Nat×Nat)) (λz=>z.1<=N.dies) (λz=>[si 21 z.1,si 20 N.dies,sv 19 (slv a1 N.dies c1),sv 9 (slv a2 N.dies c2),sv 7 (slv z.2.1 (mk0 N b r z.1).length z.2.2)]) [4] (λz=>[l9 3 1 z.2.1 (mk0 N b r z.1).length z.2.2 (B2 (mk0 N b r z.1))]) (λz=>N.dies-z.1) ((0,none,0)) (j8 _) λz hI=>?_;obtain⟨k,a3,c3⟩:=z;dsimp only at hI ⊢;have hml:=c0k N b r k;refine J.qd (λ_ h1=>?_) λ_ h1=>?_
 ·simp only[d6,i6]at h1;refine J.know (λh' s=>D7 (c:=(a1,c1)) (by omega) (s.get (i:=2) rfl)) λhg=>?_;obtain⟨g1,rfl⟩:=hg;refine J.know (λh' s=>D7 (c:=(a2,c2)) (by omega) (s.get (i:=3) rfl)) λhg=>?_;obtain⟨g2,rfl⟩:=hg;have hat:=b4l N b r _ k h1;refine J.q λ_=>?_;refine J.v (shV (M.look N (k:Nat) b r).1) rfl rfl (λhg a w he hs=>?_) ?_
  ·exact M3 tk rfl rfl he rfl rfl rfl (hs.get (i:=2) rfl) (by rw[show 0+(k:Int).toNat*23=k*23 from by omega];exact a3D (by rw[i5,hat];rfl)) rfl
  refine J.q λ_=>?_;refine J.v (iI (M.look N (k:Nat) b r).2) rfl rfl (λhg a w he hs=>?_) ?_
  ·exact I4 tk rfl rfl he rfl rfl rfl (hs.get (i:=3) rfl) (by rw[show 0+(k:Int).toNat*1=k from by omega];exact a8T (by rw[i5,hat];rfl))
  refine J.qd (λ_ h2=>?_) λ_ h2=>?_
  ·simp only[B4]at h2;have hs:mk0 N b r (k+1)=mk0 N b r k++[(M.look N (k:Nat) b r).1.mask]:=by rw[b2m N b r k h1,M.maskOf,d7 h2];rfl
   have hl:(mk0 N b r k).length+1=(mk0 N b r (k+1)).length:=by rw[hs];simp
   refine J.q λ_=>?_;refine J.ap 4 6 0 ((a1z _ _).symm.trans (congrArg B2 hs.symm)) λa4 c4=>?_;rw[hl];refine J.q λ_=>?_;refine J.n ((k+1,a4,c4)) (by dsimp only;omega) (by dsimp only;omega) [0,1,2,3,4]
  ·simp only[m6,I1]at h2;have hs:mk0 N b r k=mk0 N b r (k+1):=by rw[b2m N b r k h1,M.maskOf,d4 h2];simp
   rw[hs];refine J.q λ_=>?_;refine J.n ((k+1,a3,c3)) (by dsimp only;omega) (by dsimp only;omega) [0,1,2,3,4]
 ·simp only[c8,i6]at h1;obtain rfl:k=N.dies:=by omega
  have hall:mk0 N b r N.dies=(M.rowN N b r N.dies).filterMap M.maskOf:=by
   unfold mk0;rw[x9 (by simp[M.rowN])]
  refine J.qp (a7X a3 (mk0 N b r N.dies).length c3 (mk0 N b r N.dies) rfl (by omega)) [4] λ_=>?_;refine J.q λ_=>?_;refine J.ca hX (by kernel_rfl) (a9y a3 (mk0 N b r N.dies).length c3 (a0t (mk0 N b r N.dies)) (a1n _) (by omega)) [4] 0 rfl rfl rfl rfl rfl rfl (λ_=>rfl) ?_;rintro v As ⟨l',hl',rfl,rfl⟩;refine⟨_,rfl,trivial,?_⟩;have he:l'=M.masks N b r:=by rw[hl',hall];rfl
  subst he;refine J.qr [1,4] λ_=>?_;exact⟨a3,c3,rfl,rfl⟩
end
section
structure Nand.Gd (N:Nand) (k m:Nat):Prop where
 ok:N.Ok
 ops:N.ops+k<4611686018427387904
 broken:N.broken+k<4611686018427387904
 nodup:N.plan.Nodup
 few:N.plan.length<=m
namespace Nand
variable {N : Nand} {k m : Nat}
theorem Gd.room (h:N.Gd k m):N.Room:=⟨by have:=h.ops;omega,by have:=h.broken;omega⟩
theorem Gd.less (h:N.Gd k m) {k' m':Nat} (hk:k'<=k) (hm:m<=m'):N.Gd k' m':=⟨h.ok,by have:=h.ops;omega,by have:=h.broken;omega,h.nodup,by have:=h.few;omega⟩
theorem Ok.setBlk (h:N.Ok) (i j:Nat) (B:NBlock) (h1:B.cells.length<=N.pages) (h2:∀c∈B.cells,c.p.length=32) (h3:0<=B.worn/\B.worn<=N.ops):(N.setBlk i j B).Ok:=by
 refine⟨h.geo,h.dead,λa b ha hb=>?_,⟨h.num.1,h.num.2.1,λa b=>?_⟩,h.lft,h.lf2,h.kp⟩
 ·show(if a=i/\b=j then B else N.blk a b).cells.length<=N.pages/\∀c∈(if a=i/\b=j then B else N.blk a b).cells,c.p.length=32;split
  ·exact⟨h1,h2⟩
  ·exact h.cells a b ha hb
 ·show 0<=(if a=i/\b=j then B else N.blk a b).worn/\(if a=i/\b=j then B else N.blk a b).worn<=N.ops;split
  ·exact h3
  ·exact h.num.2.2 a b
theorem Ok.cutN (h:N.Ok):N.cutN.Ok:=by
 have h1:=h.num;have h2:=h.lft;have h3:=h.lf2;refine⟨h.geo,h.dead,h.cells,⟨by show 0<=N.ops+1;omega,h1.2.1,λa b=>⟨(h1.2.2 a b).1,by show _<=N.ops+1;have:=(h1.2.2 a b).2;exact Int.le_trans this (by omega)⟩⟩,λhc=>?_,?_,h.kp⟩
 ·have hc:(if N.cutB then false else N.cuts)=true:=hc;show 0<=(if N.cuts then N.left-1 else N.left)/\(if N.cuts then N.left-1 else N.left)<=9223372036854775807;split at hc
  ·cases hc
  ·rename_i hb;simp[cutB,hc]at hb;have:=h2 hc;rw[d7 hc];omega
 ·show-9223372036854775808<=(if N.cuts then N.left-1 else N.left)/\(if N.cuts then N.left-1 else N.left)<=9223372036854775807;split
  ·rename_i hc;have:=h2 hc;omega
  ·exact h3
theorem Ok.push (h:N.Ok) (i j:Nat) (c:NCell) (h1:(N.blk i j).cells.length<N.pages) (h2:c.p.length=32) (hi:i<N.dies) (hj:j<N.blocks):(N.push i j c).Ok:=by
 refine h.setBlk i j _ ?_ ?_ (h.num.2.2 i j)
 ·simp;omega
 ·intro x hx;simp only[M4,J3]at hx;rcases hx with hx | hx
  ·exact(h.cells i j hi hj).2 x hx
  ·rw[hx];exact h2
theorem Ok.plan (h:N.Ok) (l:List A3'):Ok {N with plan:=l}:=⟨h.geo,h.dead,h.cells,h.num,h.lft,h.lf2,h.kp⟩
theorem fillP_len (k:Nat) (p:List UInt8) (h:p.length=32) (hk:k<=32):(fillP k p).length=32:=by simp[fillP,h];omega
theorem Ok.prog (h:N.Ok) (x y z:Int) (pg:List UInt8) (hp:pg.length=32):(N.progN x y z pg).Ok:=by
 unfold progN;split
 ·exact h
 ·rename_i h0;simp only[I1,a1r]at h0;obtain⟨_,_,hr⟩:=refuses_zero h0;split
  ·exact⟨h.geo,h.dead,h.cells,⟨h.num.1,by show 0<=N.broken+1;have:=h.num.2.1;omega,h.num.2.2⟩,h.lft,h.lf2,h.kp⟩
  ·rename_i h1;simp only[I1,a1r]at h1;have hlt:(N.blk x.toNat y.toNat).cells.length<N.pages:=by omega
   have hi:x.toNat<N.dies:=by omega
   have hj:y.toNat<N.blocks:=by omega
   split
   ·exact h.cutN.push _ _ _ hlt (fillP_len _ _ hp (by have:=h.kp;omega)) hi hj
   ·exact(h.cutN.plan _).push _ _ _ hlt hp hi hj
theorem Gd.prog (h:N.Gd (k+1) m) (x y z:Int) (pg:List UInt8) (hp:pg.length=32):(N.progN x y z pg).Gd k m:=by
 have h1:=h.ops;have h2:=h.broken;refine⟨h.ok.prog x y z pg hp,?_,?_,?_,?_⟩
 ·unfold progN;split
  ·omega
  ·split
   ·show N.ops+_<_;omega
   ·split<;>(show N.ops+1+(k:Int)<_;omega)
 ·unfold progN;split
  ·omega
  ·split
   ·show N.broken+1+(k:Int)<_;omega
   ·split<;>(show N.broken+(k:Int)<_;omega)
 ·unfold progN;split
  ·exact h.nodup
  ·split
   ·exact h.nodup
   ·split
    ·exact h.nodup
    ·exact h.nodup.erase _
 ·have h3:=h.few;unfold progN;split
  ·exact h3
  ·split
   ·exact h3
   ·split
    ·exact h3
    ·show(N.plan.erase _).length<=m;rw[List.length_erase];split<;>omega
theorem Ok.erase (h:N.Ok) (x y:Int):(N.eraseN x y).Ok:=by
 unfold eraseN;dsimp only;split
 ·exact h
 ·rename_i h0;simp only[I1,a1r]at h0;obtain⟨_,_,hr⟩:=refuses_zero h0;have hi:x.toNat<N.dies:=by omega
  have hj:y.toNat<N.blocks:=by omega
  have hc:=h.cells _ _ hi hj;split
  ·refine h.cutN.setBlk _ _ _ ?_ ?_ (h.cutN.num.2.2 _ _)
   ·show _<=N.pages;simp;omega
   ·intro c hcm;simp only[Q5,M4,List.mem_replicate]at hcm;obtain⟨a,ha,rfl⟩:=hcm;rcases ha with ha | ha
    ·exact hc.2 a ha
    ·rw[ha.2];rfl
  ·split
   ·exact h.cutN.setBlk _ _ _ hc.1 hc.2 (h.cutN.num.2.2 _ _)
   ·refine(h.cutN.setBlk _ _ _ (by simp) (by simp) ?_).plan _;show 0<=(N.blk x.toNat y.toNat).worn+1/\(N.blk x.toNat y.toNat).worn+1<=N.ops+1;have:=h.num.2.2 x.toNat y.toNat
    omega
theorem Gd.erase (h:N.Gd (k+1) m) (x y:Int):(N.eraseN x y).Gd k m:=by
 have h1:=h.ops;have h2:=h.broken;refine⟨h.ok.erase x y,?_,?_,?_,?_⟩
 ·unfold eraseN;dsimp only;split
  ·omega
  ·(repeat' split)<;>(show N.ops+1+(k:Int)<_;omega)
 ·unfold eraseN;dsimp only;split
  ·omega
  ·(repeat' split)<;>(show N.broken+(k:Int)<_;omega)
 ·unfold eraseN;dsimp only
  (repeat' split)<;>first | exact h.nodup | exact h.nodup.filter _
 ·have h3:=h.few;unfold eraseN;dsimp only
  (repeat' split)<;>first | exact h3 | exact E9 (J8 _ _) h3
theorem xorAt_len (p:List UInt8) (n:Nat) (x:UInt8):(xorAt p n x).length=p.length:=by simp[xorAt]
theorem Ok.setCell (h:N.Ok) (x y z:Int) (f:NCell->NCell) (hf:∀c,(f c).p.length=c.p.length) (hi:x.toNat<N.dies) (hj:y.toNat<N.blocks):(N.setCell x y z f).Ok:=by
 have hc:=h.cells _ _ hi hj;refine h.setBlk _ _ _ (by simpa using hc.1) ?_ (h.num.2.2 _ _);intro c hm;obtain⟨i,hi',rfl⟩:=List.mem_iff_getElem.1 hm;simp only[O3]at hi';rw[List.getElem_modify];split
 ·rw[hf];exact hc.2 _ (I2 _)
 ·exact hc.2 _ (I2 _)
theorem Ok.fault (h:N.Ok) (kind x y z n xx:Int):(N.fault kind x y z n xx).2.Ok:=by
 unfold Nand.fault;split
 ·exact h
 ·rename_i h0;have hr:0<=x/\x<N.dies/\0<=y/\y<N.blocks:=by simp[X4]at h0;omega
  have hi:x.toNat<N.dies:=by omega
  have hj:y.toNat<N.blocks:=by omega
  have hc:=h.cells _ _ hi hj;split
  ·exact h.plan _
  ·split
   ·exact h.setBlk _ _ _ hc.1 hc.2 (h.num.2.2 _ _)
   ·split
    ·exact h.setCell _ _ _ _ (λ_=>rfl) hi hj
    ·split
     ·exact⟨h.geo,by show(N.dead.set _ _).length=_;rw[A5];exact h.dead,h.cells,h.num,h.lft,h.lf2,h.kp⟩
     ·split
      ·split
       ·exact h
       ·split
        ·exact h
        ·split
         ·exact h
         ·split
          ·exact h
          ·exact h.setCell _ _ _ _ (λc=>xorAt_len _ _ _) hi hj
      ·exact h
theorem Gd.fault (h:N.Gd k m) (kind x y z n xx:Int):(N.fault kind x y z n xx).2.Gd k (m+1):=by
 refine⟨h.ok.fault ..,?_,?_,?_,?_⟩
 ·unfold Nand.fault
  (repeat' split)<;>exact h.ops
 ·unfold Nand.fault
  (repeat' split)<;>exact h.broken
 ·unfold Nand.fault;have h1:∀a,(addP N.plan a).Nodup:=λa=>by
   unfold addP;split
   ·exact h.nodup
   ·rename_i hn;rw[M7];exact⟨h.nodup,by simp,λb hb c hc=>by simp at hc;subst hc;rintro rfl;exact hn hb⟩
  (repeat' split)<;>first | exact h.nodup | exact h1 _
 ·unfold Nand.fault;have h3:=h.few;have h1:∀a,(addP N.plan a).length<=m+1:=λa=>by
   unfold addP;split
   ·omega
   ·simp;omega
  (repeat' split)<;>first | exact h1 _ | exact Nat.le_succ_of_le h3
theorem Gd.fault0 (h:N.Gd k m) (kind x y z n xx:Int) (hk:kind≠1):(N.fault kind x y z n xx).2.Gd k m:=by
 have h1:=h.fault kind x y z n xx;refine⟨h1.ok,h1.ops,h1.broken,h1.nodup,?_⟩;unfold Nand.fault;rw[d4 hk]
 (repeat' split)<;>exact h.few
theorem Gd.cut (h:N.Gd k m) (x kk:Int) (h1: -9223372036854775808<=x) (h2:x<=9223372036854775807):(N.setCut x kk).Gd k m:=by
 unfold setCut;split
 ·exact h
 ·exact⟨⟨h.ok.geo,h.ok.dead,h.ok.cells,h.ok.num,λhc=>by simp at hc;exact⟨hc,h2⟩,⟨h1,h2⟩,by show 0<=min (max kk 0) 32/\min (max kk 0) 32<=32;omega⟩,h.ops,h.broken,h.nodup,h.few⟩
theorem Gd.on (h:N.Gd k m):N.onN.Gd k m:=⟨⟨h.ok.geo,h.ok.dead,h.ok.cells,h.ok.num,λhc=>(by cases hc),h.ok.lf2,h.ok.kp⟩,h.ops,h.broken,h.nodup,h.few⟩
theorem Gd.new (d b p:Nat) (h:L4 d b p=true) (k:Nat) (hk:k<=1000000):(Nand.new d b p).Gd k 0:=
 ⟨⟨h,by simp[Nand.new],λi j _ _=>by simp[Nand.new],⟨by simp[Nand.new],by simp[Nand.new],λi j=>by simp[Nand.new]⟩,λhc=>(by cases hc),by simp[Nand.new],by simp[Nand.new]⟩,by simp[Nand.new];omega,by simp[Nand.new];omega,by simp[Nand.new],by simp[Nand.new]⟩
structure Like (N N':Nand):Prop where
 dies:N'.dies=N.dies
 blocks:N'.blocks=N.blocks
 pages:N'.pages=N.pages
theorem Like.refl (N:Nand):Like N N:=⟨rfl,rfl,rfl⟩
theorem Like.trans {A B C:Nand} (h:Like A B) (h':Like B C):Like A C:=⟨h'.dies.trans h.dies,h'.blocks.trans h.blocks,h'.pages.trans h.pages⟩
theorem like_prog (N:Nand) (x y z:Int) (pg:List UInt8):Like N (N.progN x y z pg):=by
 unfold progN;(repeat' split)<;>exact⟨rfl,rfl,rfl⟩
theorem like_erase (N:Nand) (x y:Int):Like N (N.eraseN x y):=by
 unfold eraseN;dsimp only;(repeat' split)<;>exact⟨rfl,rfl,rfl⟩
theorem like_fault (N:Nand) (kind x y z n xx:Int):Like N (N.fault kind x y z n xx).2:=by
 unfold fault;(repeat' split)<;>exact⟨rfl,rfl,rfl⟩
theorem like_cut (N:Nand) (x kk:Int):Like N (N.setCut x kk):=by
 unfold setCut;(repeat' split)<;>exact⟨rfl,rfl,rfl⟩
end Nand
end
section
open Go Go.RowKit
theorem a4z (b r m:Int) (l:List En):(R.job b r m l).length=l.length+1:=by simp[R.job]
theorem a3u (b r m:Int) (l:List En) (k:Nat) (h:k<l.length):(R.job b r m l)[k]? =some (G.die m b r (k:Nat),W.sh b r m (l.getD k En.zero)):=by
 rw[R.job,E6 (by simpa using h)];simp[h]
theorem Z7 (b r m:Int) (l:List En):(R.job b r m l)[l.length]? =some (G.parity m b r,W.parS b r m l):=by
 rw[R.job,B1 (by simp)];simp
theorem b8i {b r m:Int} {l:List En} {k:Nat} {x:Int×Sh} (h:(R.job b r m l)[k]? =some x):(R.job b r m l).drop k=x::(R.job b r m l).drop (k+1):=by
 obtain⟨h1,h2⟩:=List.getElem?_eq_some_iff.1 h;rw[y8 h1,h2]
theorem a7s (p:Nat) (N:Nand) (A:Atom) (b r m:Int) (a:Option Addr) (n cap mm:Nat) (l:List En) (hA:Rd A a 19 n (n9 l)) (hl:l.length=n) (hd:∀s∈l,s.data.length=16) (hG:N.Gd 8 mm):
  FP 149 [pp p,iI b,iI r,iI m, .slice a n cap] [C3 p N,A]
  (λv As=>v= .tuple #[iI (R.write N b r m l).2.1,iI (R.write N b r m l).2.2]/\As=[C3 p (R.write N b r m l).1,A]):=by
 have hsb:=a0Q m;refine FE [2,0,0,0,0] Tryz.func149 λX F hX=>?_;refine J.qp (b1J b r m A a n cap l hA hl hd) [2] λ_=>?_;refine J.q λbb=>?_;refine J.cond rfl (λh0=>?_) (λh0=>?_)
 ·simp only[i4]at h0;refine J.qr [1,2] λ_=>?_;simp only[R.write,h0];exact⟨rfl,rfl⟩
 simp only[B5]at h0;have hw:R.write N b r m l=R.go b r (R.job b r m l) N 0:=by rw[R.write,d7 h0]
 have hB:=h0;simp only[W.parB,f8,d6,E8]at hB;have hn:n<=7:=by have:=hB.1.1;omega
 refine J.q λb5=>?_;refine J.l (α:=(Nat×Nand×Int)) (λz=>z.1<=n+1/\z.2.1.Gd (n+1-z.1) mm/\R.go b r ((R.job b r m l).drop z.1) z.2.1 z.2.2=R.write N b r m l) (λz=>[si 33 z.1,⟨32,iI ((n:Int)+1),0, .tt⟩,si 14 z.2.2,⟨12,pp (bb 0),4, .tt⟩,⟨0,pp p,2, .tt⟩,si 1 b,si 2 r,si 3 m,sv 4 (.slice a n cap)]) [1] (λz=>[C3 p z.2.1]) (λz=>n+1-z.1) ((0,N,0)) (⟨j8 _,hG.less (by dsimp only;omega) (j3 _),hw.symm⟩) λz hI=>?_;obtain⟨k,Nk,f⟩:=z;dsimp only at hI ⊢;obtain⟨hI1,hI2,hI3⟩:=hI;refine J.qd (λ_ h1=>?_) λ_ h1=>?_
 ·simp only[d6]at h1;have h1:k<n+1:=by omega
  refine J.p (.take true 0 (.take true 1 (.take true 2 (.take false 4 (.alt false 3 ((.of [22,24,31])) (.alt false 5 ((.of [14,24,31])) .non)))))) [7] [3] λ_=>?_;refine J.join (α:=Nat) (λx=>[si 16 (G.parity m b r),⟨17,pp x,5, .tt⟩,si 15 k,si 33 k,⟨32,iI ((n:Int)+1),0, .tt⟩,si 14 f,⟨12,pp (bb 0),4, .tt⟩,⟨0,pp p,2, .tt⟩,si 1 b,si 2 r,si 3 m,sv 4 (.slice a n cap)]) (λx=>[.hp F,C3 p Nk,A, .pt (bb 0) 212 (shL (W.par b r m l)), .pt x 212 (shL (W.par b r m l))]) (λhj=>?_) (λx=>?_)
  ·skip
   refine J.qn 4 λ_=>?_;refine J.alts ?_ ?_
   ·skip
    refine J.qp (a1x m b r) [] λ_=>?_;refine J.qn 1 λb5=>?_;refine J.qn 3 λ_=>?_;exact J.goto [0,1,2,3,4] (hj (b5 0)) ⟨rfl,rfl,rfl,rfl,rfl,rfl,rfl,rfl,rfl,rfl,rfl,rfl,trivial⟩ rfl rfl
   ·skip
    refine J.qn 1 λb5=>?_;refine J.qp (a1x m b r) [] λ_=>?_;refine J.qn 3 λ_=>?_;exact J.goto [0,1,2,3,4] (hj (b5 0)) ⟨rfl,rfl,rfl,rfl,rfl,rfl,rfl,rfl,rfl,rfl,rfl,rfl,trivial⟩ rfl rfl
  obtain⟨⟨d,s⟩,hjob⟩:∃x,(R.job b r m l)[k]? =some x:=⟨_,c9 (by rw[a4z];omega)⟩;have hsl:s.data.length=16:=by
   by_cases hk:k<l.length
   ·rw[a3u b r m l k hk]at hjob;injection hjob with hjob;injection hjob with _ hjob;rw[<- hjob];refine hd _ ?_;rw[d5,c9 hk];exact I2 _
   ·rw[show k=l.length by omega,Z7]at hjob;injection hjob with hjob;injection hjob with _ hjob;rw[<- hjob];exact a3b (λt ht=>by obtain⟨e,he,rfl⟩:=List.mem_map.1 ht;exact hd e he) _ rfl
  refine J.q λ_=>?_;refine J.join (α:=Unit) (λ_=>[si 16 d,⟨17,pp x,5, .tt⟩,si 33 k,⟨32,iI ((n:Int)+1),0, .tt⟩,si 14 f,⟨12,pp (bb 0),4, .tt⟩,⟨0,pp p,2, .tt⟩,si 1 b,si 2 r,si 3 m,sv 4 (.slice a n cap)]) (λ_=>[.hp F,C3 p Nk,A, .pt (bb 0) 212 (shL (W.par b r m l)), .pt x 212 (shL s)]) (λhj=>?_) (λ_=>?_)
  ·refine J.qd (λ_ h2=>?_) λ_ h2=>?_
   ·simp only[d6,i6]at h2;have hkl:k<l.length:=by omega
    rw[a3u b r m l k hkl]at hjob;simp only[l7,C7]at hjob;obtain⟨hd1,hs1⟩:=hjob;have hget:l[k]? =some (l.getD k En.zero):=by rw[d5,c9 hkl,j4]
    have hel:(l.getD k En.zero).data.length=16:=hd _ (j9 hget);have hok:W.ok b r m (l.getD k En.zero)=true:=hB.2 _ (j9 hget);refine J.qp (b4L m b r k (by omega) (by omega)) [] λ_=>?_;refine J.know (p:=∃g o,a=some ⟨g,o,none⟩) (λh' s=>Rd.addr (hA _ (s.get (i:=2) rfl)) (by omega)) λhk=>?_;obtain⟨g,o,rfl⟩:=hk;refine J.q λ_=>?_;refine J.v (enV (l.getD k En.zero)) rfl rfl (λhg a w he hw=>?_) ?_
    ·exact a2x tk rfl rfl he rfl rfl rfl (hA _ (hw.get (i:=2) rfl)) (by omega) (j:=k*19) (by omega) (by have:=a0s l [] k _ hget;rwa [l8]at this) rfl
    refine J.qp (b1K b r m (l.getD k En.zero) hel) [] λ_=>?_;rw[show W.own b r m (l.getD k En.zero)=s from by rw[W.own,d7 hok,hs1],hd1];refine J.qn 5 λ_=>?_;exact J.goto [0,1,2,3,4] (hj ()) ⟨rfl,rfl,rfl,rfl,rfl,rfl,rfl,rfl,rfl,rfl,rfl,trivial⟩ rfl rfl
   ·simp only[c8,i6]at h2;have hkl:k=l.length:=by omega
    rw[hkl,Z7]at hjob;simp only[l7,C7]at hjob;obtain⟨hd1,hs1⟩:=hjob;rw[hd1,show W.par b r m l=s from by rw[W.par,d7 h0,hs1]]at*;refine J.qn 1 λ_=>?_;exact J.goto [0,1,2,3,4] (hj ()) ⟨rfl,rfl,rfl,rfl,rfl,rfl,rfl,rfl,rfl,rfl,rfl,trivial⟩ rfl rfl
  have hj2:=b8i hjob;rw[hj2]at hI3;rw[R.go]at hI3;have hG0:Nk.Gd (n-k+1) mm:=hI2.less (by omega) (j3 _);have hG1:(Nk.progN d b r (P7 s)).Gd (n+1-(k+1)) mm:=(hG0.prog d b r _ (a3Z s hsl)).less (by omega) (j3 _);refine J.qp (b8z s hsl) [] λ_=>?_;refine J.qp (a4w p Nk hI2.ok hI2.room d b r (P7 s) (a3Z s hsl)) [1] λ_=>?_;refine J.qd (λ_ h3=>?_) λ_ h3=>?_
  ·simp only[B4]at h3;rw[d7 h3]at hI3;refine J.q λ_=>?_;refine J.n ((k+1,Nk.progN d b r (P7 s),f)) (⟨by dsimp only;omega,hG1,hI3⟩) (by dsimp only;omega) [0,1,2,3]
  ·simp only[m6,I1]at h3;rw[d4 h3]at hI3;refine J.qd (λ_ h4=>?_) λ_ h4=>?_
   ·simp only[B4]at h4;rw[d7 h4]at hI3;refine J.qr [1,2] λ_=>?_;rw[<- hI3];exact⟨rfl,rfl⟩
   ·simp only[m6,I1]at h4;rw[d4 h4]at hI3;refine J.qp (b1e f d) [] λ_=>?_;refine J.q λ_=>?_;refine J.n ((k+1,Nk.progN d b r (P7 s),L.with_ f d)) (⟨by dsimp only;omega,hG1,hI3⟩) (by dsimp only;omega) [0,1,2,3]
 ·simp only[c8]at h1;have:k=n+1:=by omega
  subst this;rw[H0 (by rw[a4z];omega),R.go]at hI3;refine J.qd (λ_ h5=>?_) λ_ h5=>?_
  ·simp only[G9,I1]at h5;rw[d4 h5]at hI3;refine J.qr [1,2] λ_=>?_;rw[<- hI3];exact⟨rfl,rfl⟩
  ·simp only[A8]at h5;rw[d7 h5]at hI3;refine J.qr [1,2] λ_=>?_;rw[<- hI3,h5];exact⟨rfl,rfl⟩
def W.backC (p:Sh) (l:List Sh):Bool:=p.kind==2&&S.may p&& !l.any (alien p)&&decide ((l.length:Int)=G.slots p.mask-1)
def b8r (p:Sh->Bool) (l:List Sh):Int:=match l.findIdx? p with
 | some k=>k
 | none=> -1
theorem b5V {p:Sh->Bool} {l:List Sh} {k:Nat} {x:Sh} (h:l[k]? =some x) (h0:∀i<k,p (l.getD i Sh.zero)=false) (hp:p x=true):l.findIdx? p=some k:=by
 rw[o0];obtain⟨h1,h2⟩:=List.getElem?_eq_some_iff.1 h;refine⟨h1,by rw[h2];exact hp,λj hj=>?_⟩;have:=h0 j hj;rw[d5,c9 (by omega),j4]at this;simp[this]
theorem b5W {p:Sh->Bool} {l:List Sh} (h0:∀i<l.length,p (l.getD i Sh.zero)=false):l.findIdx? p=none:=by
 rw[D4];intro x hx;obtain⟨i,hi,rfl⟩:=List.mem_iff_getElem.1 hx;have:=h0 i hi
 rwa [d5,c9 hi,j4]at this
theorem b8q (p:Sh->Bool) (l:List Sh):decide (b8r p l>=0)=l.any p:=by
 unfold b8r;cases h:l.findIdx? p with
 | none=>
  rw[D4]at h;have:l.any p=false:=by rw[X1];exactλx hx=>by simp[h x hx]
  rw[this];rfl
 | some k=>
  rw[o0]at h;obtain⟨h1,h2,_⟩:=h;have:l.any p=true:=List.any_eq_true.2 ⟨l[k],I2 _,h2⟩;rw[this];simp
theorem b6A (c:Nat) (cs:List Value) (p:Sh->Bool) (A:Atom) (hcal:K0 Tryz.prog c=true) (l:List Sh) (hf:∀x∈l,Fn Tryz.prog c (shV x::cs) [A] (Ps (.bool (p x)) [A]))
  (a:Option Nat) (n cap:Nat) (hl:l.length=n) (hn:n<=4611686018427387904):FP 253 [slv a n cap,fnC c cs] [l9 212 23 a n cap (J0 l),A]
  (Ps (iI (b8r p l)) [l9 212 23 a n cap (J0 l),A]):=by
 refine FE [0,0] Tryz.func253 λX F hX=>?_;refine J.q λ_=>?_;refine J.l (α:=Nat) (λk=>k<=n/\∀i<k,p (l.getD i Sh.zero)=false) (λk=>[si 8 k,si 7 n,sv 0 (slv a n cap),⟨1,fnC c cs,0, .tt⟩]) [] (λk=>[]) (λk=>n-k) (0) (⟨by omega,by omega⟩) λk hI=>?_;refine J.qd (λ_ h1=>?_) λ_ h1=>?_
 ·simp only[d6,i6]at h1;cases a with
  | none=>
   refine J.know (λh' s=>(s.get (i:=1) rfl).2.1) λhn0=>?_;omega
  | some g=>
   have hk:l[k]? =some (l.getD k Sh.zero):=by rw[d5,c9 (by omega),j4]
   refine J.q λ_=>?_;refine J.v (shV (l.getD k Sh.zero)) rfl rfl (λhg a w he hs=>?_) ?_
   ·exact M3 tk rfl rfl he rfl rfl rfl (hs.get (i:=1) rfl) (by rw[show 0+(k:Int).toNat*23=k*23 from by omega];have:=a4F l [] k _ hk;rwa [l8]at this) rfl
   refine J.q λ_=>?_;refine J.call hX hcal (hf (l.getD k Sh.zero) (j9 hk)) [2] 0 rfl rfl rfl rfl (by(repeat' (first | exact Conj.nil | refine Conj.cons ?_ ?_ | omega | exact hq0 | (simpa using hq0) | (exactλh=>h) | exact rfl | (intro hq;have hq0:=hq;try simp only[f8,j7,d6,i4,c8]at hq) | (simp;done) | (simp;omega) | decide))) rfl rfl (λ_=>rfl) ?_;refine cpq ⟨_,rfl,trivial,?_⟩;refine J.qd (λ_ h2=>?_) λ_ h2=>?_
   ·refine J.qr [1,2] λ_=>?_;exact⟨by rw[b8r,b5V hk hI.2 h2],rfl⟩
   ·refine J.q λ_=>?_;refine J.nx (k+1) (⟨by omega,λi hi=>by
     rcases Nat.lt_succ_iff_lt_or_eq.1 hi with h3 | h3
     ·exact hI.2 i h3
     ·rw[h3];exact h2⟩) (by omega) (λ_ s=>s)
 ·simp only[c8,i6]at h1;refine J.qr [1,2] λ_=>?_;exact⟨by rw[b8r,b5W (λi hi=>hI.2 i (by omega))],rfl⟩
theorem b1E (c:Nat) (cs:List Value) (p:Sh->Bool) (A:Atom) (hcal:K0 Tryz.prog c=true) (l:List Sh) (hf:∀x∈l,Fn Tryz.prog c (shV x::cs) [A] (Ps (.bool (p x)) [A]))
  (a:Option Nat) (n cap:Nat) (hl:l.length=n) (hn:n<=4611686018427387904):FP 225 [slv a n cap,fnC c cs] [l9 212 23 a n cap (J0 l),A]
  (Ps (.bool (l.any p)) [l9 212 23 a n cap (J0 l),A]):=by
 refine FE [0,0] Tryz.func225 λX F hX=>?_;refine J.qp (b6A c cs p A hcal l hf a n cap hl hn) [1,2] λ_=>?_;refine J.qr [1,2] λ_=>?_;exact⟨by rw[<- b8q],rfl⟩
theorem b3R (l:List Sh):∀u∈J0 l,u.oneCell'=true:=by
 intro u hu;simp only[J0,K6]at hu;obtain⟨s,_,hu⟩:=hu;simp only[shL,I3,V5,a5S]at hu;rcases hu with rfl | rfl | rfl | rfl | rfl | rfl | rfl | rfl | rfl | rfl | rfl | rfl | rfl | rfl | rfl | rfl | rfl | rfl | rfl | rfl | rfl | rfl | rfl<;>rfl
theorem a3V (a:Option Nat) (n cap:Nat) (l:List Sh) (hl:l.length=n) (hn:n<=1000000):FP 229 [slv a n cap] [l9 212 23 a n cap (J0 l)]
  (λv As=>∃a' c',v=slv a' n c'/\As=[l9 212 23 a n cap (J0 l),l9 212 23 a' n c' (J0 l)]):=by
 refine FE [0] Tryz.func229 λX F hX=>?_;cases a with
 | none=>
  refine J.know (λh' s=>(s.get (i:=1) rfl).2) λhn0=>?_;obtain⟨rfl,rfl⟩:=hn0;have:l=[]:=m7 hl;subst this;refine J.qT λ_=>?_;refine J.turn1 [] rfl (As:=[l9 212 23 none 0 0 (J0 [])]) (λh s=>Sep.one ⟨rfl,rfl,rfl⟩) rfl ?_;refine J.qr [1,2] λ_=>?_;exact⟨none,0,rfl,rfl⟩
 | some g=>
  refine J.qF λ_=>?_;refine J.qn 5 λbb=>?_;refine J.closeOwn (e:=212) (size:=23) (n:=0) (cap:=0) (xs:=[]) 2 rfl rfl rfl (j3 _) (j8 _) rfl rfl rfl ?_;refine J.q λ_=>?_;refine J.appendR hX tk (a:=some (bb 0)) (n:=0) (cap:=0) (xs:=[]) (oo:=0) (Ay:=l9 212 23 (some g) n cap (J0 l)) 2 1 0 rfl rfl rfl rfl rfl rfl rfl rfl rfl rfl (Y6 _ _ (some g) _ _ _) rfl rfl rfl rfl (b3R l) ?_ ?_ (λ_=>rfl) λa' c'=>⟨_,rfl,trivial,?_⟩
  ·simp only[maxLen];omega
  ·omega
  rw[J6 n,R9];refine J.qr [1,2] λ_=>?_;exact⟨a',c',rfl,rfl⟩
theorem b9q (b2:Nat) (p s:Sh) (h:s.data.length=16):FP 226 [shV s,pp b2] [.pt b2 212 (shL p)] (Ps (.bool (W.alien p s)) [.pt b2 212 (shL p)]):=by
 refine FE [0,2] Tryz.func226 λX F hX=>?_;refine J.q λ_=>?_;refine J.gcase hX rfl rfl rfl trivial (λhb=>?_) (λhb=>?_)
 ·have hb2:(s.kind !=1)=false:=by rwa [i4]at hb
  rw[hb2];refine J.qp (b0j s h) [] λ_=>?_;refine J.qr [1] λ_=>?_;exact⟨by simp only[W.alien];rw[hb2],rfl⟩
 ·have hb2:(s.kind !=1)=true:=by rwa [B5]at hb
  rw[hb2];refine J.q λ_=>?_;refine J.v (.bool false) rfl rfl (λhg a w he hw=>by simp[G.on]at hg) ?_;refine J.qr [1] λ_=>?_;exact⟨by simp only[W.alien];rw[hb2];simp,rfl⟩
theorem b7A {l:List Sh} (hd:∀s∈l,s.data.length=16):(W.over l).1.length=16:=a3b hd _ rfl
theorem b6I (p:Sh) (hp:p.data.length=16) (a:Option Nat) (n cap:Nat) (l:List Sh) (hl:l.length=n) (hn:n<=100) (hd:∀s∈l,s.data.length=16):FP 191 [shV p,slv a n cap] [l9 212 23 a n cap (J0 l)]
  (Ps (.tuple #[enV (W.back p l), .bool (W.backB p l)]) [l9 212 23 a n cap (J0 l)]):=by
 have hsb:=a0Q p.mask;have hdp:∀s∈l++[p],s.data.length=16:=λs hs=>by
  rw[M4,J3]at hs;rcases hs with hs | rfl
  ·exact hd s hs
  ·exact hp
 have key:∀(b:Bool),W.backB p l=b->W.back p l=if b then W.backS p l else En.zero:=λb hb=>by rw[W.back,hb]
 refine FE [0,0] Tryz.func191 λX F hX=>?_;refine J.q λbb=>?_;refine J.ca hX (by kernel_rfl) (b1E 226 [pp (bb 0)] (W.alien p) _ (by kernel_rfl) l (λx hx=>b9q (bb 0) p x (hd x hx)) a n cap hl (by omega)) [1,2] 0 rfl rfl rfl rfl rfl rfl (λ_=>rfl) ?_;refine cpq ⟨_,rfl,trivial,?_⟩;refine J.q λ_=>?_;refine J.join (α:=Unit) (λ_=>[sv 34 (.bool (!W.backC p l)),sv 1 (slv a n cap),sv 5 (.bool false),⟨2,pp (bb 0),3, .tt⟩,⟨4,pp (bb (0+1)),4, .tt⟩]) (λ_=>[.hp F,l9 212 23 a n cap (J0 l), .pt (bb 0) 212 (shL p), .pt (bb (0+1)) 101 (enL En.zero)]) (λhj=>?_) (λ_=>?_)
 ·have hnil:∀b:Bool,(!W.backC p l)=b->∀x:Bool,b=x->(!W.backC p l)=x:=λb h x e=>h.trans e;have hC:(!W.backC p l)=((p.kind !=2)|| !S.may p||l.any (W.alien p)||((n:Int) !=G.slots p.mask-1)):=by
   simp only[W.backC,Bool.not_and,Bool.not_not,hl,bne];congr 1
  refine J.gcase hX rfl rfl rfl trivial (λhb=>?_) (λhb=>?_)
  ·have hb2:(p.kind !=2)=false:=by rwa [i4]at hb
   rw[hb2]at hC ⊢;refine J.qp (b0j p hp) [] λ_=>?_;refine J.q λ_=>?_;refine J.gcase hX rfl rfl rfl trivial (λhb=>?_) (λhb=>?_)
   ·have hb3:(false|| !S.may p||l.any (W.alien p))=false:=by rwa [i4]at hb
    rw[hb3]at hC ⊢;refine J.qp (a1t p.mask) [] λ_=>?_;refine J.q λ_=>?_;exact J.goto [0,1,2,3] (hj ()) ⟨congrArg (λb=>some (Value.bool b)) hC.symm,rfl,rfl,rfl,rfl,trivial⟩ rfl rfl
   ·have hb3:(false|| !S.may p||l.any (W.alien p))=true:=by rwa [B5]at hb
    rw[hb3]at hC ⊢;refine J.q λ_=>?_;refine J.v (iI 0) rfl rfl (λhg a w he hw=>by simp[G.on]at hg) ?_;refine J.q λ_=>?_;exact J.goto [0,1,2,3] (hj ()) ⟨congrArg (λb=>some (Value.bool b)) (show _= !W.backC p l from by rw[hC];rfl),rfl,rfl,rfl,rfl,trivial⟩ rfl rfl
  ·have hb2:(p.kind !=2)=true:=by rwa [B5]at hb
   rw[hb2]at hC ⊢;refine J.q λ_=>?_;refine J.v (.bool false) rfl rfl (λhg a w he hw=>by simp[G.on]at hg) ?_;refine J.q λ_=>?_;refine J.gcase hX rfl rfl rfl trivial (λhb=>by simp at hb) (λhb=>?_);refine J.q λ_=>?_;refine J.v (iI 0) rfl rfl (λhg a w he hw=>by simp[G.on]at hg) ?_;refine J.q λ_=>?_;exact J.goto [0,1,2,3] (hj ()) ⟨congrArg (λb=>some (Value.bool b)) (show _= !W.backC p l from by rw[hC];rfl),rfl,rfl,rfl,rfl,trivial⟩ rfl rfl
 refine J.qd (λ_ h1=>?_) λ_ h1=>?_
 ·have hB:W.backB p l=false:=by
   have:W.backB p l=(W.backC p l&&W.ok p.block p.row p.mask (W.backS p l)):=rfl;rw[this,show W.backC p l=false from by simpa using h1];rfl
  refine J.qr [1] λ_=>?_;exact⟨by rw[key _ hB,hB];rfl,rfl⟩
 have h2:W.backC p l=true:=by simpa using h1
 have hB:W.backB p l=W.ok p.block p.row p.mask (W.backS p l):=by
  have:W.backB p l=(W.backC p l&&W.ok p.block p.row p.mask (W.backS p l)):=rfl;rw[this,h2];rfl
 refine J.p (.take true 0 (.take false 2 (.alt false 1 ((.alt false 3 ((.alt false 4 ((.alt false 5 ((.of [24,28,32,38,42,44])) (.alt false 9 ((.of [22,24,28,32,42,44])) .non))) (.alt false 9 ((.of [18,22,24,28,32,42,44])) .non))) (.alt false 9 ((.of [14,18,22,24,28,32,42,44])) .non))) (.alt false 3 ((.alt false 1 ((.alt false 4 ((.alt false 5 ((.of [24,28,32,38,42,44])) (.alt false 9 ((.of [22,24,28,32,42,44])) .non))) (.alt false 9 ((.of [18,22,24,28,32,42,44])) .non))) (.alt false 9 ((.of [6,18,22,24,28,32,42,44])) .non))) (.alt false 9 ((.alt false 1 ((.of [14,18,22,24,28,32,42,44])) (.alt false 3 ((.of [6,18,22,24,28,32,42,44])) .non))) .non))))) [11] [2] λ_=>?_;refine J.join (α:=Nat) (λx=>[⟨7,pp x,5, .tt⟩,⟨8, .int .u64 (W.over (l++[p])).2,0, .tt⟩,⟨2,pp (bb 0),3, .tt⟩,⟨4,pp (bb (0+1)),4, .tt⟩]) (λx=>[.hp F,l9 212 23 a n cap (J0 l), .pt (bb 0) 212 (shL p), .pt (bb (0+1)) 101 (enL En.zero), .pt x 36 (H4 (W.over (l++[p])).1)]) (λhj=>?_) (λx=>?_)
 ·skip
  refine J.qn 2 λ_=>?_;refine J.alts ?_ (J.alts ?_ ?_)
  ·skip
   refine J.qc (a3V a n cap l hl (by omega)) [1] λ_=>?_;rintro v As ⟨a1,c1,rfl,rfl⟩;refine⟨_,rfl,⟨rfl,trivial⟩,?_⟩;refine J.alts ?_ ?_
   ·skip
    refine J.qn 1 λb3=>?_;refine J.alts ?_ ?_
    ·skip
     refine J.append hX tk 4 5 0 rfl rfl rfl rfl rfl rfl rfl rfl rfl rfl rfl rfl rfl rfl rfl rfl ?_ ?_ (λ_=>rfl) λa2 c2=>⟨_,(congrArg (λz=>V2 _ 4 (l9 _ _ _ _ _ z)) (R1 l p).symm).trans rfl,⟨rfl,trivial⟩,?_⟩
     ·simp only[maxLen];omega
     ·omega
     refine J.alts ?_ ?_
     ·skip
      refine J.qp (a1X a2 (n+1) c2 (l++[p]) (by simp[hl]) (by omega) hdp) [4] λ_=>?_;refine J.qn 3 λ_=>?_;refine J.qn 1 λb9=>?_;refine J.qn 3 λ_=>?_;exact J.goto [0,1,2,3,6] (hj (b9 0)) ⟨rfl,rfl,rfl,rfl,trivial⟩ rfl rfl
     ·skip
      refine J.qn 1 λb9=>?_;refine J.qp (a1X a2 (n+1) c2 (l++[p]) (by simp[hl]) (by omega) hdp) [4] λ_=>?_;refine J.qn 6 λ_=>?_;exact J.goto [0,1,2,3,6] (hj (b9 0)) ⟨rfl,rfl,rfl,rfl,trivial⟩ rfl rfl
    ·skip
     refine J.qn 1 λb9=>?_;refine J.append hX tk 4 5 0 rfl rfl rfl rfl rfl rfl rfl rfl rfl rfl rfl rfl rfl rfl rfl rfl ?_ ?_ (λ_=>rfl) λa2 c2=>⟨_,(congrArg (λz=>V2 _ 4 (l9 _ _ _ _ _ z)) (R1 l p).symm).trans rfl,⟨rfl,trivial⟩,?_⟩
     ·simp only[maxLen];omega
     ·omega
     refine J.qp (a1X a2 (n+1) c2 (l++[p]) (by simp[hl]) (by omega) hdp) [4] λ_=>?_;refine J.qn 6 λ_=>?_;exact J.goto [0,1,2,3,6] (hj (b9 0)) ⟨rfl,rfl,rfl,rfl,trivial⟩ rfl rfl
   ·skip
    refine J.qn 1 λb9=>?_;refine J.qn 1 λb3=>?_;refine J.append hX tk 4 6 0 rfl rfl rfl rfl rfl rfl rfl rfl rfl rfl rfl rfl rfl rfl rfl rfl ?_ ?_ (λ_=>rfl) λa2 c2=>⟨_,(congrArg (λz=>V2 _ 4 (l9 _ _ _ _ _ z)) (R1 l p).symm).trans rfl,⟨rfl,trivial⟩,?_⟩
    ·simp only[maxLen];omega
    ·omega
    refine J.qp (a1X a2 (n+1) c2 (l++[p]) (by simp[hl]) (by omega) hdp) [4] λ_=>?_;refine J.qn 6 λ_=>?_;exact J.goto [0,1,2,3,5] (hj (b9 0)) ⟨rfl,rfl,rfl,rfl,trivial⟩ rfl rfl
  ·skip
   refine J.qn 1 λb3=>?_;refine J.alts ?_ ?_
   ·skip
    refine J.qc (a3V a n cap l hl (by omega)) [1] λ_=>?_;rintro v As ⟨a1,c1,rfl,rfl⟩;refine⟨_,rfl,⟨rfl,trivial⟩,?_⟩;refine J.alts ?_ ?_
    ·skip
     refine J.append hX tk 5 4 0 rfl rfl rfl rfl rfl rfl rfl rfl rfl rfl rfl rfl rfl rfl rfl rfl ?_ ?_ (λ_=>rfl) λa2 c2=>⟨_,(congrArg (λz=>V2 _ 5 (l9 _ _ _ _ _ z)) (R1 l p).symm).trans rfl,⟨rfl,trivial⟩,?_⟩
     ·simp only[maxLen];omega
     ·omega
     refine J.alts ?_ ?_
     ·skip
      refine J.qp (a1X a2 (n+1) c2 (l++[p]) (by simp[hl]) (by omega) hdp) [5] λ_=>?_;refine J.qn 3 λ_=>?_;refine J.qn 1 λb9=>?_;refine J.qn 3 λ_=>?_;exact J.goto [0,1,2,3,6] (hj (b9 0)) ⟨rfl,rfl,rfl,rfl,trivial⟩ rfl rfl
     ·skip
      refine J.qn 1 λb9=>?_;refine J.qp (a1X a2 (n+1) c2 (l++[p]) (by simp[hl]) (by omega) hdp) [5] λ_=>?_;refine J.qn 6 λ_=>?_;exact J.goto [0,1,2,3,6] (hj (b9 0)) ⟨rfl,rfl,rfl,rfl,trivial⟩ rfl rfl
    ·skip
     refine J.qn 1 λb9=>?_;refine J.append hX tk 5 4 0 rfl rfl rfl rfl rfl rfl rfl rfl rfl rfl rfl rfl rfl rfl rfl rfl ?_ ?_ (λ_=>rfl) λa2 c2=>⟨_,(congrArg (λz=>V2 _ 5 (l9 _ _ _ _ _ z)) (R1 l p).symm).trans rfl,⟨rfl,trivial⟩,?_⟩
     ·simp only[maxLen];omega
     ·omega
     refine J.qp (a1X a2 (n+1) c2 (l++[p]) (by simp[hl]) (by omega) hdp) [5] λ_=>?_;refine J.qn 6 λ_=>?_;exact J.goto [0,1,2,3,6] (hj (b9 0)) ⟨rfl,rfl,rfl,rfl,trivial⟩ rfl rfl
   ·skip
    refine J.qn 1 λb9=>?_;refine J.qc (a3V a n cap l hl (by omega)) [1] λ_=>?_;rintro v As ⟨a1,c1,rfl,rfl⟩;refine⟨_,rfl,⟨rfl,trivial⟩,?_⟩;refine J.append hX tk 6 4 0 rfl rfl rfl rfl rfl rfl rfl rfl rfl rfl rfl rfl rfl rfl rfl rfl ?_ ?_ (λ_=>rfl) λa2 c2=>⟨_,(congrArg (λz=>V2 _ 6 (l9 _ _ _ _ _ z)) (R1 l p).symm).trans rfl,⟨rfl,trivial⟩,?_⟩
    ·simp only[maxLen];omega
    ·omega
    refine J.qp (a1X a2 (n+1) c2 (l++[p]) (by simp[hl]) (by omega) hdp) [6] λ_=>?_;refine J.qn 6 λ_=>?_;exact J.goto [0,1,2,3,5] (hj (b9 0)) ⟨rfl,rfl,rfl,rfl,trivial⟩ rfl rfl
  ·skip
   refine J.qn 1 λb9=>?_;refine J.alts ?_ ?_
   ·skip
    refine J.qc (a3V a n cap l hl (by omega)) [1] λ_=>?_;rintro v As ⟨a1,c1,rfl,rfl⟩;refine⟨_,rfl,⟨rfl,trivial⟩,?_⟩;refine J.qn 1 λb3=>?_;refine J.append hX tk 5 6 0 rfl rfl rfl rfl rfl rfl rfl rfl rfl rfl rfl rfl rfl rfl rfl rfl ?_ ?_ (λ_=>rfl) λa2 c2=>⟨_,(congrArg (λz=>V2 _ 5 (l9 _ _ _ _ _ z)) (R1 l p).symm).trans rfl,⟨rfl,trivial⟩,?_⟩
    ·simp only[maxLen];omega
    ·omega
    refine J.qp (a1X a2 (n+1) c2 (l++[p]) (by simp[hl]) (by omega) hdp) [5] λ_=>?_;refine J.qn 6 λ_=>?_;exact J.goto [0,1,2,3,4] (hj (b9 0)) ⟨rfl,rfl,rfl,rfl,trivial⟩ rfl rfl
   ·skip
    refine J.qn 1 λb3=>?_;refine J.qc (a3V a n cap l hl (by omega)) [1] λ_=>?_;rintro v As ⟨a1,c1,rfl,rfl⟩;refine⟨_,rfl,⟨rfl,trivial⟩,?_⟩;refine J.append hX tk 6 5 0 rfl rfl rfl rfl rfl rfl rfl rfl rfl rfl rfl rfl rfl rfl rfl rfl ?_ ?_ (λ_=>rfl) λa2 c2=>⟨_,(congrArg (λz=>V2 _ 6 (l9 _ _ _ _ _ z)) (R1 l p).symm).trans rfl,⟨rfl,trivial⟩,?_⟩
    ·simp only[maxLen];omega
    ·omega
    refine J.qp (a1X a2 (n+1) c2 (l++[p]) (by simp[hl]) (by omega) hdp) [6] λ_=>?_;refine J.qn 6 λ_=>?_;exact J.goto [0,1,2,3,4] (hj (b9 0)) ⟨rfl,rfl,rfl,rfl,trivial⟩ rfl rfl

 obtain⟨mm,hm1,hm2⟩:=a5y (l++[p]) (zeros16,0) ⟨by decide,by decide⟩;have hm1:(W.over (l++[p])).2=(mm:Int):=hm1;have hS:W.backS p l=⟨(mm/1099511627776 % 65536:Nat),(mm % 1099511627776:Nat),(mm/72057594037927936:Nat),(W.over (l++[p])).1⟩:=by
  have hx:mm=(W.over (l++[p])).2.toNat:=by rw[hm1];rfl
  rw[W.backS,<- hx]
 rw[hm1];refine J.qp (c1Z mm hm2) [] λ_=>?_;refine J.qp (b1K p.block p.row p.mask ⟨(mm/1099511627776 % 65536:Nat),(mm % 1099511627776:Nat),(mm/72057594037927936:Nat),(W.over (l++[p])).1⟩ (b7A hdp)) [] λ_=>?_;rw[<- hS,<- hB];refine J.qd (λ_ h3=>?_) λ_ h3=>?_
 ·simp only[i4]at h3;refine J.qr [1] λ_=>?_;exact⟨by rw[key _ h3,h3];rfl,rfl⟩
 ·simp only[B5]at h3;refine J.qr [1] λ_=>?_;exact⟨by rw[key _ h3,h3,d7 rfl,hS];rfl,rfl⟩
def a0K (l:List Bool):List Value:=l.map .bool
theorem b2W (l:List Bool) (x:Bool):a0K (l++[x])=a0K l++[.bool x]:=by simp[a0K]
theorem a3F {l:List Bool} {k:Nat} {x:Bool} (h:l[k]? =some x):(a0K l)[k]? =some (.bool x):=by simp[a0K,h]
def fdL (a1:Option Nat) (c1:Nat) (a2:Option Nat) (c2 n:Nat) (s:Sh) (w:Bool):List Value:=[slv a1 n c1,slv a2 n c2,byC s.data 0,byC s.data 1,byC s.data 2,byC s.data 3,byC s.data 4,byC s.data 5,byC s.data 6,byC s.data 7,byC s.data 8,byC s.data 9,byC s.data 10,byC s.data 11,byC s.data 12,byC s.data 13,byC s.data 14,byC s.data 15,
 iI s.role,iI s.lpn,iI s.seq,iI s.kind,iI s.block,iI s.row,iI s.mask, .bool w]
theorem b0U (s:Sh):FP 126 [shV s] [] (Ps (enV s.en) []):=by
 refine FE [0] Tryz.func126 λX F hX=>?_;exact J.qx []
theorem b4n (p:Nat) (N:Nand) (hN:N.Ok) (hR:N.Room) (b r m d:Int) (b1 b2 b3 b4:Nat):FP 190 [iI d,pp b1,pp b2,pp b3,pp b4] [C3 p N, .pt b1 27 [pp p], .pt b2 3 [iI b], .pt b3 3 [iI r], .pt b4 3 [iI m]]
  (Ps (.tuple #[shV (R.one N b r m d).1, .bool (R.one N b r m d).2]) [C3 p N, .pt b1 27 [pp p], .pt b2 3 [iI b], .pt b3 3 [iI r], .pt b4 3 [iI m]]):=by
 refine FE [0,3,4,5,6] Tryz.func190 λX F hX=>?_;refine J.q λb2=>?_;refine J.q λb3=>?_;refine J.cb (a6k p N hN hR d b r) [1] ?_;refine cpq ⟨_,rfl,trivial,?_⟩;refine J.q λb4=>?_;refine J.plan (.of [1,4,8,12,16,21,25,28,32,38,40]) [10] [5,7] (by rw[hX.hP];kernel_rfl) (by kernel_rfl) ?_;exact J.qx [1,2,3,4,5]
theorem a9Q (N:Nand) (b r m:Int) (k:Nat):R.ones N b r m (k+1)=R.ones N b r m k++[R.one N b r m (G.die m b r (k:Nat))]:=by simp[R.ones,t6]
theorem b7o (p:Nat) (N:Nand) (hN:N.Ok) (hR:N.Room) (b r m:Int):FP 125 [pp p,iI b,iI r,iI m] [C3 p N]
  (λv As=>∃a1 c1 a2 c2,v= .agg (fdL a1 c1 a2 c2 (G.slots m).toNat (R.look N b r m).parity (R.look N b r m).whole).toArray/\As=[C3 p N,l9 212 23 a1 (G.slots m).toNat c1 (J0 (R.look N b r m).slots),l9 4 1 a2 (G.slots m).toNat c2 (a0K (R.look N b r m).good)]):=by
 have hsb:=a0Q m;obtain⟨P,hP⟩:∃P,R.one N b r m (G.parity m b r)=P:=⟨_,rfl⟩;refine FE [2,0,0,0] Tryz.func125 λX F hX=>?_;refine J.q λbb=>?_;refine J.cb (a1x m b r) [] ?_;refine cpq ⟨_,rfl,trivial,?_⟩;refine J.q λb8=>?_;refine J.cb (b4n p N hN hR b r m (G.parity m b r) (bb 0) (bb 1) (bb 2) (bb 3)) [1,2,3,4,5] ?_;refine cpq ⟨_,rfl,trivial,?_⟩;rw[hP];refine J.qp (a1t m) [] λ_=>?_;refine J.turn1 [] rfl (As:=[l9 212 23 none 0 0 (J0 []),l9 4 1 none 0 0 (a0K [])]) (λh s=>⟨λ_=>0,λi A hA=>by
  match i,hA with
  | 0,hA=>simp at hA;subst hA;exact⟨rfl,rfl,rfl⟩
  | 1,hA=>simp at hA;subst hA;exact⟨rfl,rfl,rfl⟩
  | k+2,hA=>simp at hA⟩) rfl ?_
 refine J.q λ_=>?_;refine J.l (α:=(Nat×Option Nat×Nat×Option Nat×Nat)) (λz=>z.1<=(G.slots m).toNat) (λz=>[si 28 z.1,si 27 (G.slots m),⟨9,fnC 190 [pp (bb 0),pp (bb 1),pp (bb 2),pp (bb 3)],0, .tt⟩,⟨4,pp (bb 0),3, .tt⟩,⟨5,pp (bb 1),4, .tt⟩,⟨6,pp (bb 2),5, .tt⟩,⟨7,pp (bb 3),6, .tt⟩,⟨8,pp (bb 4),7, .tt⟩,⟨10,pp (bb 5),8, .tt⟩]) [7,8,9] (λz=>[.pt (bb 5) 214 (fdL z.2.1 z.2.2.1 z.2.2.2.1 z.2.2.2.2 z.1 P.1 P.2),l9 212 23 z.2.1 z.1 z.2.2.1 (J0 ((R.ones N b r m z.1).map (·.1))),l9 4 1 z.2.2.2.1 z.1 z.2.2.2.2 (a0K ((R.ones N b r m z.1).map (·.2)))]) (λz=>(G.slots m).toNat-z.1) ((0,none,0,none,0)) (j8 _) λz hI=>?_;obtain⟨k,a1,c1,a2,c2⟩:=z;dsimp only at hI ⊢;refine J.qd (λ_ h1=>?_) λ_ h1=>?_
 ·simp only[d6]at h1;have hS1:J0 ((R.ones N b r m k).map (·.1))++shL (R.one N b r m (G.die m b r k)).1=J0 ((R.ones N b r m (k+1)).map (·.1)):=by rw[a9Q,s8,<- R1];rfl
  have hS2:a0K ((R.ones N b r m k).map (·.2))++[.bool (R.one N b r m (G.die m b r k)).2]=a0K ((R.ones N b r m (k+1)).map (·.2)):=by rw[a9Q,s8,<- b2W];rfl
  refine J.qp (b4L m b r k (by omega) (by omega)) [] λ_=>?_;refine J.qp (b4n p N hN hR b r m (G.die m b r k) (bb 0) (bb 1) (bb 2) (bb 3)) [1,2,3,4,5] λ_=>?_;refine J.p (.take true 0 (.take false 1 (.take false 2 (.take true 5 (.take false 6 (.take true 7 (.alt false 3 ((.alt false 4 ((.of [40,34,38,47,48,55])) (.alt false 8 ((.of [18,40,38,47,48,55])) .non))) (.alt false 8 ((.of [14,18,40,38,47,48,55])) .non)))))))) [11,12,13] [7,10] λ_=>?_;refine J.join (α:=Option Nat×Nat×Option Nat×Nat) (λx=>[si 28 k,si 27 (G.slots m),⟨9,fnC 190 [pp (bb 0),pp (bb 1),pp (bb 2),pp (bb 3)],0, .tt⟩,⟨4,pp (bb 0),3, .tt⟩,⟨5,pp (bb 1),4, .tt⟩,⟨6,pp (bb 2),5, .tt⟩,⟨7,pp (bb 3),6, .tt⟩,⟨8,pp (bb 4),7, .tt⟩,⟨10,pp (bb 5),8, .tt⟩]) (λx=>[.hp F,C3 p N, .pt (bb 0) 27 [pp p], .pt (bb 1) 3 [iI b], .pt (bb 2) 3 [iI r], .pt (bb 3) 3 [iI m], .pt (bb 4) 214 (fdL none 0 none 0 0 Sh.zero false), .pt (bb 5) 214 (fdL x.1 x.2.1 x.2.2.1 x.2.2.2 (k+1) P.1 P.2),l9 212 23 x.1 (k+1) x.2.1 (J0 ((R.ones N b r m (k+1)).map (·.1))),l9 4 1 x.2.2.1 (k+1) x.2.2.2 (a0K ((R.ones N b r m (k+1)).map (·.2)))]) (λhj=>?_) (λx=>?_)
  ·skip
   refine J.qn 6 λ_=>?_;refine J.alts ?_ ?_
   ·skip
    refine J.qn 1 λb3=>?_;refine J.alts ?_ ?_
    ·skip
     refine J.ap 8 11 0 hS1 λa3 c3=>?_;refine J.qn 1 λ_=>?_;refine J.qn 1 λb8=>?_;refine J.ap 9 12 0 hS2 λa4 c4=>?_;refine J.qn 4 λ_=>?_;exact J.goto [0,1,2,3,4,5,6,7,8,9] (hj (a3,c3,a4,c4)) ⟨rfl,rfl,rfl,rfl,rfl,rfl,rfl,rfl,rfl,trivial⟩ rfl rfl
    ·skip
     refine J.qn 1 λb8=>?_;refine J.ap 8 11 0 hS1 λa3 c3=>?_;refine J.qn 1 λ_=>?_;refine J.ap 9 12 0 hS2 λa4 c4=>?_;refine J.qn 4 λ_=>?_;exact J.goto [0,1,2,3,4,5,6,7,8,9] (hj (a3,c3,a4,c4)) ⟨rfl,rfl,rfl,rfl,rfl,rfl,rfl,rfl,rfl,trivial⟩ rfl rfl
   ·skip
    refine J.qn 1 λb8=>?_;refine J.qn 1 λb3=>?_;refine J.ap 8 12 0 hS1 λa3 c3=>?_;refine J.qn 1 λ_=>?_;refine J.ap 9 11 0 hS2 λa4 c4=>?_;refine J.qn 4 λ_=>?_;exact J.goto [0,1,2,3,4,5,6,7,8,9] (hj (a3,c3,a4,c4)) ⟨rfl,rfl,rfl,rfl,rfl,rfl,rfl,rfl,rfl,trivial⟩ rfl rfl
  obtain⟨a3,c3,a4,c4⟩:=x;dsimp only;refine J.q λ_=>?_;refine J.n ((k+1,a3,c3,a4,c4)) (by dsimp only;omega) (by dsimp only;omega) [0,1,2,3,4,5,6,7,8,9]
 ·simp only[c8]at h1;have hk:k=(G.slots m).toNat:=by omega
  subst hk;refine J.qr [1,8,9] λ_=>?_;refine⟨a1,c1,a2,c2,?_,rfl⟩;rw[show(R.look N b r m).parity=P.1 from congrArg Prod.fst hP,show(R.look N b r m).whole=P.2 from congrArg Prod.snd hP];rfl
def a3q (l:List Sh) (k i:Nat):List Sh:=(l.take i).eraseIdx k
theorem c0e (l:List Sh) (i:Nat) (h:i<l.length):a3q l i (i+1)=a3q l i i:=by
 unfold a3q;have hl:(l.take i).length=i:=by rw[l5];omega
 rw[List.eraseIdx_of_length_le (l:=l.take i) (by omega),D2,c9 h,K8];rw[List.eraseIdx_append_of_length_le (by omega),hl,U3];simp
theorem c0d (l:List Sh) (k i:Nat) (x:Sh) (h:l[i]? =some x) (hk:i≠k):a3q l k (i+1)=a3q l k i++[x]:=by
 unfold a3q;rw[D2,h,K8];have hi:=(List.getElem?_eq_some_iff.1 h).1;have hl:(l.take i).length=i:=by rw[l5];omega
 by_cases hlt:k<i
 ·rw[List.eraseIdx_append_of_lt_length (by omega)]
 ·rw[List.eraseIdx_of_length_le (l:=l.take i++[x]) (by rw[d8,L6];omega),List.eraseIdx_of_length_le (by omega)]
theorem b7F (l:List Sh) (k i:Nat):(a3q l k i).length<=l.length:=by
 unfold a3q;refine E9 (List.length_eraseIdx_le _ _) ?_;rw[l5];omega
theorem b7E {l:List Sh} {k i:Nat} {x:Sh} (h:x∈a3q l k i):x∈l:=I7 (R8 h)
theorem b1Z (f:Fd) (n:Nat) (hn:n<=8) (h1l:f.slots.length=n) (h2l:f.good.length=n) (hd:∀s∈f.slots,s.data.length=16) (hp:f.parity.data.length=16) (a1 a2:Option Nat) (c1 c2 k:Nat):FP 127 [.agg (fdL a1 c1 a2 c2 n f.parity f.whole).toArray,iI k] [l9 212 23 a1 n c1 (J0 f.slots),l9 4 1 a2 n c2 (a0K f.good)]
  (λv As=>v= .tuple #[enV (R.mend f k), .bool (R.mendB f k)]/\As=[l9 212 23 a1 n c1 (J0 f.slots),l9 4 1 a2 n c2 (a0K f.good)]):=by
 refine FE [0,0] Tryz.func127 λX F hX=>?_;refine J.q λbb=>?_;refine J.turn1 [] rfl (As:=[l9 212 23 none 0 0 (J0 (a3q f.slots k 0))]) (λh s=>Sep.one ⟨rfl,rfl,rfl⟩) rfl ?_;refine J.q λ_=>?_;refine J.l (α:=(Nat×Option Nat×Nat)) (λz=>z.1<=n/\∀j<z.1,j=k\/f.good.getD j false=true) (λz=>[si 12 z.1,si 11 n,sv 10 (slv a1 n c1),si 1 k,⟨2,pp (bb 0),4, .tt⟩,⟨4,pp (bb 1),5, .tt⟩,sv 5 (.bool false),sv 6 (slv z.2.1 (a3q f.slots k z.1).length z.2.2)]) [5] (λz=>[l9 212 23 z.2.1 (a3q f.slots k z.1).length z.2.2 (J0 (a3q f.slots k z.1))]) (λz=>n-z.1) ((0,none,0)) (⟨j8 _,by omega⟩) λz hI=>?_;obtain⟨i,a3,c3⟩:=z;dsimp only at hI ⊢;have hol:=b7F f.slots k i;refine J.qd (λ_ h1=>?_) λ_ h1=>?_
 ·simp only[d6,i6]at h1;refine J.know (λh' s=>D7 (c:=(a1,c1)) (by omega) (s.get (i:=1) rfl)) λhg=>?_;obtain⟨g1,rfl⟩:=hg;refine J.know (λh' s=>D7 (c:=(a2,c2)) (by omega) (s.get (i:=2) rfl)) λhg=>?_;obtain⟨g2,rfl⟩:=hg;obtain⟨s,hs⟩:∃s,f.slots[i]? =some s:=⟨_,c9 (by omega)⟩;have hgd:f.good[i]? =some (f.good.getD i false):=by rw[d5,c9 (by omega),j4]
  refine J.q λ_=>?_;refine J.v (shV s) rfl rfl (λhg a w he hw=>?_) ?_
  ·exact M3 tk rfl rfl he rfl rfl rfl (hw.get (i:=1) rfl) (by rw[show 0+(i:Int).toNat*23=i*23 from by omega];exact a3D hs) rfl
  refine J.qd (λ_ h2=>?_) λ_ h2=>?_
  ·simp only[B4,a4P]at h2;subst h2;rw[<- c0e f.slots i (by omega)];refine J.q λ_=>?_;refine J.nS ((i+1,a3,c3)) (⟨by dsimp only;omega,λj hj=>by
    rcases Nat.lt_succ_iff_lt_or_eq.1 hj with h | h
    ·exact hI.2 j h
    ·exact .inl h⟩) (by dsimp only;omega) [0,1,2,3,4,5] rfl rfl
  simp only[m6,I1,a4P]at h2;refine J.q λ_=>?_;refine J.v (.bool (f.good.getD i false)) rfl rfl (λhg a w he hw=>?_) ?_
  ·exact I4 tk rfl rfl he rfl rfl rfl (hw.get (i:=2) rfl) (by rw[show 0+(i:Int).toNat*1=i from by omega];exact a3F hgd)
  refine J.qd (λ_ h3=>?_) λ_ h3=>?_
  ·simp only[i4]at h3;refine J.qr [1,2] λ_=>?_;have hr:R.rest f k=false:=by
    unfold R.rest;rw[List.all_eq_false];exact⟨i,by rw[J4];omega,by rw[h3];simpa using h2⟩
   simp only[R.mend,R.mendB,hr,a0c];exact⟨rfl,rfl⟩
  ·simp only[B5]at h3;have hsn:=c0d f.slots k i s hs h2;have hsl:(a3q f.slots k i).length+1=(a3q f.slots k (i+1)).length:=by rw[hsn];simp
   refine J.q λ_=>?_;refine J.ap 5 7 0 ((R1 _ s).symm.trans (congrArg J0 hsn.symm)) λa4 c4=>?_;rw[hsl];refine J.q λ_=>?_;refine J.nS ((i+1,a4,c4)) (⟨by dsimp only;omega,λj hj=>by
    rcases Nat.lt_succ_iff_lt_or_eq.1 hj with h | h
    ·exact hI.2 j h
    ·exact .inr (h▸h3)⟩) (by dsimp only;omega) [0,1,2,3,4,5] rfl rfl
 ·simp only[c8,i6]at h1;obtain rfl:i=n:=by omega
  have hr:R.rest f k=true:=by
   unfold R.rest;rw[E8];intro j hj;rcases hI.2 j (by simp at hj;omega)with h | h
   ·simp[h]
   ·rw[h];simp
  have ho:a3q f.slots k i=f.slots.eraseIdx k:=by unfold a3q;rw[x9 (by omega)]
  refine J.qd (λ_ h4=>?_) λ_ h4=>?_
  ·simp only[i4]at h4;refine J.qr [1,2] λ_=>?_;simp only[R.mend,R.mendB,h4,Bool.and_false,a0c];exact⟨rfl,rfl⟩
  ·simp only[B5]at h4;refine J.qp (b6I f.parity hp a3 (a3q f.slots k i).length c3 (a3q f.slots k i) rfl (by omega) (λs hs=>hd s (b7E hs))) [5] λ_=>?_;refine J.qr [1,2] λ_=>?_;simp only[R.mend,R.mendB,hr,h4,Bool.and_self,q9,a0d,<- ho];exact⟨rfl,rfl⟩
theorem a9k:∀m,m<256->∀k,k<8->0<=L.at_ (m:Nat) (k:Nat)->L.count (L.without (m:Nat) (L.at_ (m:Nat) (k:Nat)))=L.count (m:Nat)-1:=by decide+kernel
theorem c2i {m b r s:Int} (h:0<=G.die m b r s):0<=s/\s<G.slots m:=by
 unfold G.die at h;split at h
 ·omega
 ·rename_i hp;have hp0:0<=G.parity m b r:=by omega
  have hs:0<=s/\s<(L.count (L.without m (G.parity m b r)):Int):=by
   by_cases hh:s<0\/(L.count (L.without m (G.parity m b r)):Int)<=s
   ·rw[L.at_ge _ _ hh]at h;omega
   ·omega
  unfold G.parity at hp0 hs;split at hp0
  ·omega
  ·rename_i hc;rw[d4 hc]at hs;have hm:0<=m/\m<256:=by
    by_cases hh:0<=m/\m<256
    ·exact hh
    ·have:=L.count_no m hh;omega
   obtain⟨M,rfl⟩:=f9 hm.1;have hcl:=L.count_le (M:Int);have hq:0<=(b+r) % (L.count (M:Int):Int)/\(b+r) % (L.count (M:Int):Int)<L.count (M:Int):=⟨a2u _ (by omega),a0V _ (by omega)⟩;obtain⟨q,hq2⟩:=f9 hq.1;rw[hq2]at hs hp0 hq;rw[a9k M (by omega) q (by omega) hp0]at hs;unfold G.slots;rw[d4 (by omega)];omega
theorem a2X {N:Nand} (hN:N.Ok) (b r m:Int):(∀s∈(R.look N b r m).slots,s.data.length=16)/\(R.look N b r m).parity.data.length=16:=by
 refine⟨λs hs=>?_,a9W hN _ _ _⟩;simp only[R.look,R.ones,a1L,Q5]at hs;obtain⟨k,_,rfl⟩:=hs;exact a9W hN _ _ _
theorem b0V (p:Nat) (N:Nand) (hN:N.Ok) (hR:N.Room) (b r s m:Int) (h0: -1000000<=s) (h1:s<=1000000):FP 68 [pp p, .agg #[iI b,iI r,iI s],iI m] [C3 p N]
  (Ps (.tuple #[enV (R.read N b r s m).1,iI (R.read N b r s m).2]) [C3 p N]):=by
 have hbd:=hN.bd;refine FE [2,0,0] Tryz.func68 λX F hX=>?_;refine J.q λbb=>?_;refine J.join (α:=Unit) (λ_=>[⟨30, .bool (decide (G.die m b r s<0)|| !X4 N.dies N.blocks N.pages 0 b r),0, .tt⟩,⟨0,pp p,2, .tt⟩,si 2 m,⟨4,pp (bb 0),3, .tt⟩,⟨6,pp (bb 1),4, .tt⟩]) (λ_=>[.hp F,C3 p N, .pt (bb 0) 131 [iI b,iI r,iI s], .pt (bb 1) 101 (enL En.zero)]) (λhj=>?_) (λ_=>?_)
 ·refine J.p (.of [0,4,9,12,17,20,25,30,32,36,40,48,53,56,61,64,46,70,72,76]) [] [2] λ_=>?_;refine J.qp (b4L m b r s h0 h1) [] λ_=>?_;refine J.q λ_=>?_;refine J.gcase hX rfl rfl rfl ⟨rfl,trivial⟩ (λhb=>?_) (λhb=>?_)
  ·have hb2:decide (G.die m b r s<0)=false:=by rwa [i4]at hb
   rw[hb2]at hj ⊢;refine J.qp (a2V p N) [1] λ_=>?_;refine J.qp (b2J N.dies N.blocks N.pages 0 b r (by omega) (by omega) (by omega)) [] λ_=>?_;refine J.q λ_=>?_;exact J.goto [0,1,2,3] (hj ()) ⟨rfl,rfl,rfl,rfl,rfl,trivial⟩ rfl rfl
  ·have hb2:decide (G.die m b r s<0)=true:=by rwa [B5]at hb
   rw[hb2]at hj ⊢;refine J.q λ_=>?_;refine J.gcase hX rfl rfl rfl ⟨rfl,trivial⟩ (λhb=>by simp at hb) (λhb=>?_);refine J.q λ_=>?_;refine J.vT (.bool false) rfl rfl (λhg a w he hw=>by simp[G.on]at hg) ?_;refine J.q λ_=>?_;exact J.goto [0,1,2,3] (hj ()) ⟨rfl,rfl,rfl,rfl,rfl,trivial⟩ rfl rfl
 refine J.qd (λ_ h2=>?_) λ_ h2=>?_
 ·refine J.qr [1] λ_=>?_;have:G.die m b r s<0\/X4 N.dies N.blocks N.pages 0 b r=false:=by simpa using h2
  rw[R.read,d7 this];exact⟨rfl,rfl⟩
 have hc:¬(G.die m b r s<0\/X4 N.dies N.blocks N.pages 0 b r=false):=by simpa using h2
 have hd:=c2i (m:=m) (b:=b) (r:=r) (s:=s) (by omega);have hsb:=a0Q m;refine J.qp (a3r p N) [1] λ_=>?_;refine J.qd (λ_ h3=>?_) λ_ h3=>?_
 ·refine J.qr [1] λ_=>?_;have:N.off=true:=by simpa using h3
  rw[R.read,d4 hc,d7 this];exact⟨rfl,rfl⟩
 have hoff:¬N.off=true:=by simpa using h3
 obtain⟨k,rfl⟩:=f9 hd.1;have hlen:=a0i N b r m;have hdat:=a2X hN b r m;have hkn:k<(G.slots m).toNat:=by omega
 refine J.qc (b7o p N hN hR b r m) [1] λ_=>?_;rintro v As ⟨a1,c1,a2,c2,rfl,rfl⟩;refine⟨_,rfl,trivial,?_⟩;refine J.know (λh' s=>D7 (c:=(a1,c1)) (by omega) (s.get (i:=4) rfl)) λhg=>?_;obtain⟨g1,rfl⟩:=hg;refine J.know (λh' s=>D7 (c:=(a2,c2)) (by omega) (s.get (i:=5) rfl)) λhg=>?_;obtain⟨g2,rfl⟩:=hg;have hgd:(R.look N b r m).good[k]? =some ((R.look N b r m).good.getD k false):=by rw[d5,c9 (by omega),j4]
 have hsd:(R.look N b r m).slots[k]? =some ((R.look N b r m).slots.getD k Sh.zero):=by rw[d5,c9 (by omega),j4]
 have hr:R.read N b r k m=if(R.look N b r m).good.getD k false then(((R.look N b r m).slots.getD k Sh.zero).en,0)else if R.mendB (R.look N b r m) k then(R.mend (R.look N b r m) k,0)else(En.zero,10):=by
  rw[R.read,d4 hc,d4 hoff,i9]
 refine J.q λ_=>?_;refine J.v (.bool ((R.look N b r m).good.getD k false)) rfl rfl (λhg a w he hw=>?_) ?_
 ·exact I4 tk rfl rfl he rfl rfl rfl (hw.get (i:=5) rfl) (by rw[show 0+(k:Int).toNat*1=k from by omega];exact a3F hgd)
 refine J.qd (λ_ h4=>?_) λ_ h4=>?_
 ·refine J.q λ_=>?_;refine J.v (shV ((R.look N b r m).slots.getD k Sh.zero)) rfl rfl (λhg a w he hw=>?_) ?_
  ·exact M3 tk rfl rfl he rfl rfl rfl (hw.get (i:=4) rfl) (by rw[show 0+(k:Int).toNat*23=k*23 from by omega];exact a3D hsd) rfl
  refine J.qp (b0U ((R.look N b r m).slots.getD k Sh.zero)) [] λ_=>?_;refine J.qr [1] λ_=>?_;rw[hr,d7 h4];exact⟨rfl,rfl⟩
 refine J.qp (b1Z (R.look N b r m) (G.slots m).toNat (by omega) hlen.1 hlen.2 hdat.1 hdat.2 (some g1) (some g2) c1 c2 k) [4,5] λ_=>?_;refine J.qd (λ_ h5=>?_) λ_ h5=>?_
 ·refine J.qr [1] λ_=>?_;rw[hr,d4 (by rw[h4];exact l4),d7 h5];exact⟨rfl,rfl⟩
 ·refine J.qr [1] λ_=>?_;rw[hr,d4 (by rw[h4];exact l4),d4 (by rw[h5];exact l4)];exact⟨rfl,rfl⟩
def fnL (x:Fnd):List Value:=[iI x.en.lpn,iI x.en.seq,iI x.en.role,byC x.en.data 0,byC x.en.data 1,byC x.en.data 2,byC x.en.data 3,byC x.en.data 4,byC x.en.data 5,byC x.en.data 6,byC x.en.data 7,byC x.en.data 8,byC x.en.data 9,byC x.en.data 10,byC x.en.data 11,byC x.en.data 12,byC x.en.data 13,byC x.en.data 14,byC x.en.data 15,
 iI x.block,iI x.row,iI x.slot,iI x.mask, .bool x.whole, .bool x.mended]
def H2 (l:List Fnd):List Value:=l.flatMap fnL
theorem b1j (x:Fnd):(fnL x).length=25:=rfl
theorem Y9 (l:List Fnd):(H2 l).length=l.length*25:=by
 induction l with
 | nil=>rfl
 | cons x l ih=>simp only[H2,z7,d8,l6]at ih ⊢;rw[ih,b1j];omega
theorem a4o (l:List Fnd) (x:Fnd):H2 (l++[x])=H2 l++fnL x:=by simp[H2]
theorem a2n:∀{l:List Fnd} {k:Nat} {x:Fnd},l[k]? =some x->((H2 l).drop (k*25)).take 25=fnL x
 | [],_,_,h=>by simp at h
 | y::l,0,x,h=>by
  simp at h;subst h;rw[Q3,a0b];exact D9 (b1j y)
 | y::l,k+1,x,h=>by
  have:=a2n (l:=l) (k:=k) (x:=x) (by simpa using h);rw[show(k+1)*25=25+k*25 from by omega,<- C2];simp only[H2,z7];rw[U8 (b1j y)];exact this
theorem b1q (x:Int):∀l:List Int,(K9 x l).length<=l.length
 | []=>j3 _
 | y::l=>by
  unfold K9;split
  ·have h:=b1q y l;exact E9 h (by simp)
  ·have h:=b1q y l;simpa using h
theorem b2Q:∀l:List Int,(J9 l).length<=l.length
 | []=>j3 _
 | x::l=>by have h:=b1q x l;simpa[J9]using h
theorem a9X (N:Nand) (b r:Int):(M.masks N b r).length<=N.dies:=by
 unfold M.masks;refine E9 (b2Q _) ?_;rw[a1n];refine E9 (List.length_filterMap_le _ _) ?_;simp[M.rowN]
def a5z (N:Nand) (b r:Int) (i:Nat):List Fnd:=((M.masks N b r).take i).flatMap (R.allM N b r)
def a2N (N:Nand) (b r mk:Int) (i j:Nat):List Fnd:=a5z N b r i++(List.range j).filterMap (R.fnd (R.look N b r mk) b r mk)
theorem b9e (N:Nand) (b r m:Int):(R.allM N b r m).length<=7:=by
 unfold R.allM;refine E9 (List.length_filterMap_le _ _) ?_;rw[K7,(a0i N b r m).1];have:=a0Q m;omega
theorem a8l (N:Nand) (b r:Int) (i:Nat) (h:N.dies<=6):(a5z N b r i).length<=42:=by
 have h1:∀l:List Int,(l.flatMap (R.allM N b r)).length<=7*l.length:=by
  intro l
  induction l with
  | nil=>simp
  | cons x l ih=>rw[z7,d8,l6];have:=b9e N b r x;omega
 have h2:=h1 ((M.masks N b r).take i);have h3:=a9X N b r;have h4:((M.masks N b r).take i).length<=6:=by rw[l5];omega
 unfold a5z;omega
theorem b7C (N:Nand) (b r mk:Int) (i j:Nat) (h:N.dies<=6) (hj:j<=7):(a2N N b r mk i j).length<=49:=by
 have h1:=a8l N b r i h;have h2:=List.length_filterMap_le (R.fnd (R.look N b r mk) b r mk) (List.range j);rw[K7]at h2;unfold a2N;rw[d8];omega
theorem b5x (N:Nand) (b r mk:Int) (i:Nat):a2N N b r mk i 0=a5z N b r i:=by simp[a2N]
theorem b5y (N:Nand) (b r mk:Int) (i j:Nat):a2N N b r mk i (j+1)=a2N N b r mk i j++(R.fnd (R.look N b r mk) b r mk j).toList:=by
 unfold a2N;rw[t6,V1,m9];congr 2
theorem b7D (N:Nand) (b r mk:Int) (i:Nat) (h:(M.masks N b r)[i]? =some mk):a2N N b r mk i (G.slots mk).toNat=a5z N b r (i+1):=by
 unfold a2N a5z;rw[D2,h,K8,K1];congr 1;rw[z7,List.flatMap_nil,l8,R.allM,(a0i N b r mk).1]
theorem c1f (p:Nat) (N:Nand) (hN:N.Ok) (hR:N.Room) (b r:Int):FP 101 [pp p,iI b,iI r] [C3 p N]
  (λv As=>∃a c,v=slv a (R.all N b r).length c/\As=[C3 p N,l9 180 25 a (R.all N b r).length c (H2 (R.all N b r))]):=by
 have hbd:=hN.bd;have hml:=a9X N b r;refine FE [2,0,0] Tryz.func101 λX F hX=>?_;refine J.qc (b4D p N hN hR b r) [1] λ_=>?_;rintro v As ⟨am,cm,rfl,rfl⟩;refine⟨_,rfl,trivial,?_⟩;refine J.turn1 [] rfl (As:=[l9 180 25 none 0 0 (H2 (a5z N b r 0))]) (λh s=>Sep.one ⟨rfl,rfl,rfl⟩) rfl ?_;refine J.q λ_=>?_;refine J.l (α:=(Nat×Option Nat×Nat)) (λz=>z.1<=(M.masks N b r).length) (λz=>[si 20 z.1,⟨19,iI (M.masks N b r).length,0, .tt⟩,sv 18 (slv am (M.masks N b r).length cm),sv 7 (slv z.2.1 (a5z N b r z.1).length z.2.2),⟨0,pp p,2, .tt⟩,si 1 b,si 2 r]) [3] (λz=>[l9 180 25 z.2.1 (a5z N b r z.1).length z.2.2 (H2 (a5z N b r z.1))]) (λz=>(M.masks N b r).length-z.1) ((0,none,0)) (j8 _) λz hI=>?_;obtain⟨i,ao,co⟩:=z;dsimp only at hI ⊢;refine J.qd (λ_ h1=>?_) λ_ h1=>?_
 ·simp only[d6,i6]at h1;refine J.know (λh' s=>D7 (c:=(am,cm)) (by omega) (s.get (i:=2) rfl)) λhg=>?_;obtain⟨gm,rfl⟩:=hg;obtain⟨mk,hmk⟩:∃mk,(M.masks N b r)[i]? =some mk:=⟨_,c9 h1⟩;refine J.q λ_=>?_;refine J.v (iI mk) rfl rfl (λhg a w he hw=>?_) ?_
  ·exact I4 tk rfl rfl he rfl rfl rfl (hw.get (i:=2) rfl) (by rw[show 0+(i:Int).toNat*1=i from by omega];exact a8T hmk)
  have hsb:=a0Q mk;have hlen:=a0i N b r mk;have hdat:=a2X hN b r mk;refine J.q λb7=>?_;refine J.cb (b7o p N hN hR b r mk) [1] ?_;rintro v As ⟨a1,c1,a2,c2,rfl,rfl⟩;refine⟨_,rfl,trivial,?_⟩;have hfnd:∀j,R.fnd (R.look N b r mk) b r mk j=if R.okAt (R.look N b r mk) j&&(R.enAt (R.look N b r mk) j).role !=3 then some ⟨R.enAt (R.look N b r mk) j,b,r,j,mk,(R.look N b r mk).whole,!((R.look N b r mk).good.getD j false)⟩else none:=λj=>rfl
  have hout:=b5y N b r mk i;have hz:=b5x N b r mk i;have hall:=b7D N b r mk i hmk;have hol:∀j,j<=7->(a2N N b r mk i j).length<=49:=λj hj=>b7C N b r mk i j (by omega) hj;have hnb:(G.slots mk).toNat<=7:=by omega
  rw[<- hz];generalize hf:R.look N b r mk=f at hlen hdat hfnd hout;generalize hn:(G.slots mk).toNat=n at hlen hall hnb;refine J.q λbbf=>?_;refine J.l (α:=(Nat×Option Nat×Nat)) (λz=>z.1<=n) (λz=>[si 32 z.1,si 31 n,sv 30 (slv a1 n c1),⟨10,pp (bbf 0),7, .tt⟩,si 9 mk,si 20 i,⟨19,iI (M.masks N b r).length,0, .tt⟩,sv 18 (slv (some gm) (M.masks N b r).length cm),sv 7 (slv z.2.1 (a2N N b r mk i z.1).length z.2.2),⟨0,pp p,2, .tt⟩,si 1 b,si 2 r]) [3] (λz=>[l9 180 25 z.2.1 (a2N N b r mk i z.1).length z.2.2 (H2 (a2N N b r mk i z.1))]) (λz=>n-z.1) ((0,ao,co)) (j8 _) λz hI=>?_;obtain⟨j,ao,co⟩:=z;dsimp only at hI ⊢;refine J.qd (λ_ h2=>?_) λ_ h2=>?_
  ·simp only[d6,i6]at h2;refine J.know (λh' s=>D7 (c:=(a1,c1)) (by omega) (s.get (i:=4) rfl)) λhg=>?_;obtain⟨g1,rfl⟩:=hg;refine J.know (λh' s=>D7 (c:=(a2,c2)) (by omega) (s.get (i:=5) rfl)) λhg=>?_;obtain⟨g2,rfl⟩:=hg;obtain⟨s,hs⟩:∃s,f.slots[j]? =some s:=⟨_,c9 (by omega)⟩;obtain⟨gk,hgd⟩:∃g,f.good[j]? =some g:=⟨_,c9 (by omega)⟩;have hgk:f.good.getD j false=gk:=by rw[d5,hgd,j4]
   have hsk:f.slots.getD j Sh.zero=s:=by rw[d5,hs,j4]
   refine J.q λ_=>?_;refine J.v (shV s) rfl rfl (λhg a w he hw=>?_) ?_
   ·exact M3 tk rfl rfl he rfl rfl rfl (hw.get (i:=4) rfl) (by rw[show 0+(j:Int).toNat*23=j*23 from by omega];exact a3D hs) rfl
   obtain⟨bb,hbb⟩:∃x,bbf 0=x:=⟨_,rfl⟩;rw[hbb];refine J.p (.take false 0 (.take true 2 (.take false 3 (.take true 4 (.take true 5 (.take false 6 (.alt false 1 ((.of [30,34,36])) (.alt false 7 ((.of [6,34,36])) .non)))))))) [9] [5,6,7] λ_=>?_;refine J.join (α:=Nat) (λx=>[sv 14 (.bool gk),⟨13,pp x,8, .tt⟩,si 11 j,si 32 j,si 31 n,sv 30 (slv (some g1) n c1),⟨10,pp bb,7, .tt⟩,si 9 mk,si 20 i,⟨19,iI (M.masks N b r).length,0, .tt⟩,sv 18 (slv (some gm) (M.masks N b r).length cm),sv 7 (slv ao (a2N N b r mk i j).length co),⟨0,pp p,2, .tt⟩,si 1 b,si 2 r]) (λx=>[.hp F,C3 p N,l9 3 1 (some gm) (M.masks N b r).length cm (B2 (M.masks N b r)),l9 180 25 ao (a2N N b r mk i j).length co (H2 (a2N N b r mk i j)),l9 212 23 (some g1) n c1 (J0 f.slots),l9 4 1 (some g2) n c2 (a0K f.good), .pt bb 214 (fdL (some g1) c1 (some g2) c2 n f.parity f.whole), .pt x 101 (enL s.en)]) (λhj=>?_) (λx=>?_)
   ·skip
    refine J.qn 5 λ_=>?_;refine J.vT (.bool gk) rfl rfl (λ_ a w he hC=>I4 tk rfl rfl he rfl rfl rfl (hC rfl _ (C0 (i:=5) rfl)) (by rw[show 0+(j:Int).toNat*1=j from by omega];exact a3F hgd)) ?_;refine J.alts ?_ ?_
    ·skip
     refine J.qp (b0U s) [] λ_=>?_;refine J.qn 1 λb7=>?_;refine J.qn 3 λ_=>?_;exact J.goto [0,1,2,3,4,5,6,8] (hj (b7 0)) ⟨rfl,rfl,rfl,rfl,rfl,rfl,rfl,rfl,rfl,rfl,rfl,rfl,rfl,rfl,rfl,trivial⟩ rfl rfl
    ·skip
     refine J.qn 1 λb7=>?_;refine J.qp (b0U s) [] λ_=>?_;refine J.qn 3 λ_=>?_;exact J.goto [0,1,2,3,4,5,6,8] (hj (b7 0)) ⟨rfl,rfl,rfl,rfl,rfl,rfl,rfl,rfl,rfl,rfl,rfl,rfl,rfl,rfl,rfl,trivial⟩ rfl rfl
   refine J.q λ_=>?_;refine J.join (α:=Unit) (λ_=>[sv 14 (.bool (R.okAt f j)),⟨13,pp x,8, .tt⟩,si 11 j,si 32 j,si 31 n,sv 30 (slv (some g1) n c1),⟨10,pp bb,7, .tt⟩,si 9 mk,si 20 i,⟨19,iI (M.masks N b r).length,0, .tt⟩,sv 18 (slv (some gm) (M.masks N b r).length cm),sv 7 (slv ao (a2N N b r mk i j).length co),⟨0,pp p,2, .tt⟩,si 1 b,si 2 r]) (λ_=>[.hp F,C3 p N,l9 3 1 (some gm) (M.masks N b r).length cm (B2 (M.masks N b r)),l9 180 25 ao (a2N N b r mk i j).length co (H2 (a2N N b r mk i j)),l9 212 23 (some g1) n c1 (J0 f.slots),l9 4 1 (some g2) n c2 (a0K f.good), .pt bb 214 (fdL (some g1) c1 (some g2) c2 n f.parity f.whole), .pt x 101 (enL (R.enAt f j))]) (λhj=>?_) (λ_=>?_)
   ·refine J.qd (λ_ h3=>?_) λ_ h3=>?_
    ·simp only[i4]at h3;subst h3;refine J.qp (b1Z f n (by omega) hlen.1 hlen.2 hdat.1 hdat.2 (some g1) (some g2) c1 c2 j) [4,5] λ_=>?_;rw[show R.okAt f j=R.mendB f j from by rw[R.okAt,hgk];rfl,show R.enAt f j=R.mend f j from by rw[R.enAt,hgk];rfl]at hj;refine J.qn 6 λ_=>?_;exact J.goto [0,1,2,3,4,5,6,7] (hj ()) ⟨rfl,rfl,rfl,rfl,rfl,rfl,rfl,rfl,rfl,rfl,rfl,rfl,rfl,rfl,rfl,trivial⟩ rfl rfl
    ·simp only[B5]at h3;subst h3;rw[show R.okAt f j=true from by rw[R.okAt,hgk];rfl,show R.enAt f j=s.en from by rw[R.enAt,hgk,d7 rfl,hsk]]at hj;refine J.qn 1 λ_=>?_;exact J.goto [0,1,2,3,4,5,6,7] (hj ()) ⟨rfl,rfl,rfl,rfl,rfl,rfl,rfl,rfl,rfl,rfl,rfl,rfl,rfl,rfl,rfl,trivial⟩ rfl rfl
   have hf1:=hfnd j;have ho1:=hout j;have hol1:=hol j (by omega);generalize R.okAt f j=ok at hf1;generalize R.enAt f j=e at hf1;refine J.qd (λ_ h4=>?_) λ_ h4=>?_
   ·rw[d7 h4,hgk]at hf1;rw[hf1,K8]at ho1;have hsl:(a2N N b r mk i j).length+1=(a2N N b r mk i (j+1)).length:=by rw[ho1,d8];rfl
    refine J.pn 14 (.of [0,5,8,12,16,20,24,28,33,36,41,44,48,53,56,60,66,70,72]) [18] [5,6,7] λ_ _=>?_;refine J.vT (.bool gk) rfl rfl (λ_ a w he hC=>I4 tk rfl rfl he rfl rfl rfl (hC rfl _ (C0 (i:=5) rfl)) (by rw[show 0+(j:Int).toNat*1=j from by omega];exact a3F hgd)) ?_;refine J.q λ_=>?_;refine J.ap 3 8 0 ((a4o _ _).symm.trans (congrArg H2 ho1.symm)) λa4 c4=>?_;rw[hsl];refine J.q λ_=>?_;rw[<- hbb];refine J.q λ_=>?_;refine J.n ((j+1,a4,c4)) (by dsimp only;omega) (by dsimp only;omega) [0,1,2,3,4,5,6]
   ·rw[d4 (by rw[h4];exact l4)]at hf1;rw[hf1,Option.toList_none,l8]at ho1;rw[<- ho1];refine J.q λ_=>?_;rw[<- hbb];refine J.q λ_=>?_;refine J.n ((j+1,ao,co)) (by dsimp only;omega) (by dsimp only;omega) [0,1,2,3,4,5,6]
  ·simp only[c8,i6]at h2;obtain rfl:j=n:=by omega
   rw[hall];refine J.q λ_=>?_;refine J.n ((i+1,ao,co)) (by dsimp only;omega) (by dsimp only;omega) [0,1,2,3]
 ·simp only[c8,i6]at h1;obtain rfl:i=(M.masks N b r).length:=by omega
  have:a5z N b r (M.masks N b r).length=R.all N b r:=by unfold a5z R.all;rw[T6]
  rw[this];refine J.qr [1,3] λ_=>?_;exact⟨ao,co,rfl,rfl⟩
theorem b8D (b r:Int) {mm:Nat}:∀(q:List (Int×Sh)) (N:Nand) (f:Int) (k:Nat),(∀x∈q,x.2.data.length=16)->N.Gd (q.length+k) mm->(R.go b r q N f).1.Gd k mm
 | [],N,f,k,_,h=>by rw[R.go];exact h.less (by simp) (j3 _)
 | (d,s)::q,N,f,k,hd,h=>by
  have h1:(N.progN d b r (P7 s)).Gd (q.length+k) mm:=Nand.Gd.prog (h.less (by rw[l6];omega) (j3 _)) d b r _ (a3Z s (hd (d,s) (by simp)));have hd':∀x∈q,x.2.data.length=16:=λx hx=>hd x (by simp[hx]);rw[R.go];split
  ·exact b8D b r q _ _ k hd' h1
  ·split
   ·exact h1.less (by omega) (j3 _)
   ·exact b8D b r q _ _ k hd' h1
theorem b8j {b r m:Int} {l:List En} (hd:∀s∈l,s.data.length=16):∀x∈R.job b r m l,x.2.data.length=16:=by
 intro x hx;simp only[R.job,M4,Q5,J4,J3]at hx;rcases hx with⟨k,hk,rfl⟩ | rfl
 ·refine hd _ ?_;rw[d5,c9 hk];exact I2 _
 ·exact a3b (λt ht=>by obtain⟨e,he,rfl⟩:=List.mem_map.1 ht;exact hd e he) _ rfl
theorem a2a {b r m:Int} {l:List En} (h:W.parB b r m l=true):(l.length:Int)=G.slots m/\1<=l.length/\l.length<=7/\∀e∈l,W.ok b r m e=true:=by
 simp only[W.parB,f8,d6,E8]at h;have:=a0Q m;refine⟨h.1.1,?_,by omega,h.2⟩;cases l with
 | nil=>simp at h
 | cons x l=>simp
theorem a5l {N:Nand} {b r m:Int} {l:List En} {k mm:Nat} (hd:∀s∈l,s.data.length=16) (h:N.Gd (8+k) mm):(R.write N b r m l).1.Gd k mm:=by
 unfold R.write;split
 ·rename_i hB;have:=a2a hB;exact b8D b r _ _ _ k (b8j hd) (h.less (by rw[a4z];omega) (j3 _))
 ·exact h.less (by omega) (j3 _)
theorem b1h (b r:Int):∀(q:List (Int×Sh)) (N:Nand) (f:Int),N.Like (R.go b r q N f).1
 | [],N,f=>by rw[R.go];exact Nand.Like.refl N
 | (d,s)::q,N,f=>by
  rw[R.go];split
  ·exact(Nand.like_prog _ _ _ _ _).trans (b1h b r q _ _)
  ·split
   ·exact Nand.like_prog _ _ _ _ _
   ·exact(Nand.like_prog _ _ _ _ _).trans (b1h b r q _ _)
theorem b3f (N:Nand) (b r m:Int) (l:List En):N.Like (R.write N b r m l).1:=by
 unfold R.write;split
 ·exact b1h b r _ _ _
 ·exact Nand.Like.refl N
end
section
namespace Tl
def clean (t:Tl) (k:Int) (on:Bool):Tl:=t.set k {t.at_ k with used:=!on}
def hold (t:Tl) (k:Int) (on:Bool):Tl:=t.set k {t.at_ k with held:=on}
def die (t:Tl) (d:Int):Tl:=if t.hasDie d=true then⟨t.d,t.b,t.p,t.l,L.with_ t.dead d⟩else t
end Tl
def En.pad:En:=⟨0,0,3,zeros16⟩
structure Dv where
 N:Nand
 t:Tl
 T:Tb
 op:Int
 row:Int
 mask:Int
 next:Int
namespace Dv
def pick (S:Dv):Int:=a0E (λx y=>R7 (S.t.wear x) (S.t.wear y)) (t7 (U1 S.t S.T) S.op S.t.b)
def left (S:Dv):Bool:=decide (S.op>=0)&&decide (S.row<S.N.pages)&&decide (G.slots S.mask>0)
def slots (S:Dv):Int:=if S.left then G.slots S.mask else G.slots (S.t.mask S.pick)
def opened (S:Dv):Dv:={S with t:=S.t.clean S.pick false,op:=S.pick,row:=0,mask:=(S.t.clean S.pick false).mask S.pick}
def lose (f:Int) (S:Dv) (d:Nat):Dv:=
 if L.has f d then
  {S with t:=if S.N.deadAt d then S.t.die d else S.t.bad d S.op,mask:=L.without S.mask d}
 else S
def loses (S:Dv) (f:Int):Dv:=(List.range S.N.dies).foldl (lose f) S
def numAt (l:List En) (next:Int) (k:Nat):En:=if k<l.length then {l.getD k En.zero with seq:=next+k}else En.pad
def num (l:List En) (next:Int) (n:Nat):List En:=(List.range n).map (numAt l next)
def puts (T:Tb) (b r m:Int) (es:List En) (k:Nat):Tb:=(List.range k).foldl (λT (i:Nat)=>T.put (es.getD i En.zero) b r i m) T
def fit (S:Dv) (l:List En):Nat:=min l.length (G.slots S.mask).toNat
def es (S:Dv) (l:List En):List En:=num l S.next (G.slots S.mask).toNat
def wr (S:Dv) (l:List En):Nand×Int×Int:=R.write S.N S.op S.row S.mask (S.es l)
def wrote (S:Dv) (l:List En):Dv:={S with N:=(S.wr l).1,row:=S.row+1,next:=S.next+S.fit l}
def write:Nat->Dv->List En->Dv×Int×Int
 | 0,S,_=>(S,0,0)
 | k+1,S,l=>
  if l.length=0 then(S,0,0)
  else if S.left=false/\S.pick<0 then(S,0,11)
  else
   let S1:=if S.left then S else S.opened
   if S1.next>1099511627775-(S1.fit l:Int)+1 then(S1,0,11)
   else if(S1.wr l).2.2=1 then({S1 with next:=S1.next+S1.fit l,N:=(S1.wr l).1},0,1)
   else if(S1.wr l).2.2=0 then({S1.wrote l with T:=puts S1.T S1.op S1.row S1.mask (S1.es l) (S1.fit l)},S1.fit l,0)
   else if(S1.wr l).2.2=9 then(S1.wrote l,0,9)
   else write k ((S1.wrote l).loses (S1.wr l).2.1) l
def fuel:Nat:=160
def pen (S:Dv) (l:List En):Dv×Int×Int:=write fuel S l
def rd (S:Dv) (i:Int):En×Int:=
 let a:=(Tb.look S.T.at_ i).getD AtV.zero
 let x:=R.read S.N a.block a.row a.slot a.mask
 if x.2=9 then(En.zero,9)
 else if x.2≠0\/x.1.lpn≠i\/x.1.seq≠a.seq then(⟨i,0,4,zeros16⟩,0)
 else(x.1,0)
def rds (S:Dv):List Int->List En×Int
 | []=>([],0)
 | i::l=>if(S.rd i).2≠0 then([],(S.rd i).2)else((S.rd i).1::(rds S l).1,(rds S l).2)
def carryGo:Nat->Dv->List Int->Int->Dv×Int×Int
 | 0,S,_,done=>(S,done,0)
 | k+1,S,l,done=>
  if l.length=0 then(S,done,0)
  else
   let r:=S.rds (l.take (max S.slots 1).toNat)
   if r.2≠0 then(S,done,r.2)
   else
    let w:=S.pen r.1
    if w.2.2≠0 then(w.1,done+w.2.1,w.2.2)
    else carryGo k w.1 (l.drop w.2.1.toNat) (done+w.2.1)
def carry (S:Dv) (b most:Int):Dv×Int×Int:=
 let l:=(S.T.ins b).take (max most 0).toNat
 carryGo l.length S l 0
def eraseD (b m:Int) (x:Nand×Tl×Int) (d:Nat):Nand×Tl×Int:=
 if x.2.2≠0 then x
 else if L.has m d=false then x
 else
  let e:=x.1.eraseE d b
  (x.1.eraseN d b,if e=0 then x.2.1 else if e=9 then x.2.1 else if e=8 then x.2.1.die d else x.2.1.bad d b,if e=9 then 9 else 0)
def eraseB (N:Nand) (t:Tl) (b:Int):Nand×Tl×Int:=(List.range N.dies).foldl (eraseD b (t.mask b)) (N,t,0)
def wores (N:Nand) (t:Tl) (b:Int):Tl:=(List.range N.dies).foldl (λt (d:Nat)=>t.wore b (N.wornAt d b)) t
def eraseT (N:Nand) (t:Tl) (b:Int):Tl:=if(wores N t b).usable b then(wores N t b).clean b true else wores N t b
def erase (N:Nand) (t:Tl) (b:Int):Nand×Tl×Int:=
 let x:=eraseB N t b
 if x.2.2≠0 then x else(x.1,eraseT x.1 x.2.1 b,0)
def clearGo:List Int->Nand->Tl->Nand×Tl×Int
 | [],N,t=>(N,t,0)
 | b::l,N,t=>
  let x:=erase N t b
  if x.2.2≠0 then x else clearGo l x.1 x.2.1
def clearX (N:Nand) (t:Tl) (T:Tb) (o:Int):Nand×Tl×Int:=clearGo (t7 (D3 t T) o t.b) N t
def clear(S:Dv):Dv×Int:=
 let x:=clearX S.N S.t S.T S.op
 ({S with N:=x.1,t:=x.2.1},x.2.2)
def victim (S:Dv):Int:=a0E (λx y=>orI [R7 (S.T.count x) (S.T.count y),R7 (S.t.wear x) (S.t.wear y)]) (t7 (Q8 S.t S.T) S.op S.t.b)
def free (S:Dv):Nat:=(t7 (U1 S.t S.T) S.op S.t.b).length
def roomGo:Nat->Dv->Dv×Int
 | 0,S=>(S,0)
 | k+1,S=>
  if(S.free:Int)>4 then(S,0)
  else if S.victim<0\/S.T.count S.victim>=S.t.p*G.slots (S.t.mask S.victim)then(S,0)
  else
   let c:=S.carry S.victim (S.T.count S.victim)
   if c.2.2≠0 then(c.1,c.2.2)
   else
    let d:=c.1.clear
    if d.2≠0 then d else roomGo k d.1
def room (S:Dv):Dv×Int:=if S.clear.2≠0 then S.clear else roomGo S.t.b S.clear.1
def hurts (S:Dv):List Int:=t7 (a1i S.t S.T) (-1) S.t.b
def leftN (S:Dv):Int:=(S.hurts.map S.T.count).sum
def seeDead (N:Nand) (t:Tl):Tl:=(List.range t.d).foldl (λt (d:Nat)=>if N.deadAt d then t.die d else t) t
def seen (S:Dv):Dv:={S with t:=seeDead S.N S.t}
def step (S:Dv) (most:Int):Dv×Int×Int:=
 let r:=S.seen.room
 if r.2≠0 then(r.1,0,r.2)
 else match r.1.hurts with
  | []=>(r.1,0,0)
  | b::_=>r.1.carry b most
def tornGo:Nat->Dv->List En->Dv×Int
 | 0,S,_=>(S,0)
 | k+1,S,l=>
  if l.length=0 then(S,0)
  else
   let r:=S.room
   if r.2≠0 then r
   else
    let w:=r.1.pen l
    if w.2.2≠0 then(w.1,w.2.2)else tornGo k w.1 (l.drop w.2.1.toNat)
def torn (S:Dv) (l:List En):Dv×Int:=tornGo l.length S l
end Dv
end
section
open Go.RowKit
set_option maxRecDepth 100000 in
theorem c2x (w:World):Calls Tryz.prog 309 #[.int .i64 (-1)] w λe w'=>e= .returned (.int .u64 1)/\w=w':=by
 go_enter Tryz.func309,Tryz.ntmps309
 go_wp2
 go_ret
 exact⟨by kernel_rfl,rfl⟩
set_option maxRecDepth 100000 in
theorem c2A (w:World):Calls Tryz.prog 310 #[.int .u64 1] w λe w'=>e= .returned (.int .i64 (-1))/\w=w':=by
 go_enter Tryz.func310,Tryz.ntmps310
 go_wp2
 go_ret
 exact⟨by kernel_rfl,rfl⟩
set_option maxRecDepth 100000 in
theorem b7K (w:World):Calls Tryz.prog 311 #[.int .i64 255, .int .i64 8] w λe w'=>e= .returned (.int .i64 (-1))/\w=w':=by
 go_enter Tryz.func311,Tryz.ntmps311
 go_wp2
 go_ret
 exact⟨by kernel_rfl,rfl⟩
set_option maxRecDepth 100000 in
theorem b7J (w:World):Calls Tryz.prog 311 #[.int .i64 1, .int .i64 0] w λe w'=>e= .returned (.int .i64 0)/\w=w':=by
 go_enter Tryz.func311,Tryz.ntmps311
 go_wp2
 go_ret
 exact⟨by kernel_rfl,rfl⟩
end
section
open Go Go.RowKit
def nk (k:Nat):Nat:=match k with | 0=>0 | _+1=>1
theorem c2r (g:Nat):FP 236 [pp g, .int .u64 2,iI 1] [a5R g ([]++Bt.bits 5 3)]
  (Ps (.bool false) [a5R g ([]++Bt.bits 5 3)]):=by
 refine FE [2,0,0] Tryz.func236 λX F hX=>?_;refine J.qp (b4U 1) [] λ_=>?_;refine J.o (α:=(Option Nat×Nat)) 1 λx=>?_;refine J.qT λ_=>?_;refine J.cl (b2i g ([]++Bt.bits 5 3)) x [1,2] ?_;exact J.qx [1]
theorem c2S (g:Nat) (l:List Bool):FP 313 [pp g] [a5R g l]
  (Ps (iI l.length) [a5R g l]):=by
 refine FE [2] Tryz.func313 λX F hX=>?_;refine J.qF λ_=>?_;refine J.o (α:=(Option Nat×Nat)) 1 λx=>?_;refine J.q λ_=>?_;refine J.cl (b2i g l) x [1,2] ?_;exact J.qx [1]
theorem c2s (g b:Nat):FP 242 [pp g,iI 9] [.pt g 319 [.slice (some ⟨b,0,none⟩) 1 1,iI 4]]
  (Ps (.tuple #[.int .u64 0, .bool false]) [.pt g 319 [.slice (some ⟨b,0,none⟩) 1 1,iI 4]]):=by
 refine FE [2,0] Tryz.func242 λX F hX=>?_;refine J.qp (b4U 9) [] λ_=>?_;refine J.qp (b3W g (some ⟨b,0,none⟩) 1 1 4 (by decide) (by decide)) [1] λ_=>?_;refine J.qT λ_=>?_;exact J.qx [1]
theorem c2t (g b:Nat):FP 242 [pp g,iI 4] [.pt g 319 [.slice (some ⟨b,0,none⟩) 1 1,iI 0], .pt b 5 [.int .u8 165]]
  (Ps (.tuple #[.int .u64 10, .bool true]) [.pt g 319 [.slice (some ⟨b,0,none⟩) 1 1,iI 4], .pt b 5 [.int .u8 165]]):=by
 have:=b9b g (.pt b 5 [.int .u8 165]) (some ⟨b,0,none⟩) 1 1 [165] (a3K b _ _ 1 1 rfl) rfl (by decide) 0 4 (by decide) (by decide) (by decide);rw[show((Bt.numAt [165] 0 4:Nat):Int)=10 from by decide+kernel]at this;exact this
theorem c2X:FP 239 [.slice none 0 0] [] (Ps (.int .u32 4294967295) []):=by
 refine FE [0] Tryz.func239 λX F hX=>?_;refine J.q λ_=>?_;refine J.l (α:=Nat) (λk=>k<=0) (λk=>[si 8 0,si 7 0,⟨3, .int .u32 4294967295,0, .tt⟩]) [] (λk=>[]) (λk=>0) (0) (j8 _) λk hI=>?_;refine J.qF λ_=>?_;exact J.qx []
theorem c1V:FP 261 [.int .u32 0, .int .u8 128] [] (Ps (.int .u32 (K.step 0 128:Nat)) []):=Fn.of_same (b0d 0 128 (by decide) (by decide))
end
end Go.Proofs.YtmafiplddapokaaGreat
