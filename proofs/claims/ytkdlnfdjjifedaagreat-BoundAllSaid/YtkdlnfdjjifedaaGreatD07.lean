/- Helpers, proved here. No condition. -/
import Derived.Test.YtkdlnfdjjifedaaGreatD06
set_option maxRecDepth 20000
set_option linter.all false
namespace Go.Proofs.YtkdlnfdjjifedaaGreat
open Go Go.RowKit
def byC (l:List UInt8) (k:Nat):Value:=bv (l.getD k 0)
def dataC (l:List UInt8):List Value:=[byC l 0,byC l 1,byC l 2,byC l 3,byC l 4,byC l 5,byC l 6,byC l 7,byC l 8,byC l 9,byC l 10,byC l 11,byC l 12,byC l 13,byC l 14,byC l 15]
def pageC (l:List UInt8):List Value:=[byC l 0,byC l 1,byC l 2,byC l 3,byC l 4,byC l 5,byC l 6,byC l 7,byC l 8,byC l 9,byC l 10,byC l 11,byC l 12,byC l 13,byC l 14,byC l 15,byC l 16,byC l 17,byC l 18,byC l 19,byC l 20,byC l 21,byC l 22,byC l 23,byC l 24,byC l 25,byC l 26,byC l 27,byC l 28,byC l 29,byC l 30,byC l 31]
def NCell.vals (c:NCell):List Value:=[byC c.p 0,byC c.p 1,byC c.p 2,byC c.p 3,byC c.p 4,byC c.p 5,byC c.p 6,byC c.p 7,byC c.p 8,byC c.p 9,byC c.p 10,byC c.p 11,byC c.p 12,byC c.p 13,byC c.p 14,byC c.p 15,byC c.p 16,byC c.p 17,byC c.p 18,byC c.p 19,byC c.p 20,byC c.p 21,byC c.p 22,byC c.p 23,byC c.p 24,byC c.p 25,byC c.p 26,byC c.p 27,byC c.p 28,byC c.p 29,byC c.p 30,byC c.p 31, .bool c.lost, .bool c.turned]
def cellsV (l:List NCell):List Value:=l.flatMap NCell.vals
structure NLoc where
 r:Nat
 q:Nat
 d:Nat
 bp:Nat->Nat
def Nand.mainV (N:Nand) (Y:NLoc):List Value:=
 [.int .i64 N.dies, .int .i64 N.blocks, .int .i64 N.pages, .map (some Y.r), .pointer (some ⟨Y.q,0,none⟩), .slice (some ⟨Y.d,0,none⟩) N.dies N.dies, .bool N.off, .int .i64 N.ops, .int .i64 N.broken, .bool N.cuts, .int .i64 N.left, .int .i64 N.keep]
def blkA (b:Nat) (B:NBlock):Atom:=exA λa:Option Nat×Nat=>
 [.pt b 112 [slv a.1 B.cells.length a.2, .int .i64 B.worn, .bool B.fails, .bool B.met],ownA 168 34 a.1 B.cells.length a.2 (cellsV B.cells)]
def bmap (nb n:Nat) (bp:Nat->Nat):List (A3×Value):=(List.range n).map λk=>((((k/nb:Nat):Int),((k % nb:Nat):Int),0), .pointer (some ⟨bp k,0,none⟩))
def blksL (nb n:Nat) (bp:Nat->Nat) (f:Nat->Nat->NBlock):List Atom:=(List.range n).map λk=>blkA (bp k) (f (k/nb) (k % nb))
def nandL (p:Nat) (N:Nand) (Y:NLoc):List Atom:=
 [.pt p 107 (N.mainV Y),mapA Y.r a3v (bmap N.blocks (N.dies*N.blocks) Y.bp),SpotA Y.q N.plan, .pt Y.d 4 (N.dead.map Value.bool), .hp (HP.of (blksL N.blocks (N.dies*N.blocks) Y.bp N.blk))]
def NandA (p:Nat) (N:Nand):Atom:=exA (nandL p N)
theorem alook_bmap (nb:Nat) (bp:Nat->Nat) (i j:Nat) (hj:j<nb):∀n,alook (bmap nb n bp) ((i:Int),(j:Int),0)=if i*nb+j<n then some (.pointer (some ⟨bp (i*nb+j),0,none⟩))else none:=by
 have hnb:0<nb:=by omega
 have key:∀(m k:Nat),alook ((List.range' m k).map λk=>((((k/nb:Nat):Int),((k % nb:Nat):Int),(0:Int)),Value.pointer (some ⟨bp k,0,none⟩))) ((i:Int),(j:Int),0)=if m<=i*nb+j/\i*nb+j<m+k then some (.pointer (some ⟨bp (i*nb+j),0,none⟩))else none:=by
  intro m k
  induction k generalizing m with
  | zero=>simp[alook]
  | succ k ih=>
   rw[List.range'_succ,List.map_cons,alook]
   by_cases e:m=i*nb+j
   ·subst e;rw[if_pos,if_pos (by omega)];have h1:(i*nb+j)/nb=i:=by rw[Nat.add_comm,Nat.mul_comm,Nat.add_mul_div_left _ _ hnb,Nat.div_eq_of_lt hj,Nat.zero_add]
    have h2:(i*nb+j) % nb=j:=by rw[Nat.add_comm,Nat.add_mul_mod_self_right];exact Nat.mod_eq_of_lt hj
    rw[h1,h2]
   ·rw[if_neg,ih]
    ·by_cases h:m+1<=i*nb+j/\i*nb+j<m+1+k
     ·rw[if_pos h,if_pos (by omega)]
     ·rw[if_neg h,if_neg (by omega)]
    ·intro h;simp only[Prod.mk.injEq,Int.natCast_inj,and_true]at h;apply e;rw[h.1,h.2,Nat.mul_comm];exact(Nat.div_add_mod m nb).symm
 intro n;have:=key 0 n;simpa[bmap,List.range_eq_range']using this
theorem alook_bmap_out (nb:Nat) (hnb:0<nb) (bp:Nat->Nat) (a:A3) (n:Nat) (h:∀i j:Nat,i*nb+j<n->j<nb->a≠((i:Int),(j:Int),0)):alook (bmap nb n bp) a=none:=by
 have key:∀(l:List Nat),(∀k∈l,k<n)->alook (l.map λk=>((((k/nb:Nat):Int),((k % nb:Nat):Int),(0:Int)),Value.pointer (some ⟨bp k,0,none⟩))) a=none:=by
  intro l
  induction l with
  | nil=>intro _;rfl
  | cons k l ih=>
   intro hl;rw[List.map_cons,alook,if_neg,ih (λk' hk'=>hl k' (List.mem_cons_of_mem _ hk'))];refine h (k/nb) (k % nb) ?_ (Nat.mod_lt _ hnb);have:=Nat.div_add_mod k nb;rw[Nat.mul_comm]at this;rw[this];exact hl k (List.mem_cons_self ..)
 exact key _ (λk hk=>by simpa using hk)
theorem Sep.openAt {BL:List Atom} {h:Hl} {k:Nat} {A:Atom} (s:Sep [.hp (HP.of BL)] h) (hk:BL[k]? =some A):Sep [.hp (HP.of (BL.set k .emp)),A] h:=by
 obtain⟨own,hw⟩:=Sep.hpOf.1 s;refine⟨λb=>if own b=k then 1 else 0,λj B hB=>?_⟩
 match j with
 | 0=>
  simp at hB;subst hB;refine⟨own,λi C hC=>?_⟩;rw[List.getElem?_set]at hC;split at hC
  ·split at hC
   ·simp at hC;subst hC;trivial
   ·cases hC
  ·rename_i hne;refine Atom.up (λb o hb=>?_) (hw i C hC);rw[res_some]at hb ⊢;exact⟨hb.1,res_some.2 ⟨by rw[if_neg (by rw[hb.1];exactλe=>hne e.symm)],hb.2⟩⟩
 | 1=>
  simp at hB;subst hB;refine Atom.up (λb o hb=>?_) (hw k _ hk);rw[res_some]at hb ⊢;exact⟨by rw[if_pos hb.1],hb.2⟩
 | j+2=>simp at hB
theorem Sep.closeAt {BL:List Atom} {h:Hl} {k:Nat} {A:Atom} (s:Sep [.hp (HP.of (BL.set k .emp)),A] h):Sep [.hp (HP.of (BL.set k A))] h:=by
 obtain⟨own,hw⟩:=s;obtain⟨own2,hw2⟩:=hw 0 _ rfl;refine Sep.hpOf.2 ⟨λb=>if own b=0 then own2 b else k,λj B hB=>?_⟩;rw[List.getElem?_set]at hB;split at hB
 ·rename_i e;split at hB
  ·injection hB with hB;subst hB;subst e;refine Atom.up (λb o hb=>?_) (hw 1 _ rfl);rw[res_some]at hb ⊢;exact⟨by rw[if_neg (by omega)],hb.2⟩
  ·cases hB
 ·rename_i hne;refine Atom.up (λb o hb=>?_) (hw2 j B (by rw[List.getElem?_set,if_neg hne];exact hB));rw[res_some]at hb ⊢;have:=res_some.1 hb.2;exact⟨by rw[if_pos this.1];exact hb.1,this.2⟩
section
variable {X : Cx} {K : List KI} {E : Env} {L : List Atom}
theorem J.openAt {BL L':List Atom} (i k:Nat) {A:Atom} (ok:okIdx L [i]=true) (hp:picks L [i]=[.hp (HP.of BL)]) (hk:BL[k]? =some A) (hL:lupd L [i] [.hp (HP.of (BL.set k .emp)),A]=some L') (h:J X K E L'):J X K E L:=
 J.turn1 [i] ok (λh' s=>by rw[hp]at s;exact s.openAt hk) hL h
theorem J.closeAt {BL L':List Atom} (i j k:Nat) {A:Atom} (ok:okIdx L [i,j]=true) (hp:picks L [i,j]=[.hp (HP.of (BL.set k .emp)),A]) (hL:lupd L [i,j] [.hp (HP.of (BL.set k A))]=some L') (h:J X K E L'):J X K E L:=
 J.turn1 [i,j] ok (λh' s=>by rw[hp]at s;exact s.closeAt) hL h
end
theorem blksL_get (nb n:Nat) (bp:Nat->Nat) (f:Nat->Nat->NBlock) (k:Nat) (h:k<n):(blksL nb n bp f)[k]? =some (blkA (bp k) (f (k/nb) (k % nb))):=by simp[blksL,h]
theorem div_ij {i j nb:Nat} (hj:j<nb):(i*nb+j)/nb=i/\(i*nb+j) % nb=j:=by
 have hnb:0<nb:=by omega
 exact⟨by rw[Nat.add_comm,Nat.mul_comm,Nat.add_mul_div_left _ _ hnb,Nat.div_eq_of_lt hj,Nat.zero_add],by rw[Nat.add_comm,Nat.add_mul_mod_self_right];exact Nat.mod_eq_of_lt hj⟩
theorem lt_ij {i j d nb:Nat} (hi:i<d) (hj:j<nb):i*nb+j<d*nb:=by
 have:(i+1)*nb<=d*nb:=Nat.mul_le_mul_right nb hi;rw[Nat.succ_mul]at this;omega
theorem blksL_set (nb n:Nat) (bp:Nat->Nat) (f:Nat->Nat->NBlock) (i j:Nat) (B:NBlock) (hj:j<nb):(blksL nb n bp f).set (i*nb+j) (blkA (bp (i*nb+j)) B)=blksL nb n bp (λa b=>if a=i/\b=j then B else f a b):=by
 apply List.ext_getElem?;intro k;rw[List.getElem?_set];have hlen:(blksL nb n bp f).length=n:=by simp[blksL]
 have hg:∀g k,(blksL nb n bp g)[k]? =if k<n then some (blkA (bp k) (g (k/nb) (k % nb)))else none:=λg k=>by
  by_cases hk:k<n
  ·rw[blksL_get _ _ _ _ _ hk,if_pos hk]
  ·rw[if_neg hk,List.getElem?_eq_none (by simp[blksL];omega)]
 rw[hlen,hg,hg]
 by_cases e:i*nb+j=k
 ·subst e;rw[if_pos rfl]
  by_cases hk:i*nb+j<n
  ·rw[if_pos hk,if_pos hk,(div_ij hj).1,(div_ij hj).2,if_pos ⟨rfl,rfl⟩]
  ·rw[if_neg hk,if_neg hk]
 ·rw[if_neg e]
  by_cases hk:k<n
  ·rw[if_pos hk,if_pos hk,if_neg];rintro⟨rfl,rfl⟩;apply e;have:=Nat.div_add_mod k nb;rw[Nat.mul_comm]at this;exact this
  ·rw[if_neg hk,if_neg hk]
theorem dataC_eq (l:List UInt8) (h:l.length=16):dataC l=l.map bv:=by
 match l,h with
 | [a0,a1,a2,a3,a4,a5,a6,a7,a8,a9,a10,a11,a12,a13,a14,a15],_=>rfl
theorem pageC_eq (l:List UInt8) (h:l.length=32):pageC l=l.map bv:=by
 match l,h with
 | [a0,a1,a2,a3,a4,a5,a6,a7,a8,a9,a10,a11,a12,a13,a14,a15,a16,a17,a18,a19,a20,a21,a22,a23,a24,a25,a26,a27,a28,a29,a30,a31],_=>rfl
theorem cellsV_len:∀(l:List NCell),(cellsV l).length=l.length*34
 | []=>rfl
 | c::l=>by
  have:=cellsV_len l;simp only[cellsV,List.flatMap_cons,List.length_append,List.length_cons]at this ⊢;rw[this,show c.vals.length=34 from rfl];omega
theorem cellsV_at:∀(l:List NCell) (r:List Value) (z:Nat) (c:NCell),l[z]? =some c->((cellsV l++r).drop (z*34)).take 34=c.vals
 | [],r,z,c,h=>by simp at h
 | x::l,r,0,c,h=>by
  simp at h;subst h;simp only[cellsV,List.flatMap_cons,List.append_assoc,Nat.zero_mul,List.drop_zero];have:=List.take_left (l₁:=x.vals) (l₂:=List.flatMap NCell.vals l++r);exact this
 | x::l,r,z+1,c,h=>by
  have:=cellsV_at l r z c (by simpa using h);simp only[cellsV,List.flatMap_cons,List.append_assoc,Nat.succ_mul]at this ⊢;rw[show z*34+34=x.vals.length+z*34 from by show _=34+_;omega,<- List.drop_drop,List.drop_left];exact this
theorem cellsV_page {l:List NCell} {z:Nat} {c:NCell} (h:l[z]? =some c):((cellsV l).drop (z*34)).take 32=pageC c.p:=by
 have h1:=cellsV_at l [] z c h;rw[List.append_nil]at h1;have:=congrArg (List.take 32) h1;rw[List.take_take]at this;exact this
theorem cellsV_cell {l:List NCell} {z k:Nat} {c:NCell} (h:l[z]? =some c) (hk:k<34):(cellsV l)[z*34+k]? =c.vals[k]?:=by
 have h1:=cellsV_at l [] z c h;rw[List.append_nil]at h1;rw[<- h1,List.getElem?_take,if_pos hk,List.getElem?_drop]
theorem J.closeN {X:Cx} {K:List KI} {E:Env} {L L':List Atom} (p:Nat) (N N':Nand) (Y:NLoc) (i j:Nat) (hj:j<N.blocks) (B:NBlock) (c:Option Nat×Nat) (is:List Nat) (ok:okIdx L is=true)
  (hp:picks L is=[.pt p 107 (N'.mainV Y),mapA Y.r a3v (bmap N.blocks (N.dies*N.blocks) Y.bp),SpotA Y.q N'.plan, .pt Y.d 4 (N'.dead.map Value.bool), .hp (HP.of ((blksL N.blocks (N.dies*N.blocks) Y.bp N.blk).set (i*N.blocks+j) .emp)),
   .pt (Y.bp (i*N.blocks+j)) 112 [slv c.1 B.cells.length c.2, .int .i64 B.worn, .bool B.fails, .bool B.met],ownA 168 34 c.1 B.cells.length c.2 (cellsV B.cells)])
  (h1:N'.dies=N.dies) (h2:N'.blocks=N.blocks) (hB:N'.blk=λa b=>if a=i/\b=j then B else N.blk a b) (hL:lupd L is [NandA p N']=some L') (h:J X K E L'):J X K E L:=by
 refine J.turn1 is ok (λh' s=>?_) hL h;rw[hp]at s;have s1:=s.turn1 [5,6] rfl (As:=[blkA (Y.bp (i*N.blocks+j)) B]) (λh2 s2=>⟨λ_=>0,λk A hA=>by
  cases k with
  | zero=>simp at hA;subst hA;exact⟨c,s2.up λb o hb=>res_some.2 ⟨rfl,hb⟩⟩
  | succ k=>simp at hA⟩)
 have s2:=s1.turn1 [4,5] rfl (As:=[.hp (HP.of ((blksL N.blocks (N.dies*N.blocks) Y.bp N.blk).set (i*N.blocks+j) (blkA (Y.bp (i*N.blocks+j)) B)))]) (λh2 s2=>Sep.closeAt s2);rw[blksL_set _ _ _ _ _ _ _ hj,<- hB]at s2;have s3:=s2.sub [0,1,2,3,4] rfl;refine⟨λ_=>0,λk A hA=>?_⟩;cases k with
 | zero=>
  simp at hA;subst hA;refine⟨Y,?_⟩;have:nandL p N' Y=[.pt p 107 (N'.mainV Y),mapA Y.r a3v (bmap N.blocks (N.dies*N.blocks) Y.bp),SpotA Y.q N'.plan, .pt Y.d 4 (N'.dead.map Value.bool), .hp (HP.of (blksL N.blocks (N.dies*N.blocks) Y.bp N'.blk))]:=by rw[nandL,h1,h2]
  rw[this];exact s3.up λb o hb=>res_some.2 ⟨rfl,hb⟩
 | succ k=>simp at hA
theorem blk_same (f:Nat->Nat->NBlock) (i j:Nat):f=λa b=>if a=i/\b=j then f i j else f a b:=by
 funext a b;split
 ·rename_i h;rw[h.1,h.2]
 ·rfl
theorem f_In (d b p x y z:Int) (hd:0<=d/\d<=1000000) (hb:0<=b/\b<=1000000) (hp:0<=p/\p<=1000000):Fn Tryz.prog 101 [.agg #[.int .i64 d, .int .i64 b, .int .i64 p], .agg #[.int .i64 x, .int .i64 y, .int .i64 z]] [] (λv As=>v= .bool (geoIn d b p x y z)/\As=[]):=
 Fn.of_below (geo_In d b p x y z hd hb hp)
theorem f_May (d b p:Int):Fn Tryz.prog 72 [.agg #[.int .i64 d, .int .i64 b, .int .i64 p]] [] (λv As=>v= .bool (geoMay d b p)/\As=[]):=Fn.of_below (geo_May d b p)
theorem Nand.Ok.bd {N:Nand} (h:N.Ok):(3<=N.dies/\N.dies<=6)/\(8<=N.blocks/\N.blocks<=16)/\(2<=N.pages/\N.pages<=8):=by
 have:=h.geo;simp[geoMay]at this;omega
theorem n_refuses (p:Nat) (N:Nand) (hN:N.Ok) (x y z:Int):Fn Tryz.prog 231 [.pointer (some ⟨p,0,none⟩), .agg #[.int .i64 x, .int .i64 y, .int .i64 z]] [NandA p N] (λv As=>v= .int .i64 (N.refuses x y z)/\As=[NandA p N]):=by
 have hbd:=hN.bd;refine Fn.enter [2,0] Tryz.func231 rfl rfl rfl λX F hX=>?_;refine J.open_ (α:=NLoc) 1 rfl rfl (λ_=>rfl) λY=>?_;refine J.q hX λ_=>?_;refine J.cF ?_;refine J.q hX λ_=>?_;refine J.cond rfl (λh1=>?_) (λh1=>?_)
 ·refine J.q hX λ_=>?_;refine J.close (f:=nandL p N) (Y) [1,2,3,4,5] rfl rfl rfl ?_;refine J.q hX λ_=>?_;refine J.ru hX [1] ?_;exact⟨by simp[Nand.refuses,h1],rfl⟩
 refine J.q hX λ_=>?_;refine J.plan (.of [0,4,8,13,17,22,24,28]) [] [1,2,3,4,5,6] (by rw[hX.hP];kernel_rfl) (by kernel_rfl) ?_;refine J.q hX λ_=>?_;refine J.ca hX (by kernel_rfl) (f_In _ _ _ x y z (by omega) (by omega) (by omega)) [] 0 rfl rfl rfl rfl rfl rfl (λ_=>rfl) ?_;refine cpq ⟨_,rfl,⟨rfl,rfl,rfl,rfl,rfl,rfl,trivial⟩,?_⟩;refine J.q hX λ_=>?_;refine J.cond rfl (λh2=>?_) (λh2=>?_)
 ·refine J.q hX λ_=>?_;refine J.close (f:=nandL p N) (Y) [1,2,3,4,5] rfl rfl rfl ?_;refine J.q hX λ_=>?_;refine J.ru hX [1] ?_;simp only[Bool.not_eq_true']at h2;exact⟨by simp[Nand.refuses,h1,h2],rfl⟩
 simp only[Bool.not_eq_false']at h2;have h3:(0<=x/\x<N.dies):=by simp[geoIn]at h2;omega
 obtain⟨i,rfl⟩:=Int.eq_ofNat_of_zero_le h3.1;have h4:i<N.dead.length:=by rw[hN.dead];omega
 refine J.q hX λ_=>?_;refine J.plan (.of [0,4,8,13,16,21,24,29,32]) [] [1,2,3,4,5,6] (by rw[hX.hP];kernel_rfl) (by kernel_rfl) ?_;refine J.q hX λ_=>?_;refine J.valT hX (.bool N.dead[i]) 0 rfl rfl (λ_ a w he hC=>?_) rfl ?_
 ·exact load1_run tk rfl rfl he rfl rfl rfl (hC rfl _ (cget_mem (i:=4) rfl)) (by simp[h4])
 refine J.q hX λ_=>?_;refine J.cond rfl (λh5=>?_) (λh5=>?_)
 ·refine J.q hX λ_=>?_;refine J.close (f:=nandL p N) (Y) [1,2,3,4,5] rfl rfl rfl ?_;refine J.q hX λ_=>?_;refine J.ru hX [1] ?_;exact⟨by simp[Nand.refuses,h1,h2,h4,h5],rfl⟩
 refine J.q hX λ_=>?_;refine J.close (f:=nandL p N) (Y) [1,2,3,4,5] rfl rfl rfl ?_;refine J.q hX λ_=>?_;refine J.ru hX [1] ?_;exact⟨by simp[Nand.refuses,h1,h2,h4,h5],rfl⟩
theorem n_key (x y:Int):Fn Tryz.prog 74 [.int .i64 x, .int .i64 y] [] (λv As=>v= .agg #[.int .i64 x, .int .i64 y, .int .i64 0]/\As=[]):=by
 refine Fn.enter [] Tryz.func74 rfl rfl rfl λX F hX=>?_;refine J.q hX λ_=>?_;exact J.ru hX [] ⟨rfl,rfl⟩
theorem umapB:Tryz.prog.underlying 104=some (.map 32 109):=by kernel_rfl
theorem alook_in {N:Nand} {Y:NLoc} {i j:Nat} (hi:i<N.dies) (hj:j<N.blocks):alook (bmap N.blocks (N.dies*N.blocks) Y.bp) ((i:Int),(j:Int),0)=some (.pointer (some ⟨Y.bp (i*N.blocks+j),0,none⟩)):=by
 rw[alook_bmap _ _ _ _ hj,if_pos (lt_ij hi hj)]
theorem alook_out {N:Nand} {Y:NLoc} {x y:Int} (hb:0<N.blocks) (h:¬(0<=x/\x<N.dies/\0<=y/\y<N.blocks)):alook (bmap N.blocks (N.dies*N.blocks) Y.bp) (x,y,0)=none:=by
 refine alook_bmap_out _ hb _ _ _ λi j hij hj e=>h ?_;simp only[Prod.mk.injEq]at e;have hi:i<N.dies:=by
  rcases Nat.lt_or_ge i N.dies with h | h
  ·exact h
  ·have:=Nat.mul_le_mul_right N.blocks h;omega
 omega
theorem n_Next (p:Nat) (N:Nand) (hN:N.Ok) (x y:Int):Fn Tryz.prog 121 [.pointer (some ⟨p,0,none⟩), .int .i64 x, .int .i64 y] [NandA p N] (λv As=>v= .int .i64 (N.next x y)/\As=[NandA p N]):=by
 have hbd:=hN.bd
 by_cases hr:0<=x/\x<N.dies/\0<=y/\y<N.blocks
 ·obtain⟨i,rfl⟩:=Int.eq_ofNat_of_zero_le hr.1;obtain⟨j,rfl⟩:=Int.eq_ofNat_of_zero_le hr.2.2.1;have hi:i<N.dies:=by omega
  have hj:j<N.blocks:=by omega
  have hv:((N.next i j:Nat):Int)=((N.blk i j).cells.length:Nat):=by rw[Nand.next,if_pos (by omega)];rfl
  refine Fn.enter [2,0,0] Tryz.func121 rfl rfl rfl λX F hX=>?_;refine J.open_ (α:=NLoc) 1 rfl rfl (λ_=>rfl) λY=>?_;refine J.openAt 5 (i*N.blocks+j) rfl rfl (blksL_get _ _ _ _ _ (lt_ij hi hj)) rfl ?_;rw[(div_ij hj).1,(div_ij hj).2];refine J.open_ (α:=(Option Nat×Nat)) 6 rfl rfl (λ_=>rfl) λc=>?_;refine J.q hX λ_=>?_;refine J.plan (.of [0,4,8,12,16,20,25,28,32,38,41,44,48]) [] [1,2,3,4,6,7] (by rw[hX.hP];kernel_rfl) (by kernel_rfl) ?_;refine J.q hX λ_=>?_;refine J.cb hX (n_key i j) [] ?_;refine cpq ⟨_,rfl,⟨rfl,rfl,rfl,rfl,rfl,rfl,trivial⟩,?_⟩;refine J.valT hX (.pointer (some ⟨Y.bp (i*N.blocks+j),0,none⟩)) 7 rfl rfl (λ_ a w he hC=>?_) rfl ?_
  ·refine(lookup_run (key:=((i:Int),(j:Int),0)) key39 umapB (z:= .pointer none) (λw=>by kernel_rfl) rfl rfl rfl rfl he rfl rfl (hC rfl _ (cget_mem (i:=2) rfl))).trans ?_;simp only[alook_in hi hj];rfl
  refine J.q hX λ_=>?_;refine J.cF ?_;refine J.q hX λ_=>?_;refine J.plan (.of [0,4,8,13,16,20,26,29,32,36,41,44,48]) [12] [1,2,3,4,6,7] (by rw[hX.hP];kernel_rfl) (by kernel_rfl) ?_;refine J.q hX λ_=>?_;refine J.cb hX (n_key i j) [] ?_;refine cpq ⟨_,rfl,⟨rfl,rfl,rfl,rfl,rfl,rfl,trivial⟩,?_⟩;refine J.valT hX (.pointer (some ⟨Y.bp (i*N.blocks+j),0,none⟩)) 7 rfl rfl (λ_ a w he hC=>?_) rfl ?_
  ·refine(lookup_run (key:=((i:Int),(j:Int),0)) key39 umapB (z:= .pointer none) (λw=>by kernel_rfl) rfl rfl rfl rfl he rfl rfl (hC rfl _ (cget_mem (i:=2) rfl))).trans ?_;simp only[alook_in hi hj];rfl
  refine J.q hX λ_=>?_;refine J.closeN p N (N) Y i j hj (N.blk i j) _ [1,2,3,4,5,6,7] rfl rfl rfl rfl (blk_same _ _ _) rfl ?_;refine J.q hX λ_=>?_;refine J.ru hX [1] ?_;exact⟨by rw[hv],rfl⟩
 ·refine Fn.enter [2,0,0] Tryz.func121 rfl rfl rfl λX F hX=>?_;refine J.open_ (α:=NLoc) 1 rfl rfl (λ_=>rfl) λY=>?_;refine J.q hX λ_=>?_;refine J.plan (.of [0,4,8,12,16,20,25,28,32,38,41,44,48]) [] [1,2,3,4] (by rw[hX.hP];kernel_rfl) (by kernel_rfl) ?_;refine J.q hX λ_=>?_;refine J.cb hX (n_key x y) [] ?_;refine cpq ⟨_,rfl,⟨rfl,rfl,rfl,rfl,trivial⟩,?_⟩;refine J.valT hX (.pointer none) 0 rfl rfl (λ_ a w he hC=>?_) rfl ?_
  ·refine(lookup_run (key:=(x,y,0)) key39 umapB (z:= .pointer none) (λw=>by kernel_rfl) rfl rfl rfl rfl he rfl rfl (hC rfl _ (cget_mem (i:=2) rfl))).trans ?_;simp only[alook_out (show 0<N.blocks by omega) hr];rfl
  refine J.q hX λ_=>?_;refine J.cT ?_;refine J.q hX λ_=>?_;refine J.close (f:=nandL p N) (Y) [1,2,3,4,5] rfl rfl rfl ?_;refine J.q hX λ_=>?_;refine J.ru hX [1] ?_;exact⟨by simp[Nand.next,hr],rfl⟩
theorem n_Worn (p:Nat) (N:Nand) (hN:N.Ok) (x y:Int):Fn Tryz.prog 118 [.pointer (some ⟨p,0,none⟩), .int .i64 x, .int .i64 y] [NandA p N] (λv As=>v= .int .i64 (N.wornAt x y)/\As=[NandA p N]):=by
 have hbd:=hN.bd
 by_cases hr:0<=x/\x<N.dies/\0<=y/\y<N.blocks
 ·obtain⟨i,rfl⟩:=Int.eq_ofNat_of_zero_le hr.1;obtain⟨j,rfl⟩:=Int.eq_ofNat_of_zero_le hr.2.2.1;have hi:i<N.dies:=by omega
  have hj:j<N.blocks:=by omega
  have hv:N.wornAt i j=(N.blk i j).worn:=by rw[Nand.wornAt,if_pos (by omega)];rfl
  refine Fn.enter [2,0,0] Tryz.func118 rfl rfl rfl λX F hX=>?_;refine J.open_ (α:=NLoc) 1 rfl rfl (λ_=>rfl) λY=>?_;refine J.openAt 5 (i*N.blocks+j) rfl rfl (blksL_get _ _ _ _ _ (lt_ij hi hj)) rfl ?_;rw[(div_ij hj).1,(div_ij hj).2];refine J.open_ (α:=(Option Nat×Nat)) 6 rfl rfl (λ_=>rfl) λc=>?_;refine J.q hX λ_=>?_;refine J.plan (.of [0,4,8,12,16,20,25,28,32,38,41,44,48]) [] [1,2,3,4,6,7] (by rw[hX.hP];kernel_rfl) (by kernel_rfl) ?_;refine J.q hX λ_=>?_;refine J.cb hX (n_key i j) [] ?_;refine cpq ⟨_,rfl,⟨rfl,rfl,rfl,rfl,rfl,rfl,trivial⟩,?_⟩;refine J.valT hX (.pointer (some ⟨Y.bp (i*N.blocks+j),0,none⟩)) 7 rfl rfl (λ_ a w he hC=>?_) rfl ?_
  ·refine(lookup_run (key:=((i:Int),(j:Int),0)) key39 umapB (z:= .pointer none) (λw=>by kernel_rfl) rfl rfl rfl rfl he rfl rfl (hC rfl _ (cget_mem (i:=2) rfl))).trans ?_;simp only[alook_in hi hj];rfl
  refine J.q hX λ_=>?_;refine J.cF ?_;refine J.q hX λ_=>?_;refine J.plan (.of [0,4,8,13,16,20,26,29,32,36,41,44]) [11] [1,2,3,4,6,7] (by rw[hX.hP];kernel_rfl) (by kernel_rfl) ?_;refine J.q hX λ_=>?_;refine J.cb hX (n_key i j) [] ?_;refine cpq ⟨_,rfl,⟨rfl,rfl,rfl,rfl,rfl,rfl,trivial⟩,?_⟩;refine J.valT hX (.pointer (some ⟨Y.bp (i*N.blocks+j),0,none⟩)) 7 rfl rfl (λ_ a w he hC=>?_) rfl ?_
  ·refine(lookup_run (key:=((i:Int),(j:Int),0)) key39 umapB (z:= .pointer none) (λw=>by kernel_rfl) rfl rfl rfl rfl he rfl rfl (hC rfl _ (cget_mem (i:=2) rfl))).trans ?_;simp only[alook_in hi hj];rfl
  refine J.q hX λ_=>?_;refine J.closeN p N (N) Y i j hj (N.blk i j) _ [1,2,3,4,5,6,7] rfl rfl rfl rfl (blk_same _ _ _) rfl ?_;refine J.q hX λ_=>?_;refine J.ru hX [1] ?_;exact⟨by rw[hv],rfl⟩
 ·refine Fn.enter [2,0,0] Tryz.func118 rfl rfl rfl λX F hX=>?_;refine J.open_ (α:=NLoc) 1 rfl rfl (λ_=>rfl) λY=>?_;refine J.q hX λ_=>?_;refine J.plan (.of [0,4,8,12,16,20,25,28,32,38,41,44,48]) [] [1,2,3,4] (by rw[hX.hP];kernel_rfl) (by kernel_rfl) ?_;refine J.q hX λ_=>?_;refine J.cb hX (n_key x y) [] ?_;refine cpq ⟨_,rfl,⟨rfl,rfl,rfl,rfl,trivial⟩,?_⟩;refine J.valT hX (.pointer none) 0 rfl rfl (λ_ a w he hC=>?_) rfl ?_
  ·refine(lookup_run (key:=(x,y,0)) key39 umapB (z:= .pointer none) (λw=>by kernel_rfl) rfl rfl rfl rfl he rfl rfl (hC rfl _ (cget_mem (i:=2) rfl))).trans ?_;simp only[alook_out (show 0<N.blocks by omega) hr];rfl
  refine J.q hX λ_=>?_;refine J.cT ?_;refine J.q hX λ_=>?_;refine J.close (f:=nandL p N) (Y) [1,2,3,4,5] rfl rfl rfl ?_;refine J.q hX λ_=>?_;refine J.ru hX [1] ?_;exact⟨by simp[Nand.wornAt,hr],rfl⟩
theorem n_Geo (p:Nat) (N:Nand):Fn Tryz.prog 47 [.pointer (some ⟨p,0,none⟩)] [NandA p N] (λv As=>v= .agg #[.int .i64 N.dies, .int .i64 N.blocks, .int .i64 N.pages]/\As=[NandA p N]):=by
 refine Fn.enter [2] Tryz.func47 rfl rfl rfl λX F hX=>?_;refine J.open_ (α:=NLoc) 1 rfl rfl (λ_=>rfl) λY=>?_;refine J.q hX λ_=>?_;refine J.cF ?_;refine J.q hX λ_=>?_;refine J.close (f:=nandL p N) (Y) [1,2,3,4,5] rfl rfl rfl ?_;refine J.q hX λ_=>?_;exact J.ru hX [1] ⟨rfl,rfl⟩
theorem n_Power (p:Nat) (N:Nand):Fn Tryz.prog 49 [.pointer (some ⟨p,0,none⟩)] [NandA p N] (λv As=>v= .bool (!N.off)/\As=[NandA p N]):=by
 refine Fn.enter [2] Tryz.func49 rfl rfl rfl λX F hX=>?_;refine J.open_ (α:=NLoc) 1 rfl rfl (λ_=>rfl) λY=>?_;refine J.q hX λ_=>?_;refine J.close (f:=nandL p N) (Y) [1,2,3,4,5] rfl rfl rfl ?_;refine J.q hX λ_=>?_;refine J.ru hX [1] ?_;exact⟨by simp,rfl⟩
theorem n_Ops (p:Nat) (N:Nand):Fn Tryz.prog 41 [.pointer (some ⟨p,0,none⟩)] [NandA p N] (λv As=>v= .int .i64 N.ops/\As=[NandA p N]):=by
 refine Fn.enter [2] Tryz.func41 rfl rfl rfl λX F hX=>?_;refine J.open_ (α:=NLoc) 1 rfl rfl (λ_=>rfl) λY=>?_;refine J.q hX λ_=>?_;refine J.cF ?_;refine J.q hX λ_=>?_;refine J.close (f:=nandL p N) (Y) [1,2,3,4,5] rfl rfl rfl ?_;refine J.q hX λ_=>?_;exact J.ru hX [1] ⟨rfl,rfl⟩
theorem n_Broken (p:Nat) (N:Nand):Fn Tryz.prog 24 [.pointer (some ⟨p,0,none⟩)] [NandA p N] (λv As=>v= .int .i64 N.broken/\As=[NandA p N]):=by
 refine Fn.enter [2] Tryz.func24 rfl rfl rfl λX F hX=>?_;refine J.open_ (α:=NLoc) 1 rfl rfl (λ_=>rfl) λY=>?_;refine J.q hX λ_=>?_;refine J.cF ?_;refine J.q hX λ_=>?_;refine J.close (f:=nandL p N) (Y) [1,2,3,4,5] rfl rfl rfl ?_;refine J.q hX λ_=>?_;exact J.ru hX [1] ⟨rfl,rfl⟩
theorem n_On (p:Nat) (N:Nand):Fn Tryz.prog 37 [.pointer (some ⟨p,0,none⟩)] [NandA p N] (λv As=>v= .tuple #[]/\As=[NandA p N.onN]):=by
 refine Fn.enter [2] Tryz.func37 rfl rfl rfl λX F hX=>?_;refine J.open_ (α:=NLoc) 1 rfl rfl (λ_=>rfl) λY=>?_;refine J.q hX λ_=>?_;refine J.cT ?_;refine J.q hX λ_=>?_;refine J.close (f:=nandL p N.onN) (Y) [1,2,3,4,5] rfl rfl rfl ?_;refine J.q hX λ_=>?_;refine J.fi hX tk [1] rfl rfl rfl ?_;exact⟨rfl,rfl⟩
theorem n_Cut (p:Nat) (N:Nand) (x k:Int):Fn Tryz.prog 33 [.pointer (some ⟨p,0,none⟩), .int .i64 x, .int .i64 k] [NandA p N] (λv As=>v= .tuple #[]/\As=[NandA p (N.setCut x k)]):=by
 refine Fn.enter [2,0,0] Tryz.func33 rfl rfl rfl λX F hX=>?_;refine J.open_ (α:=NLoc) 1 rfl rfl (λ_=>rfl) λY=>?_;refine J.q hX λ_=>?_;refine J.cond rfl (λh=>?_) (λh=>?_)
 ·refine J.q hX λ_=>?_;refine J.close (f:=nandL p N) (Y) [1,2,3,4,5] rfl rfl rfl ?_;refine J.q hX λ_=>?_;refine J.ru hX [1] ?_;simp only[Bool.false_or]at h;exact⟨rfl,by simp[Nand.setCut,h,picks];rfl⟩
 ·simp only[Bool.false_or]at h;have hs:N.setCut x k={N with cuts:=decide (x>=0),left:=x,keep:=if 32<(if 0>k then 0 else k)then 32 else(if 0>k then 0 else k),off:=decide (x<0)}:=by
   simp only[Nand.setCut,h];have:min (max k 0) 32=if 32<(if 0>k then 0 else k)then 32 else(if 0>k then 0 else k):=by(repeat' split)<;>omega
   rw[this];rfl
  refine J.q hX λ_=>?_;refine J.close (f:=nandL p {N with cuts:=decide (x>=0),left:=x,keep:=if 32<(if 0>k then 0 else k)then 32 else(if 0>k then 0 else k),off:=decide (x<0)}) (Y) [1,2,3,4,5] rfl rfl rfl ?_;refine J.q hX λ_=>?_;refine J.fi hX tk [1] rfl rfl rfl ?_;exact⟨rfl,by rw[hs];rfl⟩
theorem n_cut (p:Nat) (N:Nand) (Y:NLoc) (hN:N.Ok) (hR:N.Room):Fn Tryz.prog 232 [.pointer (some ⟨p,0,none⟩)] [.pt p 107 (N.mainV Y)] (λv As=>v= .bool N.cutB/\As=[.pt p 107 (N.cutN.mainV Y)]):=by
 have h1:=hN.num.1;have h2:=hR.ops;have h3:=hN.lft;have h4:=hN.lf2;refine Fn.enter [2] Tryz.func232 rfl rfl rfl λX F hX=>?_;refine J.q hX λ_=>?_;refine J.cond rfl (λh=>?_) (λh=>?_)
 ·simp only[Bool.not_eq_true']at h;have hs:N.cutN={N with ops:=N.ops+1}:=by simp[Nand.cutN,Nand.cutB,h]
  refine J.q hX λ_=>?_;refine J.ru hX [1] ?_;exact⟨by simp[Nand.cutB,h],by rw[hs];rfl⟩
 simp only[Bool.not_eq_false']at h;have h3:=h3 h;refine J.q hX λ_=>?_;refine J.cond rfl (λh5=>?_) (λh5=>?_)
 ·simp only[decide_eq_true_eq]at h5;have hs:N.cutN={N with ops:=N.ops+1,left:=N.left-1}:=by
   have hcb:N.cutB=false:=by simp[Nand.cutB,h];omega
   simp[Nand.cutN,hcb,h]
  refine J.q hX λ_=>?_;refine J.ru hX [1] ?_;exact⟨by congr 1;simp[Nand.cutB,h];omega,by rw[hs];rfl⟩
 simp only[decide_eq_false_iff_not]at h5;have hcb:N.cutB=true:=by simp[Nand.cutB,h];omega
 have hs:N.cutN={N with ops:=N.ops+1,left:=N.left-1,cuts:=false,off:=true}:=by
  simp[Nand.cutN,hcb,h]
 refine J.q hX λ_=>?_;refine J.ru hX [1] ?_;exact⟨by rw[hcb],by rw[hs];rfl⟩
theorem n_Dead (p:Nat) (N:Nand) (hN:N.Ok) (x:Int):Fn Tryz.prog 50 [.pointer (some ⟨p,0,none⟩), .int .i64 x] [NandA p N] (λv As=>v= .bool (N.deadAt x)/\As=[NandA p N]):=by
 have hd:=hN.dead;refine Fn.enter [2,0] Tryz.func50 rfl rfl rfl λX F hX=>?_;refine J.open_ (α:=NLoc) 1 rfl rfl (λ_=>rfl) λY=>?_;refine J.q hX λ_=>?_;refine J.val hX (.bool (N.dead.getD x.toNat false)) 0 rfl rfl (λhg a w he hs=>?_) rfl trivial ?_
 ·simp only[G.on,Bool.and_eq_true,decide_eq_true_eq]at hg;refine load1_run tk rfl rfl he (by simp[G.on,hg]) rfl rfl (hs.get (i:=4) rfl) ?_;have:x.toNat<N.dead.length:=by omega
  simp[this]
 refine J.q hX λ_=>?_;refine J.close (f:=nandL p N) (Y) [1,2,3,4,5] rfl rfl rfl ?_;refine J.q hX λ_=>?_;refine J.ru hX [1] ?_;refine⟨?_,rfl⟩;congr 1
theorem own_some {e size:Nat} {c:Option Nat×Nat} {n:Nat} {xs:List Value} (hn:0<n) {h:Hl} (s:(ownA e size c.1 n c.2 xs).sat h):∃g,c.1=some g:=by
 obtain⟨_,h2⟩:=s;cases hc:c.1 with
 | none=>rw[hc]at h2;omega
 | some g=>exact⟨g,rfl⟩
theorem n_Read (p:Nat) (N:Nand) (hN:N.Ok) (x y z:Int):Fn Tryz.prog 213 [.pointer (some ⟨p,0,none⟩), .agg #[.int .i64 x, .int .i64 y, .int .i64 z]] [NandA p N] (λv As=>v= .tuple #[.agg (pageC (N.readV x y z)).toArray, .int .i64 (N.readE x y z)]/\As=[NandA p N]):=by
 have hbd:=hN.bd;refine Fn.enter [2,0] Tryz.func213 rfl rfl rfl λX F hX=>?_;refine J.q hX λ_=>?_;refine J.cb hX (n_refuses p N hN x y z) [1] ?_;refine cpq ⟨_,rfl,trivial,?_⟩;refine J.q hX λ_=>?_;refine J.cond rfl (λh=>?_) (λh=>?_)
 ·simp only[bne_iff_ne,ne_eq]at h;refine J.q hX λ_=>?_;refine J.ru hX [1] ?_;exact⟨by simp only[Nand.readV,Nand.readE,ne_eq,h,not_false_eq_true,if_pos];rfl,rfl⟩
 simp only[bne_eq_false_iff_eq]at h;obtain⟨hoff,hdd,hr⟩:=Nand.refuses_zero h;obtain⟨i,rfl⟩:=Int.eq_ofNat_of_zero_le hr.1;obtain⟨j,rfl⟩:=Int.eq_ofNat_of_zero_le hr.2.2.1;obtain⟨k,rfl⟩:=Int.eq_ofNat_of_zero_le hr.2.2.2.2.1;have hi:i<N.dies:=by omega
 have hj:j<N.blocks:=by omega
 refine J.open_ (α:=NLoc) 1 rfl rfl (λ_=>rfl) λY=>?_;refine J.openAt 7 (i*N.blocks+j) rfl rfl (blksL_get _ _ _ _ _ (lt_ij hi hj)) rfl ?_;rw[(div_ij hj).1,(div_ij hj).2];refine J.open_ (α:=(Option Nat×Nat)) 8 rfl rfl (λ_=>rfl) λc=>?_;refine J.q hX λ_=>?_;refine J.plan (.of [0,4,8,13,16,21,24,29,34,37,40]) [10] [1,2,3,4,5,6,7,8,9] (by rw[hX.hP];kernel_rfl) (by kernel_rfl) ?_;refine J.q hX λ_=>?_;refine J.cb hX (n_key i j) [] ?_;refine cpq ⟨_,rfl,⟨rfl,rfl,rfl,rfl,rfl,rfl,rfl,rfl,rfl,trivial⟩,?_⟩;refine J.valT hX (.pointer (some ⟨Y.bp (i*N.blocks+j),0,none⟩)) 9 rfl rfl (λ_ a w he hC=>?_) rfl ?_
 ·refine(lookup_run (key:=((i:Int),(j:Int),0)) key39 umapB (z:= .pointer none) (λw=>by kernel_rfl) rfl rfl rfl rfl he rfl rfl (hC rfl _ (cget_mem (i:=4) rfl))).trans ?_;simp only[alook_in hi hj];rfl
 refine J.q hX λ_=>?_;refine J.plan (.of [0,5,8,12,16,21,24,28,32]) [] [1,2,3,4,5,6,7,8,9] (by rw[hX.hP];kernel_rfl) (by kernel_rfl) ?_;refine J.q hX λ_=>?_;refine J.cond rfl (λh5=>?_) (λh5=>?_)
 ·simp only[ge_iff_le,decide_eq_true_eq,Int.ofNat_le]at h5;have hp:N.pageAt i j k=none:=by simp[Nand.pageAt,h5]
  refine J.q hX λ_=>?_;refine J.closeN p N (N) Y i j hj (N.blk i j) _ [1,4,5,6,7,8,9] rfl rfl rfl rfl (blk_same _ _ _) rfl ?_;refine J.q hX λ_=>?_;refine J.ru hX [1] ?_;exact⟨by simp only[Nand.readV,Nand.readE,h,hp,ne_eq,not_true_eq_false,if_false];rfl,rfl⟩
 simp only[ge_iff_le,decide_eq_false_iff_not,Int.ofNat_le,Nat.not_le]at h5;obtain⟨cl,hcl⟩:∃cl,(N.blk i j).cells[k]? =some cl:=⟨_,List.getElem?_eq_getElem h5⟩;have hp:N.pageAt i j k=some cl:=by simp only[Nand.pageAt,Int.toNat_natCast];exact hcl
 refine J.know (λh' s=>own_some (by omega) (s.get (i:=9) rfl)) λhg=>?_;obtain⟨g,hg⟩:=hg;obtain⟨c1,c2⟩:=c;simp only at hg;subst hg;refine J.q hX λ_=>?_;refine J.plan (.of [0,4,8,13,16,21,24,28,33,36]) [] [1,2,3,4,5,6,7,8,9] (by rw[hX.hP];kernel_rfl) (by kernel_rfl) ?_;refine J.q hX λ_=>?_;refine J.valT hX (.bool cl.lost) 0 rfl rfl (λ_ a w he hC=>?_) rfl ?_
 ·exact own1_run tk rfl rfl he rfl rfl rfl (hC rfl _ (cget_mem (i:=9) rfl)) (by rw[show 0+((k:Int)).toNat*34+32=k*34+32 from by simp];exact cellsV_cell hcl (by omega))
 refine J.q hX λ_=>?_;refine J.cond rfl (λh6=>?_) (λh6=>?_)
 ·refine J.q hX λ_=>?_;refine J.closeN p N (N) Y i j hj (N.blk i j) _ [1,4,5,6,7,8,9] rfl rfl rfl rfl (blk_same _ _ _) rfl ?_;refine J.q hX λ_=>?_;refine J.ru hX [1] ?_;exact⟨by simp only[Nand.readV,Nand.readE,h,hp,h6,ne_eq,not_true_eq_false,if_false,if_true];rfl,rfl⟩
 refine J.q hX λ_=>?_;refine J.plan (.of [0,4,8,13,16,21,24,28,33,39,40]) [9,10] [1,2,4,5,6,7,8,9] (by rw[hX.hP];kernel_rfl) (by kernel_rfl) ?_;refine J.q hX λ_=>?_;refine J.valT hX (.agg (pageC cl.p).toArray) 0 rfl rfl (λ_ a w he hC=>?_) rfl ?_
 ·exact ownN_run tk rfl rfl he rfl rfl rfl (hC rfl _ (cget_mem (i:=9) rfl)) (by rw[show 0+((k:Int)).toNat*34+0=k*34 from by simp];exact cellsV_page hcl) rfl
 refine J.q hX λ_=>?_;refine J.closeN p N (N) Y i j hj (N.blk i j) _ [1,4,5,6,7,8,9] rfl rfl rfl rfl (blk_same _ _ _) rfl ?_;refine J.q hX λ_=>?_;refine J.ru hX [1] ?_;exact⟨by simp only[Nand.readV,Nand.readE,h,hp,h6,ne_eq,not_true_eq_false,if_false,Bool.false_eq_true];rfl,rfl⟩
def fillU (a b:Nat) (p:List UInt8):List UInt8:=p.take a++List.replicate (b-a) 255++p.drop b
theorem fillU_len (a b:Nat) (p:List UInt8) (h1:a<=b) (h2:b<=p.length):(fillU a b p).length=p.length:=by simp[fillU];omega
theorem fillU_self (a:Nat) (p:List UInt8):fillU a a p=p:=by simp[fillU]
theorem fillU_set (a b:Nat) (p:List UInt8) (h1:a<=b) (h2:b<p.length):(fillU a b p).set b 255=fillU a (b+1) p:=by
 apply List.ext_getElem?;intro j;have hl:=fillU_len a b p h1 (by omega);rw[List.getElem?_set,hl];simp only[fillU,List.append_assoc,List.getElem?_append,List.length_take,List.length_replicate,List.getElem?_take,List.getElem?_replicate,List.getElem?_drop]
 by_cases e:b=j
 ·subst e;rw[if_pos rfl,if_pos h2,if_neg (by omega),if_pos (by omega),if_pos (by omega)]
 ·rw[if_neg e]
  by_cases h3:j<min a p.length
  ·rw[if_pos h3,if_pos h3]
  ·rw[if_neg h3,if_neg h3]
   by_cases h4:j<b
   ·rw[if_pos (by omega),if_pos (by omega),if_pos (by omega),if_pos (by omega)]
   ·rw[if_neg (by omega),if_neg (by omega)];congr 1;omega
theorem pageC_set (p:List UInt8) (h:p.length=32) (k:Nat) (v:UInt8):(pageC p).set k (bv v)=pageC (p.set k v):=by
 rw[pageC_eq p h,pageC_eq _ (by simpa using h),List.map_set]
theorem cellsV_snoc (l:List NCell) (c:NCell):cellsV (l++[c])=cellsV l++c.vals:=by simp[cellsV]
theorem fillU_all (K:Nat) (p:List UInt8) (h:K<=32) (hp:p.length=32):fillU K 32 p=Nand.fillP K p:=by
 simp only[fillU,Nand.fillP];rw[List.drop_of_length_le (by omega),List.append_nil]
theorem snocLen (l:List NCell) (c:NCell):l.length+1=(l++[c]).length:=by simp
theorem snocC {L L2:List Atom} {k e n cap:Nat} {ao:Option Nat} {l:List NCell} {cs:List Value} (c:NCell) (h:cs=c.vals) (hL:lset L k (ownA e 34 ao n cap (cellsV (l++[c])))=some L2):lset L k (ownA e 34 ao n cap (cellsV l++cs))=some L2:=by
 rw[h,<- cellsV_snoc];exact hL
theorem progN_cut {N:Nand} {x y z:Int} {pg:List UInt8} (h:N.refuses x y z=0) (h5:z=(N.blk x.toNat y.toNat).cells.length) (h6:N.cutB=true):N.progN x y z pg=N.cutN.push x.toNat y.toNat ⟨Nand.fillP N.keep.toNat pg,false,true⟩:=by
 unfold Nand.progN;rw[if_neg (by simp[h]),if_neg (by simp[h5]),if_pos h6]
theorem progN_in {N:Nand} {x y z:Int} {pg:List UInt8} (h:N.refuses x y z=0) (h5:z=(N.blk x.toNat y.toNat).cells.length) (h6:N.cutB=false):N.progN x y z pg=Nand.push {N.cutN with plan:=N.plan.erase (x,y,z)} x.toNat y.toNat ⟨pg,N.fails x y z,false⟩:=by
 unfold Nand.progN;rw[if_neg (by simp[h]),if_neg (by simp[h5]),if_neg (by simp[h6])]
theorem progE_cut {N:Nand} {x y z:Int} (h:N.refuses x y z=0) (h5:z=(N.blk x.toNat y.toNat).cells.length) (h6:N.cutB=true):N.progE x y z=9:=by
 unfold Nand.progE;rw[if_neg (by simp[h]),if_neg (by simp[h5]),if_pos h6]
theorem progE_in {N:Nand} {x y z:Int} (h:N.refuses x y z=0) (h5:z=(N.blk x.toNat y.toNat).cells.length) (h6:N.cutB=false):N.progE x y z=if N.fails x y z then 7 else 0:=by
 unfold Nand.progE;rw[if_neg (by simp[h]),if_neg (by simp[h5]),if_neg (by simp[h6])]
theorem n_Program (p:Nat) (N:Nand) (hN:N.Ok) (hR:N.Room) (x y z:Int) (pg:List UInt8) (hpl:pg.length=32):
  Fn Tryz.prog 230 [.pointer (some ⟨p,0,none⟩), .agg #[.int .i64 x, .int .i64 y, .int .i64 z], .agg (pageC pg).toArray] [NandA p N] (λv As=>v= .int .i64 (N.progE x y z)/\As=[NandA p (N.progN x y z pg)]):=by
 have hbd:=hN.bd;have hnum:=hN.num;have hr1:=hR.broken;refine Fn.enter [2,0,0] Tryz.func230 rfl rfl rfl λX F hX=>?_;refine J.q hX λbs=>?_;refine J.cb hX (n_refuses p N hN x y z) [1] ?_;refine cpq ⟨_,rfl,trivial,?_⟩;refine J.q hX λ_=>?_;refine J.cond rfl (λh=>?_) (λh=>?_)
 ·simp only[bne_iff_ne,ne_eq]at h;refine J.q hX λ_=>?_;refine J.ru hX [1] ?_;exact⟨by simp only[Nand.progE,ne_eq,h,not_false_eq_true,if_pos],by simp only[Nand.progN,ne_eq,h,not_false_eq_true,if_pos];rfl⟩
 simp only[bne_eq_false_iff_eq]at h;obtain⟨hoff,hdd,hr⟩:=Nand.refuses_zero h;obtain⟨i,rfl⟩:=Int.eq_ofNat_of_zero_le hr.1;obtain⟨j,rfl⟩:=Int.eq_ofNat_of_zero_le hr.2.2.1;obtain⟨k,rfl⟩:=Int.eq_ofNat_of_zero_le hr.2.2.2.2.1;have hi:i<N.dies:=by omega
 have hj:j<N.blocks:=by omega
 have hlen:=(hN.cells i j hi hj).1;refine J.open_ (α:=NLoc) 1 rfl rfl (λ_=>rfl) λY=>?_;refine J.openAt 7 (i*N.blocks+j) rfl rfl (blksL_get _ _ _ _ _ (lt_ij hi hj)) rfl ?_;rw[(div_ij hj).1,(div_ij hj).2];refine J.open_ (α:=(Option Nat×Nat)) 8 rfl rfl (λ_=>rfl) λc=>?_;refine J.q hX λ_=>?_;refine J.plan (.of [0,4,8,13,16,21,24,29,34,37,40]) [10] [1,2,3,4,5,6,7,8,9] (by rw[hX.hP];kernel_rfl) (by kernel_rfl) ?_;refine J.q hX λ_=>?_;refine J.cb hX (n_key i j) [] ?_;refine cpq ⟨_,rfl,⟨rfl,rfl,rfl,rfl,rfl,rfl,rfl,rfl,rfl,trivial⟩,?_⟩;refine J.valT hX (.pointer (some ⟨Y.bp (i*N.blocks+j),0,none⟩)) 9 rfl rfl (λ_ a w he hC=>?_) rfl ?_
 ·refine(lookup_run (key:=((i:Int),(j:Int),0)) key39 umapB (z:= .pointer none) (λw=>by kernel_rfl) rfl rfl rfl rfl he rfl rfl (hC rfl _ (cget_mem (i:=4) rfl))).trans ?_;simp only[alook_in hi hj];rfl
 refine J.q hX λ_=>?_;refine J.plan (.of [0,5,8,12,16,21,24,28]) [] [1,2,3,4,5,6,7,8,9] (by rw[hX.hP];kernel_rfl) (by kernel_rfl) ?_;refine J.q hX λ_=>?_;refine J.cond rfl (λh5=>?_) (λh5=>?_)
 ·simp only[bne_iff_ne,ne_eq]at h5;refine J.q hX λ_=>?_;refine J.closeN p N ({N with broken:=N.broken+1}) Y i j hj (N.blk i j) _ [1,4,5,6,7,8,9] rfl rfl rfl rfl (blk_same _ _ _) rfl ?_;refine J.q hX λ_=>?_;refine J.ru hX [1] ?_;exact⟨by simp[Nand.progE,h,h5],by simp[Nand.progN,h,h5];rfl⟩
 simp only[bne_eq_false_iff_eq,Int.natCast_inj]at h5;refine J.q hX λ_=>?_;refine J.cb hX (n_cut p N Y hN hR) [1] ?_;refine cpq ⟨_,rfl,trivial,?_⟩;refine J.q hX λ_=>?_;refine J.cond rfl (λh6=>?_) (λh6=>?_)
 ·have hkp:=hN.kp;obtain⟨K,hK⟩:∃K:Nat,N.keep=K:=⟨N.keep.toNat,by omega⟩;have hK2:N.cutN.keep=K:=hK;refine J.q hX λ_=>?_;rw[hK2];refine J.q hX λ_=>?_;refine J.lo (α:=Nat) (λm=>K<=m/\m<=32) (λm=>[⟨9, .int .i64 m,0, .tt⟩,⟨5, .pointer (some ⟨bs (0+1),0,none⟩),4, .tt⟩,⟨8, .pointer (some ⟨Y.bp (i*N.blocks+j),0,none⟩),9, .tt⟩]) [3] (λm=>[.pt (bs (0+1)) 154 (pageC (fillU K m pg))]) (λm=>32-m) (K) (⟨Nat.le_refl _,by omega⟩) rfl ?_ (λ_=>rfl) λm hI=>?_
  ·rw[fillU_self];rfl
  refine J.q hX λ_=>?_;refine J.cond rfl (λh7=>?_) (λh7=>?_)
  ·simp only[decide_eq_true_eq]at h7;refine J.q hX λ_=>?_;refine J.store1 hX tk 3 rfl rfl rfl rfl rfl rfl rfl rfl rfl rfl rfl rfl rfl ?_ (pageC (fillU K (m+1) pg)) ?_ rfl (λ_=>rfl) ⟨trivial,?_⟩
   ·show 0+(m:Int).toNat*1<32;omega
   ·rw[show 0+(m:Int).toNat*1=m from by omega,<- fillU_set _ _ _ hI.1 (by omega)];exact pageC_set _ (by rw[fillU_len _ _ _ hI.1 (by omega)];exact hpl) m 255
   refine J.q hX λ_=>?_;refine J.nx (m+1) (⟨by omega,by omega⟩) (by omega) (λ_ s=>s)
  simp only[decide_eq_false_iff_not]at h7;obtain rfl:m=32:=by omega
  refine J.q hX λ_=>?_;refine J.plan (.of [0,4,8,12,17,21,24,30,34,36,40,47]) [9,10,11] [1,2,3,4,5,6,7,8] (by rw[hX.hP];kernel_rfl) (by kernel_rfl) ?_;refine J.q hX λ_=>?_;rw[fillU_all _ _ hI.1 hpl];refine J.append hX tk 9 10 0 rfl rfl rfl rfl rfl rfl rfl rfl rfl rfl rfl rfl rfl rfl rfl rfl ?_ ?_ (λ_=>rfl) λa' cap'=>⟨_,snocC ⟨Nand.fillP K pg,false,true⟩ rfl rfl,⟨rfl,rfl,rfl,rfl,rfl,rfl,rfl,rfl,trivial⟩,?_⟩
  ·simp only[maxLen];omega
  ·omega
  refine J.q hX λ_=>?_;rw[snocLen _ ⟨Nand.fillP K pg,false,true⟩];refine J.q hX λ_=>?_;refine J.closeN p N (N.cutN.push i j ⟨Nand.fillP K pg,false,true⟩) Y i j hj ({N.blk i j with cells:=(N.blk i j).cells++[⟨Nand.fillP K pg,false,true⟩]}) (a',cap') [1,4,5,6,7,8,9] rfl rfl rfl rfl (rfl) rfl ?_;refine J.q hX λ_=>?_;refine J.ru hX [1] ?_;subst h5;exact⟨(progE_cut h rfl h6).symm▸rfl,by rw[progN_cut h rfl h6,hK];rfl⟩
 ·refine J.q hX λ_=>?_;refine J.plan (.of [0,4,8,13,17,22,24,28,32,36,40]) [10] [1,2,3,4,6,7,8,9] (by rw[hX.hP];kernel_rfl) (by kernel_rfl) ?_;refine J.q hX λ_=>?_;refine J.cb hX (s_Get Y.q N.plan i j k) [5] ?_;refine cpq ⟨_,rfl,⟨rfl,rfl,rfl,rfl,rfl,rfl,rfl,rfl,trivial⟩,?_⟩;refine J.q hX λ_=>?_;refine J.plan (.of [0,4,8,13,17,22]) [] [1,2,3,4,6,7,8,9] (by rw[hX.hP];kernel_rfl) (by kernel_rfl) ?_;refine J.q hX λ_=>?_;refine J.cb hX (s_Drop Y.q N.plan i j k) [5] ?_;refine cpq ⟨_,rfl,⟨rfl,rfl,rfl,rfl,rfl,rfl,rfl,rfl,trivial⟩,?_⟩;refine J.q hX λ_=>?_;refine J.plan (.of [0,4,8,12,17,21,24,28,34,38,40,44,51]) [10,11,12] [1,2,3,4,5,6,7,8] (by rw[hX.hP];kernel_rfl) (by kernel_rfl) ?_;refine J.q hX λ_=>?_;refine J.append hX tk 9 10 0 rfl rfl rfl rfl rfl rfl rfl rfl rfl rfl rfl rfl rfl rfl rfl rfl ?_ ?_ (λ_=>rfl) λa' cap'=>⟨_,snocC ⟨pg,decide (((i:Int),(j:Int),(k:Int))∈N.plan)||(N.blk i j).met,false⟩ rfl rfl,⟨rfl,rfl,rfl,rfl,rfl,rfl,rfl,rfl,trivial⟩,?_⟩
  ·simp only[maxLen];omega
  ·omega
  refine J.q hX λ_=>?_;rw[snocLen _ ⟨pg,N.fails i j k,false⟩];refine J.q hX λ_=>?_;refine J.closeN p N (Nand.push {N.cutN with plan:=N.plan.erase ((i:Int),(j:Int),(k:Int))} i j ⟨pg,N.fails i j k,false⟩) Y i j hj ({N.blk i j with cells:=(N.blk i j).cells++[⟨pg,N.fails i j k,false⟩]}) (a',cap') [1,4,5,6,7,8,9] rfl rfl rfl rfl (rfl) rfl ?_;refine J.q hX λ_=>?_;refine J.cond rfl (λh9=>?_) (λh9=>?_)
  ·refine J.q hX λ_=>?_;refine J.ru hX [1] ?_;subst h5;exact⟨by rw[progE_in h rfl h6];exact congrArg (Value.int IntKind.i64) (if_pos h9).symm,by rw[progN_in h rfl h6];rfl⟩
  ·refine J.q hX λ_=>?_;refine J.ru hX [1] ?_;subst h5;exact⟨by rw[progE_in h rfl h6];exact congrArg (Value.int IntKind.i64) (if_neg (by rw[show N.fails i j (N.blk i j).cells.length=false from h9];simp)).symm,by rw[progN_in h rfl h6];rfl⟩
end Go.Proofs.YtkdlnfdjjifedaaGreat
