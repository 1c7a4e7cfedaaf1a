/- Helpers. No condition. -/
import Derived.Test.YtpohajhbfllbbaaGreatD08
import Derived.Test.YtpohajhbfllbbaaGreatD14
set_option maxRecDepth 20000
set_option linter.all false
namespace Go.Proofs.YtpohajhbfllbbaaGreat
open Go
theorem a1S {α:Type} (n:Nat) (f:Nat->α) (h:∀k k',k<n->k'<k->f k'≠f k):((List.range n).map f).Nodup:=by
 rw[List.nodup_iff_pairwise_ne,List.pairwise_map,List.pairwise_iff_getElem];intro i j hi hj hij;simp only[List.getElem_range];exact h j i (by simpa using hj) hij
theorem mem_job {b r m:Int} {l:List En} {x:Int×Sh}:x∈R.job b r m l↔(∃k,k<l.length/\x=(G.die m b r (k:Nat),W.sh b r m (l.getD k En.zero)))\/x=(G.parity m b r,W.parS b r m l):=by
 simp only[R.job,List.mem_append,List.mem_map,List.mem_range,List.mem_singleton];constructor
 ·rintro(⟨k,h,rfl⟩ | rfl)
  ·exact .inl ⟨k,h,rfl⟩
  ·exact .inr rfl
 ·rintro(⟨k,h,rfl⟩ | rfl)
  ·exact .inl ⟨k,h,rfl⟩
  ·exact .inr rfl
theorem a9N {b r m:Int} {l:List En} (F:DieFacts m b r) (hl:(l.length:Int)=G.slots m):((R.job b r m l).map (·.1)).Nodup:=by
 rw[R.job,List.map_append,List.map_map];rw[List.nodup_append];refine⟨a1S _ _ λk k' hk hkk=>F.inj k k' (by omega) hkk,by simp,λx hx y hy=>?_⟩;simp only[List.mem_map,List.mem_range]at hx;obtain⟨k,hk,rfl⟩:=hx;simp only[List.map_cons,List.map_nil,List.mem_singleton]at hy;subst hy;exact(F.die k (by omega)).2.1
theorem a6t {b r m:Int} {l:List En} (hB:W.parB b r m l=true):S.may (W.parS b r m l)=true:=by
 obtain⟨h1,h2,h3,h4⟩:=M7 hB;obtain⟨e,he⟩:∃e,e∈l:=by
  cases l with
  | nil=>simp at h2
  | cons x l=>exact⟨x,by simp⟩
 have hok:=h4 e he;simp only[W.ok,S.may,Bool.and_eq_true]at hok;have hpl:S.place (W.parS b r m l)=true:=hok.1.1;have hov:∃M:Nat,(W.over (l.map (W.sh b r m))).2=M/\M<18446744073709551616:=a0w (l.map (W.sh b r m)) (zeros16,0) ⟨by decide,by decide⟩;obtain⟨M,hM,hM2⟩:=hov;simp only[S.may,hpl,Bool.true_and,Bool.and_eq_true];refine⟨?_,by simp[W.parS]⟩;simp only[S.numbers,S.inB,W.parS,hM,Int.toNat_natCast,Bool.and_eq_true,decide_eq_true_eq];omega
theorem a6u {b r m:Int} {l:List En} (hd:∀s∈l,s.data.length=16):(W.parS b r m l).data.length=16:=
 R9 (λt ht=>by obtain⟨e,he,rfl⟩:=List.mem_map.1 ht;exact hd e he) _ rfl
namespace Xo
def op (a b:List UInt8×Nat):List UInt8×Nat:=(List.zipWith (· ^^^ ·) a.1 b.1,a.2 ^^^ b.2)
def z:List UInt8×Nat:=(zeros16,0)
def Ok (a:List UInt8×Nat):Prop:=a.1.length=16
def all (l:List (List UInt8×Nat)):List UInt8×Nat:=l.foldl op z
theorem op_ok {a b} (ha:Ok a) (hb:Ok b):Ok (op a b):=by unfold Ok op at*;simp[ha,hb]
theorem z_ok:Ok z:=rfl
theorem op_comm (a b):op a b=op b a:=by
 unfold op;refine Prod.ext ?_ (Nat.xor_comm _ _);apply List.ext_getElem?;intro i;simp only[List.getElem?_zipWith];cases a.1[i]? <;>cases b.1[i]? <;>simp[UInt8.xor_comm]
theorem op_assoc (a b c):op (op a b) c=op a (op b c):=by
 unfold op;refine Prod.ext ?_ (Nat.xor_assoc _ _ _);apply List.ext_getElem?;intro i;simp only[List.getElem?_zipWith];cases a.1[i]? <;>cases b.1[i]? <;>cases c.1[i]? <;>simp[UInt8.xor_assoc]
theorem z_op {a} (ha:Ok a):op z a=a:=by
 obtain⟨d,n⟩:=a;unfold op z;refine Prod.ext ?_ (Nat.zero_xor n);apply List.ext_getElem?;intro i;have hd:d.length=16:=ha;simp only[List.getElem?_zipWith,zeros16,List.getElem?_replicate]
 by_cases hi:i<16
 ·rw[if_pos hi];cases d[i]? <;>simp
 ·rw[if_neg hi,List.getElem?_eq_none (by omega)]
theorem op_self {a} (ha:Ok a):op a a=z:=by
 obtain⟨d,n⟩:=a;unfold op z;refine Prod.ext ?_ (Nat.xor_self n);apply List.ext_getElem?;intro i;have hd:d.length=16:=ha;simp only[List.getElem?_zipWith,zeros16,List.getElem?_replicate]
 by_cases hi:i<16
 ·rw[if_pos hi,List.getElem?_eq_getElem (by omega)];simp
 ·rw[if_neg hi,List.getElem?_eq_none (by omega)]
theorem fold_ok:∀(l:List (List UInt8×Nat)),(∀x∈l,Ok x)->∀a,Ok a->Ok (l.foldl op a)
 | [],_,_,h=>h
 | x::l,hl,a,h=>fold_ok l (λy hy=>hl y (by simp[hy])) _ (op_ok h (hl x (by simp)))
theorem fold_from:∀(l:List (List UInt8×Nat)),(∀x∈l,Ok x)->∀a,Ok a->l.foldl op a=op a (all l)
 | [],_,a,h=>by unfold all;rw[List.foldl_nil,List.foldl_nil,op_comm,z_op h]
 | x::l,hl,a,h=>by
  have hx:=hl x (by simp);have hl':∀y∈l,Ok y:=λy hy=>hl y (by simp[hy]);unfold all;rw[List.foldl_cons,List.foldl_cons,fold_from l hl' _ (op_ok h hx),z_op hx,fold_from l hl' _ hx,op_assoc]
theorem all_erase:∀(l:List (List UInt8×Nat)) (k:Nat) (x:List UInt8×Nat),(∀x∈l,Ok x)->l[k]? =some x->op (all (l.eraseIdx k)) x=all l
 | [],_,_,_,h=>by simp at h
 | y::l,0,x,hl,h=>by
  simp at h;subst h;have hl':∀z∈l,Ok z:=λz hz=>hl z (by simp[hz]);have hy:=hl y (by simp);rw[List.eraseIdx_cons_zero];show _=(y::l).foldl op z;rw[List.foldl_cons,z_op hy,fold_from l hl' _ hy,op_comm]
 | y::l,k+1,x,hl,h=>by
  have hl':∀z∈l,Ok z:=λz hz=>hl z (by simp[hz]);have hy:=hl y (by simp);have he:∀z∈l.eraseIdx k,Ok z:=λz hz=>hl' z (List.mem_of_mem_eraseIdx hz);rw[List.eraseIdx_cons_succ];show op ((y::l.eraseIdx k).foldl op z) x=(y::l).foldl op z;rw[List.foldl_cons,List.foldl_cons,z_op hy,fold_from _ he _ hy,fold_from l hl' _ hy,op_assoc,all_erase l k x hl' (by simpa using h)]
theorem all_back (l:List (List UInt8×Nat)) (k:Nat) (x:List UInt8×Nat) (hl:∀x∈l,Ok x) (h:l[k]? =some x):all (l.eraseIdx k++[all l])=x:=by
 have he:∀z∈l.eraseIdx k,Ok z:=λz hz=>hl z (List.mem_of_mem_eraseIdx hz);have hx:=hl x (List.mem_of_getElem? h);have e:all (l.eraseIdx k++[all l])=op (all (l.eraseIdx k)) (all l):=by unfold all;rw[List.foldl_append];rfl
 have hok:Ok (all (l.eraseIdx k)):=fold_ok _ he _ z_ok;rw[e,<- all_erase l k x hl h,<- op_assoc,op_self hok,z_op hx]
theorem ovM_nat {a b:Nat} (ha:a<18446744073709551616) (hb:b<18446744073709551616):W.ovM a b=((a ^^^ b:Nat):Int):=by
 unfold W.ovM;have h1:(BitVec.ofInt 64 (a:Int) ^^^ BitVec.ofInt 64 (b:Int)).toNat=a ^^^ b:=by
  rw[BitVec.toNat_xor,BitVec.ofInt_natCast,BitVec.ofInt_natCast,BitVec.toNat_ofNat,BitVec.toNat_ofNat,Nat.mod_eq_of_lt ha,Nat.mod_eq_of_lt hb]
 rw[h1];have h2:a ^^^ b<18446744073709551616:=Nat.xor_lt_two_pow (n:=64) ha hb;simp[IntKind.wrap,IntKind.bits,IntKind.signed];omega
def toX (s:Sh):List UInt8×Nat:=(s.data,S.meta_ s.role s.lpn s.seq)
theorem mix_all {x s:List UInt8} (hx:x.length=16) (hs:s.length=16):W.mix x s 16=List.zipWith (· ^^^ ·) x s:=by
 unfold W.mix;rw[List.take_of_length_le (by simp[hx,hs]),List.drop_of_length_le (by omega),List.append_nil]
theorem over_all:∀(l:List Sh) (a:List UInt8×Nat),(∀s∈l,s.data.length=16)->Ok a->a.2<18446744073709551616->l.foldl W.over1 (a.1,(a.2:Int))=(((l.map toX).foldl op a).1,((((l.map toX).foldl op a).2:Nat):Int))/\((l.map toX).foldl op a).2<18446744073709551616
 | [],a,_,_,h=>⟨rfl,h⟩
 | s::l,a,hl,ha,h=>by
  have hs:=hl s (by simp);have hm:=S.meta_lt s.role s.lpn s.seq;have hlt:a.2 ^^^ S.meta_ s.role s.lpn s.seq<18446744073709551616:=Nat.xor_lt_two_pow (n:=64) h hm;have e:W.over1 (a.1,(a.2:Int)) s=((op a (toX s)).1,(((op a (toX s)).2:Nat):Int)):=by
   unfold W.over1;rw[ovM_nat h hm,mix_all ha hs];rfl
  rw[List.foldl_cons,List.map_cons,List.foldl_cons,e];exact over_all l (op a (toX s)) (λt ht=>hl t (by simp[ht])) (op_ok ha hs) hlt
end Xo
theorem b1z (l:List Sh) (hl:∀s∈l,s.data.length=16):W.over l=((Xo.all (l.map Xo.toX)).1,((Xo.all (l.map Xo.toX)).2:Int))/\(Xo.all (l.map Xo.toX)).2<18446744073709551616:=
 Xo.over_all l Xo.z hl Xo.z_ok (by decide)
theorem b0M {b r m:Int} {l:List En} (hd:∀s∈l,s.data.length=16):Xo.toX (W.parS b r m l)=Xo.all ((l.map (W.sh b r m)).map Xo.toX):=by
 obtain⟨h1,h2⟩:=b1z (l.map (W.sh b r m)) (λs hs=>by obtain⟨e,he,rfl⟩:=List.mem_map.1 hs;exact hd e he);have e2:(W.over (l.map (W.sh b r m))).2.toNat=(Xo.all ((l.map (W.sh b r m)).map Xo.toX)).2:=by rw[h1];rfl
 have e1:(W.over (l.map (W.sh b r m))).1=(Xo.all ((l.map (W.sh b r m)).map Xo.toX)).1:=by rw[h1]
 refine Prod.ext e1 ?_;show S.meta_ ((W.over (l.map (W.sh b r m))).2.toNat/72057594037927936:Nat) ((W.over (l.map (W.sh b r m))).2.toNat/1099511627776 % 65536:Nat) ((W.over (l.map (W.sh b r m))).2.toNat % 1099511627776:Nat)=_;rw[e2];generalize(Xo.all ((l.map (W.sh b r m)).map Xo.toX)).2=x at h2;unfold S.meta_;omega
theorem a4t {α β:Type} (f:α->β):∀(l:List α) (k:Nat),(l.eraseIdx k).map f=(l.map f).eraseIdx k
 | [],_=>rfl
 | _::_,0=>rfl
 | x::l,k+1=>by simp only[List.eraseIdx_cons_succ,List.map_cons,a4t f l k]
theorem b2U {b r m:Int} {l:List En} (hd:∀s∈l,s.data.length=16) (hB:W.parB b r m l=true) {k:Nat} {e:En} (hk:l[k]? =some e):W.backS (W.parS b r m l) ((l.map (W.sh b r m)).eraseIdx k)=e:=by
 have hdm:∀s∈l.map (W.sh b r m),s.data.length=16:=λs hs=>by obtain⟨e,he,rfl⟩:=List.mem_map.1 hs;exact hd e he
 have hde:∀s∈(l.map (W.sh b r m)).eraseIdx k++[W.parS b r m l],s.data.length=16:=λs hs=>by
  rw[List.mem_append,List.mem_singleton]at hs;rcases hs with hs | rfl
  ·exact hdm s (List.mem_of_mem_eraseIdx hs)
  ·exact a6u hd
 obtain⟨h1,h2⟩:=b1z _ hde;have hx:Xo.all (((l.map (W.sh b r m)).eraseIdx k++[W.parS b r m l]).map Xo.toX)=Xo.toX (W.sh b r m e):=by
  rw[List.map_append,List.map_cons,List.map_nil,b0M hd,a4t];exact Xo.all_back _ k _ (λx hx=>by obtain⟨s,hs,rfl⟩:=List.mem_map.1 hx;exact hdm s hs) (by rw[List.getElem?_map,List.getElem?_map,hk];rfl)
 rw[hx]at h1;have hok:=(M7 hB).2.2.2 e (List.mem_of_getElem? hk);have hmay:S.may (W.sh b r m e)=true:=hok;have hb:=hmay;simp only[S.may,S.numbers,S.inB,Bool.and_eq_true,decide_eq_true_eq]at hb;obtain⟨m1,m2,m3⟩:=S.meta_back e.role e.lpn e.seq hb.1.2.2 hb.1.2.1.2 hb.1.2.1.1;unfold W.backS;simp only[h1];obtain⟨el,es,er,ed⟩:=e;exact(En.mk.injEq ..).mpr ⟨m2,m3,m1,rfl⟩
theorem Bt.numAt_congr {a b:List UInt8} {k:Nat}:∀w,(∀i,i<w->Bt.bitAt a (k+i)=Bt.bitAt b (k+i))->Bt.numAt a k w=Bt.numAt b k w
 | 0,_=>rfl
 | w+1,h=>by rw[Bt.numAt,Bt.numAt,Bt.numAt_congr w (λi hi=>h i (by omega)),h w (by omega)]
theorem a6R (K:Nat) (p:List UInt8) (hp:p.length=32) (hK:K<=32) (i:Nat):(Nand.fillP K p).getD i 0=if i<K then p.getD i 0 else if i<32 then 255 else 0:=by
 unfold Nand.fillP;simp only[List.getD_eq_getElem?_getD];rw[List.getElem?_append,List.length_take,hp]
 by_cases h:i<K
 ·rw[if_pos (by omega),if_pos h,List.getElem?_take,if_pos h]
 ·rw[if_neg (by omega),if_neg h]
  by_cases h2:i<32
  ·rw[if_pos h2,List.getElem?_replicate,if_pos (by omega)];rfl
  ·rw[if_neg h2,List.getElem?_replicate,if_neg (by omega)];rfl
theorem a1k (p:List UInt8) (k i:Nat):(p.drop k).getD i 0=p.getD (k+i) 0:=by
 simp[List.getD_eq_getElem?_getD]
theorem a9d (K:Nat) (p:List UInt8) (hp:p.length=32) (hK:K<28):(S.fields (Nand.fillP K p)).kind=255:=by
 show((Bt.numAt ((Nand.fillP K p).drop 16) 88 8:Nat):Int)=255;rw[Bt.numAt_eq _ 88 8 255 (λi hi=>?_) 8 (Nat.le_refl 8)]
 ·rfl
 ·unfold Bt.bitAt;rw[show(88+i)/8=11 from by omega,a1k,a6R K p hp (by omega),if_neg (by omega),if_pos (by omega),show 7-(88+i) % 8=8-1-i from by omega];rfl
theorem a6f (K:Nat) (p:List UInt8) (hp:p.length=32) (hK:28<=K) (hK2:K<=32):S.fields (Nand.fillP K p)=S.fields p:=by
 have hb:∀j,j<96->Bt.bitAt ((Nand.fillP K p).drop 16) j=Bt.bitAt (p.drop 16) j:=λj hj=>by
  unfold Bt.bitAt;rw[a1k,a1k,a6R K p hp hK2,if_pos (by omega)]
 have h16:(Nand.fillP K p).take 16=p.take 16:=by
  unfold Nand.fillP;rw[List.take_append_of_le_length (by rw[List.length_take,hp];omega),List.take_take,Nat.min_eq_left (by omega)]
 unfold S.fields;simp only[h16,Bt.numAt_congr (a:=(Nand.fillP K p).drop 16) (b:=p.drop 16) (k:=0) 64 (λi hi=>hb _ (by omega)),Bt.numAt_congr (a:=(Nand.fillP K p).drop 16) (b:=p.drop 16) (k:=88) 8 (λi hi=>hb _ (by omega)),
  Bt.numAt_congr (a:=(Nand.fillP K p).drop 16) (b:=p.drop 16) (k:=64) 8 (λi hi=>hb _ (by omega)),Bt.numAt_congr (a:=(Nand.fillP K p).drop 16) (b:=p.drop 16) (k:=72) 8 (λi hi=>hb _ (by omega)),Bt.numAt_congr (a:=(Nand.fillP K p).drop 16) (b:=p.drop 16) (k:=80) 8 (λi hi=>hb _ (by omega))]
namespace Nand
variable {N : Nand} {n : Nat}
end Nand
theorem b0m {b r m:Int} {l:List En} (hd:∀s∈l,s.data.length=16) (hB:W.parB b r m l=true) {k:Nat} {e:En} (hk:l[k]? =some e):W.backB (W.parS b r m l) ((l.map (W.sh b r m)).eraseIdx k)=true/\W.back (W.parS b r m l) ((l.map (W.sh b r m)).eraseIdx k)=e:=by
 obtain⟨p1,p2,p3,p4⟩:=M7 hB;have hb:=b2U hd hB hk;have hkl:k<l.length:=(List.getElem?_eq_some_iff.1 hk).1;have hany:((l.map (W.sh b r m)).eraseIdx k).any (W.alien (W.parS b r m l))=false:=by
  rw[List.any_eq_false];intro s hs;obtain⟨x,hx,rfl⟩:=List.mem_map.1 (List.mem_of_mem_eraseIdx hs);have hmay:S.may (W.sh b r m x)=true:=p4 x hx;unfold W.alien;rw[hmay];simp[W.sh,W.parS]
 have hlen:decide ((((l.map (W.sh b r m)).eraseIdx k).length:Int)=G.slots (W.parS b r m l).mask-1)=true:=by
  refine decide_eq_true ?_;rw[List.length_eraseIdx,if_pos (by rw[List.length_map];exact hkl),List.length_map];show((l.length-1:Nat):Int)=G.slots m-1;omega
 have h1:W.backB (W.parS b r m l) ((l.map (W.sh b r m)).eraseIdx k)=true:=by
  unfold W.backB;rw[a6t hB,hany,hlen,hb];show(((2:Int)==2&&true&& !false&&true)&&W.ok b r m e)=true;rw[p4 e (List.mem_of_getElem? hk)];rfl
 refine⟨h1,?_⟩;unfold W.back;rw[if_pos h1,hb]
end Go.Proofs.YtpohajhbfllbbaaGreat
namespace Go.Proofs.YtpohajhbfllbbaaGreat
open Go
variable {N : Nand} {b m : Int} {l : List En} {j : Nat}
end Go.Proofs.YtpohajhbfllbbaaGreat
namespace Go.Proofs.YtpohajhbfllbbaaGreat
open Go
def a3F (s:Sh) (c:NCell):Prop:=c.lost=true\/c.p=D2 s\/c.turned=true/\((∃n y,n<32/\y≠0/\c.p=Nand.xorAt (D2 s) n y)\/∃K,K<=32/\c.p=Nand.fillP K (D2 s))
structure ShAt (s:Sh) (d b r:Int):Prop where
 len:s.data.length=16
 may:S.may s=true
 blk:s.block=b
 row:s.row=r
 has:L.has s.mask d=true
 par:(G.parity s.mask b r==d)=(s.kind==2)
theorem b1Q {N:Nand} {d b r:Int} (h:N.readE d b r≠0):(M.look N d b r).2≠1:=by
 unfold M.look;simp only;rw[if_neg h];split
 ·decide
 ·split<;>decide
theorem a3O {N:Nand} {d b r:Int} (h:N.refuses d b r≠0):(M.look N d b r).2≠1:=by
 refine b1Q ?_;unfold Nand.readE;rw[if_pos h];exact h
theorem a7E {N:Nand} {d b r:Int} (h:N.pageAt d b r=none):(M.look N d b r).2≠1:=by
 refine b1Q ?_;unfold Nand.readE;split
 ·assumption
 ·rw[h];decide
theorem a8B {N:Nand} {d b r:Int} {s:Sh} (hs:ShAt s d b r) {t:Bool} (hr:N.refuses d b r=0) (hc:N.pageAt d b r=some ⟨D2 s,false,t⟩):M.look N d b r=(s,1):=by
 have hput:D2 s=S.put s:=by unfold D2;rw[if_pos hs.may]
 obtain⟨g1,g2⟩:=S.getV_put s hs.len hs.may;have e1:N.readE d b r=0:=by unfold Nand.readE;rw[if_neg (by simp[hr]),hc];rfl
 have e2:N.readV d b r=S.put s:=by unfold Nand.readV;rw[if_neg (by simp[hr]),hc];simpa using hput
 unfold M.look;simp only;rw[if_pos e1,e2,g1,g2,if_neg];simp only[M.bad,hs.blk,hs.row,hs.has,hs.par];simp
theorem a9A {N:Nand} {d b r:Int} {s:Sh} (hs:ShAt s d b r) {c:NCell} (hc:N.pageAt d b r=some c) (hC:a3F s c) (h1:(M.look N d b r).2=1):M.look N d b r=(s,1):=by
 by_cases hr:N.refuses d b r=0
 ·have hput:D2 s=S.put s:=by unfold D2;rw[if_pos hs.may]
  by_cases hl:c.lost=true
  ·refine absurd h1 (b1Q ?_);unfold Nand.readE;rw[if_neg (by simp[hr]),hc];simp[hl]
  ·have hl:c.lost=false:=by simpa using hl
   rcases hC with h | h | ⟨_,⟨n,y,hn,hy,h⟩ | ⟨K,hK,h⟩⟩
   ·rw[hl]at h;cases h
   ·refine a8B (t:=c.turned) hs hr ?_;rw[hc];cases c;simp only at h hl;rw[h,hl]
   ·refine absurd h1 ?_;have e1:N.readE d b r=0:=by unfold Nand.readE;rw[if_neg (by simp[hr]),hc];simp[hl]
    have e2:N.readV d b r=(S.put s).set n ((S.put s).getD n 0 ^^^ y):=by unfold Nand.readV;rw[if_neg (by simp[hr]),hc];simp[hl,h,hput,Nand.xorAt]
    have hg:=S.turned_none s hs.len n hn ((S.put s).getD n 0 ^^^ y) (λe=>hy (by
     have e2:=congrArg (λz=>(S.put s).getD n 0 ^^^ z) e;simp only[<- UInt8.xor_assoc,UInt8.xor_self,UInt8.zero_xor]at e2;exact e2))
    unfold M.look;simp only;rw[if_pos e1,e2,if_pos]
    ·decide
    ·refine .inl ?_;unfold S.getE;rw[hg];decide
   ·have hpl:(S.put s).length=32:=S.length_put s hs.len;have e1:N.readE d b r=0:=by unfold Nand.readE;rw[if_neg (by simp[hr]),hc];simp[hl]
    have e2:N.readV d b r=Nand.fillP K (S.put s):=by unfold Nand.readV;rw[if_neg (by simp[hr]),hc];simp[hl,h,hput]
    unfold M.look at h1 ⊢;simp only at h1 ⊢;rw[if_pos e1,e2]at h1 ⊢;split at h1
    ·cases h1
    ·rename_i hcond;rw[if_neg hcond];have hE:S.getE (Nand.fillP K (S.put s))=0:=by
      by_cases h:S.getE (Nand.fillP K (S.put s))=0
      ·exact h
      ·exact absurd (.inl h) hcond
     have hsome:(S.get (Nand.fillP K (S.put s))).isSome=true:=by
      unfold S.getE at hE;split at hE
      ·assumption
      ·cases hE
     unfold S.get at hsome;split at hsome
     ·rename_i hmay;have hk28:28<=K:=by
       by_cases h:28<=K
       ·exact h
       ·have h1:=a9d K (S.put s) hpl (by omega);have h2:=S.may_bounds _ hmay.1;omega
      have:S.getV (Nand.fillP K (S.put s))=s:=by
       unfold S.getV S.get;rw[if_pos hmay,a6f K _ hpl hk28 hK,S.fields_put s hs.len hs.may];rfl
      rw[this]
     ·cases hsome
 ·exact absurd h1 (a3O hr)
structure RowIs (N:Nand) (b r m:Int) (l:List En):Prop where
 six:N.dies<=6
 blk:0<=b/\b<N.blocks
 row:0<=r/\r<N.pages
 mask:0<=m/\m<2^N.dies
 data:∀s∈l,s.data.length=16
 par:W.parB b r m l=true
namespace RowIs
variable {N : Nand} {b r m : Int} {l : List En}
theorem like {N':Nand} (h:RowIs N b r m l) (k:N.Like N'):RowIs N' b r m l:=⟨by rw[k.dies];exact h.six,by rw[k.blocks];exact h.blk,by rw[k.pages];exact h.row,by rw[k.dies];exact h.mask,h.data,h.par⟩
theorem m64 (h:RowIs N b r m l):m<64:=by
 have:(2:Int)^N.dies<=2^6:=by exact_mod_cast Nat.pow_le_pow_right (n:=2) (by omega) h.six
 have:=h.mask;omega
theorem len (h:RowIs N b r m l):(l.length:Int)=G.slots m:=(M7 h.par).1
theorem count (h:RowIs N b r m l):2<=L.count m:=by
 have:=M7 h.par;unfold G.slots at this;split at this<;>omega
theorem facts (h:RowIs N b r m l):DieFacts m b r:=b2K m b r h.mask.1 h.m64 h.count h.blk.1 h.row.1
theorem nodup (h:RowIs N b r m l):((R.job b r m l).map (·.1)).Nodup:=a9N h.facts h.len
theorem inn (h:RowIs N b r m l):∀x∈R.job b r m l,0<=x.1/\x.1<(N.dies:Int)/\L.has m x.1=true:=by
 have hl:=h.len;intro x hx;rcases mem_job.1 hx with⟨k,hk,rfl⟩ | rfl
 ·have hf:=h.facts.die k (by omega);obtain⟨d,hd⟩:=Int.eq_ofNat_of_zero_le hf.2.2.1;dsimp only at hf ⊢;rw[hd]at hf ⊢;have:=a0g h.mask.2 hf.1;exact⟨by omega,by omega,hf.1⟩
 ·have hf:=h.facts.par;obtain⟨d,hd⟩:=Int.eq_ofNat_of_zero_le hf.2.1;dsimp only;rw[hd]at hf ⊢;have:=a0g h.mask.2 hf.1;exact⟨by omega,by omega,hf.1⟩
theorem sh (h:RowIs N b r m l):∀x∈R.job b r m l,ShAt x.2 x.1 b r/\x.2.mask=m:=by
 obtain⟨p1,p2,p3,p4⟩:=M7 h.par;intro x hx;rcases mem_job.1 hx with⟨k,hk,rfl⟩ | rfl
 ·have hmem:l.getD k En.zero∈l:=by rw[List.getD_eq_getElem?_getD,List.getElem?_eq_getElem hk];exact List.getElem_mem _
  have hf:=h.facts.die k (by omega);refine⟨⟨h.data _ hmem,p4 _ hmem,rfl,rfl,hf.1,?_⟩,rfl⟩;have:(G.parity m b r==G.die m b r (k:Nat))=false:=by rw[beq_eq_false_iff_ne];exactλe=>hf.2.1 e.symm
  show(G.parity m b r==G.die m b r (k:Nat))=_;rw[this];rfl
 ·refine⟨⟨a6u h.data,a6t h.par,rfl,rfl,h.facts.par.1,?_⟩,rfl⟩;show(G.parity m b r==G.parity m b r)=_;rw[beq_self_eq_true];rfl
theorem on (h:RowIs N b r m l) {d:Nat} (hd:L.has m (d:Nat)=true):∃x∈R.job b r m l,x.1=(d:Nat):=by
 have hlt:=a0g h.mask.2 hd;have:=h.six;rcases h.facts.all d (by omega) hd with e | ⟨k,hk,e⟩
 ·exact⟨_,mem_job.2 (.inr rfl),e.symm⟩
 ·have:=h.len;exact⟨_,mem_job.2 (.inl ⟨k,by omega,rfl⟩),e⟩
end RowIs
structure PartR (N:Nand) (b r m:Int) (l:List En) (g:Nat->Bool):Prop where
 good:∀k x,(R.job b r m l)[k]? =some x->g k=true->M.look N x.1 b r=(x.2,1)
 bad:∀k x,(R.job b r m l)[k]? =some x->g k=false->(M.look N x.1 b r).2≠1
def a6x (g:Nat->Bool) (n k:Nat):Bool:=(List.range (n+1)).all λi=>i==k||g i
def okG (g:Nat->Bool) (n k:Nat):Bool:=g k||a6x g n k
namespace PartR
variable {N : Nand} {b r m : Int} {l : List En} {g : Nat → Bool}
theorem one2 (h:PartR N b r m l g) (hm:∀x∈R.job b r m l,x.2.mask=m) {k:Nat} {x:Int×Sh} (hk:(R.job b r m l)[k]? =some x):(R.one N b r m x.1).2=g k/\(g k=true->(R.one N b r m x.1).1=x.2):=by
 unfold R.one;cases hg:g k with
 | true=>
  rw[h.good k x hk hg];refine⟨?_,λ_=>rfl⟩;show((1:Int)==1&&x.2.mask==m)=true;rw[hm x (List.mem_of_getElem? hk)];simp
 | false=>
  refine⟨?_,λh=>by cases h⟩;have:=h.bad k x hk hg;show((M.look N x.1 b r).2==1&&_)=false;rw[beq_eq_false_iff_ne.2 this];rfl
theorem fd (h:PartR N b r m l g) (hm:∀x∈R.job b r m l,x.2.mask=m) (hl:(l.length:Int)=G.slots m):
  (∀k,k<l.length->(R.look N b r m).good.getD k false=g k/\(g k=true->(R.look N b r m).slots.getD k Sh.zero=W.sh b r m (l.getD k En.zero)))/\
  (R.look N b r m).slots.length=l.length/\(R.look N b r m).whole=g l.length/\(g l.length=true->(R.look N b r m).parity=W.parS b r m l):=by
 have hs:(G.slots m).toNat=l.length:=by omega
 obtain⟨w1,w2⟩:=h.one2 hm (a0B b r m l);refine⟨λk hk=>?_,by rw[(K0 N b r m).1,hs],w1,w2⟩;obtain⟨o1,o2⟩:=h.one2 hm (a7J b r m l k hk);constructor
 ·unfold R.look R.ones;simp only[hs,List.getD_eq_getElem?_getD,List.getElem?_map,List.getElem?_range hk,Option.map_some,Option.getD_some];exact o1
 ·intro hg;have:=o2 hg;unfold R.look R.ones;simp only[hs,List.getD_eq_getElem?_getD,List.getElem?_map,List.getElem?_range hk,Option.map_some,Option.getD_some]at this ⊢;exact this
theorem mend (h:PartR N b r m l g) (hR:RowIs N b r m l) {j:Nat} (hj:j<l.length):
  R.mendB (R.look N b r m) j=a6x g l.length j/\(a6x g l.length j=true->R.mend (R.look N b r m) j=l.getD j En.zero):=by
 have hm:∀x∈R.job b r m l,x.2.mask=m:=λx hx=>(hR.sh x hx).2;obtain⟨f1,f2,f3,f4⟩:=h.fd hm hR.len;have hrest:R.rest (R.look N b r m) j=(List.range l.length).all λi=>i==j||g i:=by
  unfold R.rest;rw[f2];rw[Bool.eq_iff_iff,List.all_eq_true,List.all_eq_true];constructor
  ·intro hh i hi;have:=hh i hi
   rwa [(f1 i (List.mem_range.1 hi)).1]at this
  ·intro hh i hi;have:=hh i hi
   rwa [(f1 i (List.mem_range.1 hi)).1]
 have hoth:a6x g l.length j=((List.range l.length).all (λi=>i==j||g i)&&g l.length):=by
  unfold a6x;rw[List.range_succ,List.all_append];have:(l.length==j)=false:=by rw[beq_eq_false_iff_ne];omega
  simp[this]
 cases hO:a6x g l.length j with
 | false=>
  refine⟨?_,λe=>by cases e⟩;unfold R.mendB;rw[hrest,f3,<- hoth,hO];rfl
 | true=>
  rw[hoth,Bool.and_eq_true]at hO;have hpar:=f4 hO.2;have hall:=List.all_eq_true.1 hO.1;have her:(R.look N b r m).slots.eraseIdx j=(l.map (W.sh b r m)).eraseIdx j:=by
   apply List.ext_getElem?;intro i;rw[List.getElem?_eraseIdx,List.getElem?_eraseIdx];have key:∀i,i≠j->(R.look N b r m).slots[i]? =(l.map (W.sh b r m))[i]?:=λi hij=>by
    rcases Nat.lt_or_ge i l.length with hi | hi
    ·have hgi:g i=true:=by have:=hall i (List.mem_range.2 hi);simpa[hij]using this
     have:=(f1 i hi).2 hgi;rw[List.getD_eq_getElem?_getD,List.getElem?_eq_getElem (by omega),Option.getD_some]at this;rw[List.getElem?_eq_getElem (by omega),this,List.getElem?_map,List.getD_eq_getElem?_getD,List.getElem?_eq_getElem hi];rfl
    ·rw[List.getElem?_eq_none (by omega),List.getElem?_eq_none (by rw[List.length_map];omega)]
   split
   ·exact key i (by omega)
   ·exact key (i+1) (by omega)
  have he:l[j]? =some (l.getD j En.zero):=by rw[List.getD_eq_getElem?_getD,List.getElem?_eq_getElem hj,Option.getD_some]
  obtain⟨b1,b2⟩:=b0m hR.data hR.par he;unfold R.mendB R.mend;rw[hrest,hO.1,f3,hO.2,hpar,her,b1,b2];exact⟨rfl,λ_=>rfl⟩
theorem read (h:PartR N b r m l g) (hR:RowIs N b r m l) (hoff:N.off=false) {i:Nat} (hi:i<l.length):
  R.read N b r (i:Nat) m=if okG g l.length i then(l.getD i En.zero,0)else(En.zero,10):=by
 have hm:∀x∈R.job b r m l,x.2.mask=m:=λx hx=>(hR.sh x hx).2;have hl:=hR.len;obtain⟨f1,f2,f3,f4⟩:=h.fd hm hR.len;obtain⟨m1,m2⟩:=h.mend hR hi;have hf:=hR.facts.die i (by omega);have hg:B1 N.dies N.blocks N.pages 0 b r=true:=by
  have hd:=hR.inn _ (a0B b r m l |>List.mem_of_getElem?);exact Nand.geoIn_of ⟨by omega,by omega⟩ hR.blk hR.row
 unfold R.read;rw[if_neg (by rw[hg];simp;omega),hoff,if_neg (by decide),Int.toNat_natCast,(f1 i hi).1,m1];unfold okG;cases hgi:g i with
 | true=>
  rw[if_pos rfl,(f1 i hi).2 hgi];rfl
 | false=>
  rw[if_neg (by decide),Bool.false_or];cases ho:a6x g l.length i with
  | true=>rw[if_pos rfl,if_pos rfl,m2 ho]
  | false=>rw[if_neg (by decide),if_neg (by decide)]
end PartR
def gOf (N:Nand) (b r m:Int) (l:List En) (k:Nat):Bool:=match(R.job b r m l)[k]? with
 | some x=>(M.look N x.1 b r).2==1
 | none=>false
def RowIn (N:Nand) (b r m:Int) (l:List En):Prop:=∀x∈R.job b r m l,∀c,N.pageAt x.1 b r=some c->a3F x.2 c
theorem RowIn.part {N:Nand} {b r m:Int} {l:List En} (h:RowIn N b r m l) (hR:RowIs N b r m l):PartR N b r m l (gOf N b r m l):=by
 refine⟨λk x hk hg=>?_,λk x hk hg=>?_⟩
 ·unfold gOf at hg;rw[hk]at hg;have hx:=List.mem_of_getElem? hk;have h1:(M.look N x.1 b r).2=1:=by simpa using hg
  cases hp:N.pageAt x.1 b r with
  | none=>exact absurd h1 (a7E hp)
  | some c=>exact a9A (hR.sh x hx).1 hp (h x hx c hp) h1
 ·unfold gOf at hg;rw[hk]at hg;simpa using hg
structure Nand.Lit (N:Nand):Prop where
 off:N.off=false
 cuts:N.cuts=false
namespace Nand
theorem Lit.cutB {N:Nand} (h:N.Lit):N.cutB=false:=by unfold Nand.cutB;rw[h.cuts];rfl
theorem Lit.cutN {N:Nand} (h:N.Lit):N.cutN.Lit:=by
 constructor
 ·show(if N.cutB then true else N.off)=false;rw[h.cutB];exact h.off
 ·show(if N.cutB then false else N.cuts)=false;rw[h.cutB];exact h.cuts
theorem Lit.new (d b p:Nat):(Nand.new d b p).Lit:=⟨rfl,rfl⟩
theorem Lit.prog {N:Nand} (h:N.Lit) (x y z:Int) (pg:List UInt8):(N.progN x y z pg).Lit:=by
 unfold Nand.progN;split
 ·exact h
 ·split
  ·exact⟨h.off,h.cuts⟩
  ·rw[h.cutB];exact⟨h.cutN.off,h.cutN.cuts⟩
theorem Lit.erase {N:Nand} (h:N.Lit) (x y:Int):(N.eraseN x y).Lit:=by
 unfold Nand.eraseN;dsimp only;rw[h.cutB];split
 ·exact h
 ·rw[if_neg (by decide)];split
  ·exact⟨h.cutN.off,h.cutN.cuts⟩
  ·exact⟨h.cutN.off,h.cutN.cuts⟩
end Nand
namespace Nand
def failB (N:Nand) (b r d:Int):Bool:=N.dead.getD d.toNat false||N.fails d b r
variable {N : Nand}
theorem Lit.refuses (h:N.Lit) {x y z:Int} (hx:0<=x/\x<N.dies) (hy:0<=y/\y<N.blocks) (hz:0<=z/\z<N.pages):N.refuses x y z=if N.dead.getD x.toNat false then 8 else 0:=by
 unfold Nand.refuses;rw[h.off,if_neg (by decide),geoIn_of hx hy hz,if_neg (by decide)]
end Nand
structure RdyR (N:Nand) (b r:Int) (q:List (Int×Sh)):Prop where
 lit:N.Lit
 nodup:(q.map (·.1)).Nodup
 inn:∀x∈q,0<=x.1/\x.1<N.dies
 blk:0<=b/\b<N.blocks
 row:0<=r/\r<N.pages
 cells:∀x∈q,N.dead.getD x.1.toNat false=false->((N.blk x.1.toNat b.toNat).cells.length:Int)=r
structure WroteR (N N':Nand) (b r:Int) (q:List (Int×Sh)):Prop where
 lit:N'.Lit
 like:N.Like N'
 dead:N'.dead=N.dead
 broken:N'.broken=N.broken
 cells:∀x∈q,(N'.blk x.1.toNat b.toNat).cells=if N.dead.getD x.1.toNat false then(N.blk x.1.toNat b.toNat).cells else(N.blk x.1.toNat b.toNat).cells++[⟨D2 x.2,N.fails x.1 b r,false⟩]
 rest:∀i j,(j≠b.toNat\/∀x∈q,x.1.toNat≠i)->N'.blk i j=N.blk i j
 flags:∀i j,(N'.blk i j).met=(N.blk i j).met/\(N'.blk i j).fails=(N.blk i j).fails/\(N'.blk i j).worn=(N.blk i j).worn
 plan:∀a∈N'.plan,a∈N.plan
 ops:N'.ops=N.ops+((q.filter λx=>!N.dead.getD x.1.toNat false).length:Int)
def E6 (N:Nand) (b r:Int):List (Int×Sh)->Int->Int
 | [],f=>f
 | x::q,f=>E6 N b r q (if N.failB b r x.1 then L.with_ f x.1 else f)
theorem a3n {N N':Nand} {b r:Int}:∀(q:List (Int×Sh)) (f:Int),(∀x∈q,N'.failB b r x.1=N.failB b r x.1)->E6 N' b r q f=E6 N b r q f
 | [],f,_=>rfl
 | x::q,f,h=>by rw[E6,E6,h x (by simp),a3n q _ λy hy=>h y (by simp[hy])]
theorem b5G (b r:Int):∀(q:List (Int×Sh)) (N:Nand) (f:Int),RdyR N b r q->(R.go b r q N f).2.1=E6 N b r q f/\(R.go b r q N f).2.2=(if E6 N b r q f=0 then 0 else 7)/\WroteR N (R.go b r q N f).1 b r q
 | [],N,f,h=>⟨rfl,rfl,h.lit,Nand.Like.refl N,rfl,rfl,by simp,λ_ _ _=>rfl,λ_ _=>⟨rfl,rfl,rfl⟩,λ_ h=>h,by simp[R.go]⟩
 | (d,s)::q,N,f,h=>by
  have hx:=h.inn (d,s) (by simp);have hc:=h.cells (d,s) (by simp);dsimp only at hx hc;have hr:=h.lit.refuses hx h.blk h.row;have hnd:=List.nodup_cons.1 h.nodup;have hne:∀x∈q,x.1≠d:=λx hxq e=>hnd.1 (List.mem_map.2 ⟨x,hxq,e⟩);have hne2:∀x∈q,x.1.toNat≠d.toNat:=λx hxq e=>by
   have:=h.inn x (by simp[hxq]);exact hne x hxq (by omega)
  by_cases hdd:N.dead.getD d.toNat false=true
  ·rw[hdd,if_pos rfl]at hr;have e1:N.progE d b r=8:=by unfold Nand.progE;rw[if_pos (by rw[hr];decide),hr]
   have e2:N.progN d b r (D2 s)=N:=by unfold Nand.progN;rw[if_pos (by rw[hr];decide)]
   have ef:N.failB b r d=true:=by unfold Nand.failB;rw[hdd];rfl
   have eg:R.go b r ((d,s)::q) N f=R.go b r q N (L.with_ f d):=by rw[R.go,if_neg (by rw[e1];decide),if_neg (by rw[e1];decide),e2]
   obtain⟨g1,g2,g3⟩:=b5G b r q N (L.with_ f d) ⟨h.lit,hnd.2,λx hxq=>h.inn x (by simp[hxq]),h.blk,h.row,λx hxq=>h.cells x (by simp[hxq])⟩;have em:E6 N b r ((d,s)::q) f=E6 N b r q (L.with_ f d):=by rw[E6];dsimp only;rw[ef,if_pos rfl]
   rw[eg,em];refine⟨g1,g2,g3.lit,g3.like,g3.dead,g3.broken,λx hxq=>?_,λi j hij=>g3.rest i j (hij.imp id λh' x hxq=>h' x (by simp[hxq])),g3.flags,g3.plan,?_⟩
   ·rcases List.mem_cons.1 hxq with rfl | hxq
    ·dsimp only;rw[g3.rest _ _ (.inr λy hy=>hne2 y hy),hdd,if_pos rfl]
    ·exact g3.cells x hxq
   ·rw[g3.ops,List.filter_cons,if_neg (by dsimp only;rw[hdd];decide)]
  ·have hdd:N.dead.getD d.toNat false=false:=by simpa using hdd
   have hc:=hc hdd;rw[hdd,if_neg (by decide)]at hr;have e1:=a2E hr hc.symm h.lit.cutB;have e2:=a2D (pg:=D2 s) hr hc.symm h.lit.cutB;have ef:N.failB b r d=N.fails d b r:=by unfold Nand.failB;rw[hdd];rfl
   obtain⟨N1,hN1⟩:∃N1,N.progN d b r (D2 s)=N1:=⟨_,rfl⟩;rw[hN1]at e2;have hb:∀i j,N1.blk i j=if i=d.toNat/\j=b.toNat then {N.blk d.toNat b.toNat with cells:=(N.blk d.toNat b.toNat).cells++[⟨D2 s,N.fails d b r,false⟩]}else N.blk i j:=λi j=>by rw[e2];rfl
   have hlike:N.Like N1:=by rw[e2];exact⟨rfl,rfl,rfl⟩
   have hlit:N1.Lit:=by rw[<- hN1];exact h.lit.prog _ _ _ _
   have hbr:N1.broken=N.broken:=by rw[e2];rfl
   have hdead:N1.dead=N.dead:=by rw[e2];rfl
   have hops:N1.ops=N.ops+1:=by rw[e2];rfl
   have hplan:N1.plan=N.plan.erase (d,b,r):=by rw[e2];rfl
   have hq:∀x∈q,N1.blk x.1.toNat b.toNat=N.blk x.1.toNat b.toNat:=λx hxq=>by rw[hb,if_neg (by have:=hne2 x hxq;omega)]
   have hfl:∀x∈q,N1.fails x.1 b r=N.fails x.1 b r:=λx hxq=>by
    unfold Nand.fails;rw[hq x hxq,hplan];congr 1;rw[decide_eq_decide];exact List.mem_erase_of_ne (λe=>hne x hxq (by injection e))
   have hfb:∀x∈q,N1.failB b r x.1=N.failB b r x.1:=λx hxq=>by unfold Nand.failB;rw[hdead,hfl x hxq]
   obtain⟨f1,hf1⟩:∃f1,(if N.fails d b r then L.with_ f d else f)=f1:=⟨_,rfl⟩;have eg:R.go b r ((d,s)::q) N f=R.go b r q N1 f1:=by
    rw[R.go,e1,hN1,<- hf1];cases N.fails d b r with
    | true=>rw[if_pos rfl,if_neg (by decide),if_neg (by decide),if_pos rfl]
    | false=>rw[if_neg Bool.false_ne_true,if_pos rfl,if_neg Bool.false_ne_true]
   have em:E6 N b r ((d,s)::q) f=E6 N b r q f1:=by rw[E6];dsimp only;rw[ef,hf1]
   obtain⟨g1,g2,g3⟩:=b5G b r q N1 f1 ⟨hlit,hnd.2,λx hxq=>by rw[hlike.dies];exact h.inn x (by simp[hxq]),by rw[hlike.blocks];exact h.blk,by rw[hlike.pages];exact h.row,λx hxq hd=>by rw[hq x hxq];exact h.cells x (by simp[hxq]) (by rw[<- hdead];exact hd)⟩;rw[a3n q f1 hfb]at g1 g2;rw[eg,em];refine⟨g1,g2,g3.lit,hlike.trans g3.like,g3.dead.trans hdead,g3.broken.trans hbr,λx hxq=>?_,λi j hij=>?_,λi j=>?_,λa ha=>?_,?_⟩
   ·rcases List.mem_cons.1 hxq with rfl | hxq
    ·dsimp only;rw[g3.rest _ _ (.inr λy hy=>hne2 y hy),hb,if_pos ⟨rfl,rfl⟩,hdd,if_neg (by decide)]
    ·rw[g3.cells x hxq,hdead,hq x hxq,hfl x hxq]
   ·rw[g3.rest i j (hij.imp id λh' x hxq=>h' x (by simp[hxq])),hb,if_neg];rintro⟨rfl,rfl⟩;rcases hij with h' | h'
    ·exact h' rfl
    ·exact h' (d,s) (by simp) rfl
   ·have:=g3.flags i j;rw[this.1,this.2.1,this.2.2,hb];split
    ·rename_i h';rw[h'.1,h'.2];exact⟨rfl,rfl,rfl⟩
    ·exact⟨rfl,rfl,rfl⟩
   ·have:=g3.plan a ha;rw[hplan]at this;exact List.mem_of_mem_erase this
   ·rw[g3.ops,hops,hdead,List.filter_cons,if_pos (by dsimp only;rw[hdd];decide),List.length_cons];omega
structure RdyW (N:Nand) (b r m:Int):Prop where
 lit:N.Lit
 cells:∀d:Nat,L.has m (d:Nat)=true->N.dead.getD d false=false->((N.blk d b.toNat).cells.length:Int)=r
theorem RdyW.rdy {N:Nand} {b r m:Int} {l:List En} (h:RdyW N b r m) (hR:RowIs N b r m l):RdyR N b r (R.job b r m l):=by
 refine⟨h.lit,hR.nodup,λx hx=>⟨(hR.inn x hx).1,(hR.inn x hx).2.1⟩,hR.blk,hR.row,λx hx hd=>?_⟩;obtain⟨h1,h2,h3⟩:=hR.inn x hx;refine h.cells x.1.toNat ?_ hd
 rwa [show((x.1.toNat:Nat):Int)=x.1 from by omega]
theorem a4V {N:Nand} {b r m:Int} {l:List En} (h:RdyW N b r m) (hR:RowIs N b r m l):(R.write N b r m l).2.1=E6 N b r (R.job b r m l) 0/\(R.write N b r m l).2.2=(if E6 N b r (R.job b r m l) 0=0 then 0 else 7)/\WroteR N (R.write N b r m l).1 b r (R.job b r m l):=by
 unfold R.write;rw[if_pos hR.par];exact b5G b r _ N 0 (h.rdy hR)
end Go.Proofs.YtpohajhbfllbbaaGreat
namespace Go.Proofs.YtpohajhbfllbbaaGreat
namespace L
theorem with_dec:∀f,f<256->∀d,d<8->set (with_ (f:Nat) (d:Nat))=true/\∀e,e<8->has (with_ (f:Nat) (d:Nat)) (e:Nat)=(has (f:Nat) (e:Nat)||decide (e=d)):=by decide+kernel
theorem without_dec:∀f,f<256->∀d,d<8->set (without (f:Nat) (d:Nat))=true/\∀e,e<8->has (without (f:Nat) (d:Nat)) (e:Nat)=(has (f:Nat) (e:Nat)&& !decide (e=d)):=by decide+kernel
theorem all_dec:∀n,n<=8->set (all (n:Nat))=true/\∀e,e<8->has (all (n:Nat)) (e:Nat)=decide (e<n):=by decide+kernel
theorem set_has {m:Int} (h:set m=true):∃k:Nat,m=k/\k<256:=by
 rw[set_iff]at h;exact⟨m.toNat,by omega,by omega⟩
theorem has_rng {m d:Int} (h:has m d=true):∃k:Nat,d=k/\k<8:=by
 have:=has_lt m d h;exact⟨d.toNat,by omega,by omega⟩
theorem has_out {m d:Int} (h:¬(0<=d/\d<8)):has m d=false:=by
 cases hh:has m d with
 | false=>rfl
 | true=>have:=has_lt m d hh;omega
theorem set_with {f d:Int} (hf:set f=true) (hd:0<=d/\d<8):set (with_ f d)=true:=by
 obtain⟨F,rfl,hF⟩:=set_has hf;obtain⟨D,rfl⟩:=Int.eq_ofNat_of_zero_le hd.1;exact(with_dec F hF D (by omega)).1
theorem with_has {f d:Int} (hf:set f=true) (hd:0<=d/\d<8) (e:Int):has (with_ f d) e=(has f e||decide (e=d)):=by
 obtain⟨F,rfl,hF⟩:=set_has hf;obtain⟨D,rfl⟩:=Int.eq_ofNat_of_zero_le hd.1
 by_cases he:0<=e/\e<8
 ·obtain⟨E,rfl⟩:=Int.eq_ofNat_of_zero_le he.1;rw[(with_dec F hF D (by omega)).2 E (by omega)];have e2:decide (E=D)=decide ((E:Int)=(D:Int)):=by rw[decide_eq_decide];omega
  rw[e2]
 ·rw[has_out he,has_out he,decide_eq_false (by omega)];rfl
theorem set_without {f d:Int} (hf:set f=true) (hd:0<=d/\d<8):set (without f d)=true:=by
 obtain⟨F,rfl,hF⟩:=set_has hf;obtain⟨D,rfl⟩:=Int.eq_ofNat_of_zero_le hd.1;exact(without_dec F hF D (by omega)).1
theorem without_has {f d:Int} (hf:set f=true) (hd:0<=d/\d<8) (e:Int):has (without f d) e=(has f e&& !decide (e=d)):=by
 obtain⟨F,rfl,hF⟩:=set_has hf;obtain⟨D,rfl⟩:=Int.eq_ofNat_of_zero_le hd.1
 by_cases he:0<=e/\e<8
 ·obtain⟨E,rfl⟩:=Int.eq_ofNat_of_zero_le he.1;rw[(without_dec F hF D (by omega)).2 E (by omega)];have e2:decide (E=D)=decide ((E:Int)=(D:Int)):=by rw[decide_eq_decide];omega
  rw[e2]
 ·rw[has_out he,has_out he];rfl
theorem set_all (n:Nat) (h:n<=8):set (all n)=true:=(all_dec n h).1
theorem all_has (n:Nat) (h:n<=8) (e:Int):has (all n) e=(decide (0<=e)&&decide (e<n)):=by
 by_cases he:0<=e/\e<8
 ·obtain⟨E,rfl⟩:=Int.eq_ofNat_of_zero_le he.1;rw[(all_dec n h).2 E (by omega),decide_eq_true he.1,Bool.true_and,decide_eq_decide];omega
 ·rw[has_out he]
  by_cases h0:0<=e
  ·rw[decide_eq_false (p:=e<n) (by omega)];simp
  ·rw[decide_eq_false h0];rfl
theorem ext {m k:Int} (hm:set m=true) (hk:set k=true) (h:∀d:Nat,d<8->has m (d:Nat)=has k (d:Nat)):m=k:=by
 obtain⟨M,rfl,hM⟩:=set_has hm;obtain⟨K,rfl,hK⟩:=set_has hk;refine congrArg (Nat.cast:Nat->Int) (Nat.eq_of_testBit_eq λi=>?_)
 by_cases hi:i<8
 ·have:=h i hi;simp only[has,hm,hk,Bool.true_and,Int.toNat_natCast]at this;have e1:decide ((0:Int)<=(i:Int))=true:=decide_eq_true (by omega);have e2:decide ((i:Int)<8)=true:=decide_eq_true (by omega)
  rwa [e1,e2,Bool.true_and,Bool.true_and,Bool.true_and]at this
 ·have h8:∀M,M<256->M.testBit i=false:=λM hM=>Nat.testBit_lt_two_pow (Nat.lt_of_lt_of_le hM (by
   have:(2:Nat)^8<=2^i:=Nat.pow_le_pow_right (by omega) (by omega);omega))
  rw[h8 M hM,h8 K hK]
theorem has_zero (d:Int):has 0 d=false:=by
 unfold has;simp
end L
theorem a7k (x:Nat) (h:x<1000000):Go.IntKind.i64.wrap (x:Int)=x:=by
 show(if((true&&decide ((x:Int) % 18446744073709551616>=9223372036854775808))=true)then(x:Int) % 18446744073709551616-18446744073709551616 else(x:Int) % 18446744073709551616)=x;rw[if_neg (by rw[Bool.true_and,decide_eq_true_eq];omega)];omega
theorem a7g {a b:Int} (ha:L.set a=true) (hb:L.set b=true):L.set (Tl.andN a b)=true/\∀e:Int,L.has (Tl.andN a b) e=(L.has a e&& !L.has b e):=by
 obtain⟨A,rfl,hA⟩:=L.set_has ha;obtain⟨B,rfl,hB⟩:=L.set_has hb;have e1:((BitVec.ofInt 64 (A:Int)&&& ~~~BitVec.ofInt 64 (B:Int)).toNat)<256:=by
  rw[BitVec.toNat_and];refine Nat.lt_of_le_of_lt Nat.and_le_left ?_;rw[BitVec.toNat_ofInt];simp;omega
 have e2:∀i,i<8->(BitVec.ofInt 64 (A:Int)&&& ~~~BitVec.ofInt 64 (B:Int)).toNat.testBit i=(A.testBit i&& !B.testBit i):=λi hi=>by
  rw[BitVec.testBit_toNat,BitVec.getLsbD_and,BitVec.getLsbD_not];have h1:∀C:Nat,C<256->(BitVec.ofInt 64 (C:Int)).getLsbD i=C.testBit i:=λC hC=>by
   rw[<- BitVec.testBit_toNat,BitVec.toNat_ofInt];have:((C:Int) % (((2^64:Nat)):Int)).toNat=C:=by omega
   rw[this]
  rw[h1 A hA,h1 B hB,decide_eq_true (by omega),Bool.true_and]
 have e3:Tl.andN (A:Int) (B:Int)=((BitVec.ofInt 64 (A:Int)&&& ~~~BitVec.ofInt 64 (B:Int)).toNat:Int):=by
  unfold Tl.andN;show IntKind.i64.wrap (((BitVec.ofInt 64 (A:Int)&&& ~~~BitVec.ofInt 64 (B:Int)).toNat:Nat):Int)=_;generalize(BitVec.ofInt 64 (A:Int)&&& ~~~BitVec.ofInt 64 (B:Int)).toNat=x at e1;exact a7k x (by omega)
 generalize hx:(BitVec.ofInt 64 (A:Int)&&& ~~~BitVec.ofInt 64 (B:Int)).toNat=x at e1 e2 e3;rw[e3];have hs:L.set (x:Int)=true:=by rw[L.set_iff];omega
 refine⟨hs,λe=>?_⟩
 by_cases he:0<=e/\e<8
 ·obtain⟨E,rfl⟩:=Int.eq_ofNat_of_zero_le he.1;simp only[L.has,hs,ha,hb,Bool.true_and,Int.toNat_natCast];rw[decide_eq_true (p:=(0:Int)<=(E:Int)) (by omega),decide_eq_true (p:=(E:Int)<8) (by omega),e2 E (by omega)];rfl
 ·rw[L.has_out he,L.has_out he];rfl
theorem a1i {N:Nand} {b r:Int}:∀(q:List (Int×Sh)) (f:Int),L.set f=true->(∀x∈q,0<=x.1/\x.1<8)->L.set (E6 N b r q f)=true/\∀d:Int,L.has (E6 N b r q f) d=(L.has f d||q.any λx=>decide (x.1=d)&&N.failB b r x.1)
 | [],f,hf,_=>⟨hf,λd=>by simp[E6]⟩
 | x::q,f,hf,hq=>by
  have hx:=hq x (by simp);rw[E6];cases hb:N.failB b r x.1 with
  | false=>
   rw[if_neg Bool.false_ne_true];have ih:=a1i (N:=N) (b:=b) (r:=r) q f hf λy hy=>hq y (by simp[hy]);refine⟨ih.1,λd=>?_⟩;rw[ih.2,List.any_cons,hb,Bool.and_false,Bool.false_or]
  | true=>
   rw[if_pos rfl];have ih:=a1i (N:=N) (b:=b) (r:=r) q (L.with_ f x.1) (L.set_with hf hx) λy hy=>hq y (by simp[hy]);refine⟨ih.1,λd=>?_⟩;rw[ih.2,L.with_has hf hx,List.any_cons,hb,Bool.and_true,Bool.or_assoc];congr 2;rw[decide_eq_decide];omega
namespace Tl
theorem at_set {t:Tl} (hl:t.l.length=t.b) {k j:Int} (s:Sb) (hk:t.has k=true) (hj:t.has j=true):(t.set k s).at_ j=if j=k then s else t.at_ j:=by
 unfold set;rw[if_pos hk];simp only[has,Bool.and_eq_true,decide_eq_true_eq]at hk hj;unfold at_;dsimp only
 by_cases e:j=k
 ·subst e;rw[if_pos rfl,List.getD_eq_getElem?_getD,List.getElem?_set_self (by omega)];rfl
 ·rw[if_neg e,List.getD_eq_getElem?_getD,List.getElem?_set_ne (by omega),<- List.getD_eq_getElem?_getD]
theorem has_set (t:Tl) (k j:Int) (s:Sb):(t.set k s).has j=t.has j:=by unfold has;rw[set_b]
theorem has_iff {t:Tl} {k:Int}:t.has k=true↔0<=k/\k<t.b:=by simp[has]
theorem set_no {t:Tl} {k:Int} (s:Sb) (h:t.has k=false):t.set k s=t:=by unfold set;rw[h];rfl
end Tl
end Go.Proofs.YtpohajhbfllbbaaGreat
