/- Helpers. No condition. -/
import Derived.Test.YtmafiplddapokaaGreatT11
import Derived.ProofKit
import Derived.OpenShut
import Derived.ChangeOld
import Derived.Below
import Derived.Deep.Slices
import Derived.Deep.Strs
import Derived.Lib.SmallJoins
set_option maxRecDepth 20000
set_option linter.all false
namespace Go.Proofs.YtmafiplddapokaaGreat
section
def a9S (l:List Int):List Int:=J9 (a0X l)
theorem a3A:∀(l:List Int) (p:Int),(p::l).Pairwise (· <= ·)->(K9 p l).Pairwise (· < ·)/\(∀c∈K9 p l,p<c)/\∀c,c∈K9 p l\/c=p↔c∈l\/c=p
 | [],p,_=>by simp[K9]
 | x::l,p,h=>by
  have h1:=List.pairwise_cons.1 h;simp only[K9]
  by_cases e:x=p
  ·subst e;obtain⟨a,b,c⟩:=a3A l x h1.2;rw[d7 rfl];refine⟨a,b,λd=>?_⟩;rw[c d,I3];constructor
   ·rintro(h | h)<;>simp[h]
   ·rintro((h | h) | h)<;>simp[h]
  ·obtain⟨a,b,c⟩:=a3A l x h1.2;have hx:p<x:=by have:=h1.1 x (H5 ..);omega
   rw[d4 e];refine⟨List.pairwise_cons.2 ⟨b,a⟩,λd hd=>?_,λd=>?_⟩
   ·rcases List.mem_cons.1 hd with rfl | hd
    ·exact hx
    ·have:=b d hd;omega
   ·have:=c d;rw[I3,I3];constructor
    ·rintro((h | h) | h)
     ·simp[h]
     ·rcases this.1 (.inl h)with h | h<;>simp[h]
     ·simp[h]
    ·rintro((h | h) | h)
     ·simp[h]
     ·rcases this.2 (.inl h)with h | h<;>simp[h]
     ·simp[h]
theorem b0K (l:List Int):(a0X l).Pairwise (· <= ·):=by
 have:=List.pairwise_mergeSort (le:=leI) (λa b c h1 h2=>by simp only[leI,d6]at*;omega) (λa b=>by simp only[leI,j7,d6];omega) l;exact this.imp (λh=>by simpa[leI]using h)
theorem b5m (l:List Int) (c:Int):c∈a0X l↔c∈l:=List.mem_mergeSort
theorem b3x (l:List Int):(a9S l).Pairwise (· < ·)/\∀c,c∈a9S l↔c∈l:=by
 have hs:=b0K l;have hm:=b5m l;unfold a9S
 revert hs hm
 cases a0X l with
 | nil=>intro _ hm;exact⟨by simp[J9],λc=>by rw[<- hm c];simp[J9]⟩
 | cons x m=>
  intro hs hm;obtain⟨a,b,c⟩:=a3A m x hs;refine⟨List.pairwise_cons.2 ⟨b,a⟩,λd=>?_⟩;rw[<- hm d];show d∈x::K9 x m↔_;rw[I3,I3];have:=c d;constructor
  ·rintro(h | h)
   ·simp[h]
   ·rcases this.1 (.inl h)with h | h<;>simp[h]
  ·rintro(h | h)
   ·simp[h]
   ·rcases this.2 (.inl h)with h | h<;>simp[h]
theorem a9R:a9S []=[]:=by have:=(b3x []).2;exact List.eq_nil_iff_forall_not_mem.2 (λc hc=>by simpa using(this c).1 hc)
theorem b5D (l:List Int):(a9S l).length<=l.length:=by
 have h:∀(l:List Int),(J9 l).length<=l.length:=λl=>by
  have:∀(l:List Int) (p:Int),(K9 p l).length<=l.length:=λl=>by
   induction l with
   | nil=>intro p;simp[K9]
   | cons x l ih=>intro p;simp only[K9];split<;>simp only[l6]<;>have:=ih x<;>have:=ih p<;>omega
  cases l with
  | nil=>simp[J9]
  | cons x l=>have:=this l x;simp only[J9,l6];omega
 have:=h (a0X l);rw[a2T]at this;exact this
namespace V
theorem standOf_nil:standOf []=(Fnd.zero,false):=rfl
theorem tops_snoc (l:List Fnd) (x:Fnd):tops (l++[x])=topsStep (tops l) x:=by unfold tops;rw[B8];rfl
theorem standOf_snoc (l:List Fnd) (x:Fnd):standOf (l++[x])=if(standOf l).2=false\/behind (standOf l).1 x=true then(x,true)else standOf l:=by
 unfold standOf;rw[tops_snoc];cases tops l with
 | nil=>simp[topsStep]
 | cons h t=>
  simp only[topsStep,Bool.true_eq_false,false_or]
  by_cases hb:behind h x=true
  ·rw[d7 hb,d7 hb]
  ·rw[d4 hb,d4 hb]
   by_cases hb2:behind x h=true
   ·rw[d7 hb2]
   ·rw[d4 hb2];rfl
end V
end
section
open Go Go.RowKit
namespace B16
def e1:En:=⟨2,5,1,1::List.replicate 15 0⟩
def e2:En:=⟨2,4,1,2::List.replicate 15 0⟩
def e3:En:=⟨1,8,2,zeros16⟩
def w1:En:=⟨4,1,0,zeros16⟩
def w2:En:=⟨5,2,0,zeros16⟩
def w3:En:=⟨4,3,0,zeros16⟩
def N0:Nand:=Nand.new 3 8 2
def N1:Nand:=(R.write N0 1 0 7 [e1,B9.pad]).1
def N2:Nand:=(R.write N1 2 0 7 [e2,e3]).1
theorem G0:N0.Gd 100 0:=Nand.Gd.new 3 8 2 rfl 100 (by decide)
theorem G1:N1.Gd 92 0:=a5l (by decide) G0
theorem G2:N2.Gd 84 0:=a5l (by decide) G1
theorem off2:N2.off=false:=by kernel_rfl
def L:List Fnd:=[⟨e1,1,0,0,7,true,false⟩,⟨e2,2,0,0,7,true,false⟩,⟨e3,2,0,1,7,true,false⟩]
def T:Tb:=⟨3,[(1,⟨2,0,1,7,8,2⟩),(2,⟨1,0,0,7,5,1⟩)],[(2,1),(1,1)],9⟩
theorem h_all:V.all N2=L:=by kernel_rfl
theorem h_go:V.goS N2 L 3 3=⟨T,[],[],[]⟩:=by kernel_rfl
theorem h_size:V.size 3=3:=by kernel_rfl
theorem h_next:V.nextOf L=9:=by kernel_rfl
theorem h_scan:V.scan N2 3=⟨T,[],0,[],9,3⟩:=by
 unfold V.scan;rw[h_all];unfold V.scanOf;rw[h_size,h_go,h_next];have:J9 (a0X [])=[]:=a9R;dsimp only;rw[this];rfl
end B16
end
section
open Go Go.RowKit
theorem b5R:FP 233 [] [] (Ps (.bool true) []):=by
 refine FE [] Tryz.func233 λX F hX=>?_;refine J.qp (b5Q) [] λ_=>?_;exact J.qx []
open B16
theorem b5M:FP 196 [] [] (Ps (.bool true) []):=by
 refine FE [] Tryz.func196 λX F hX=>?_;refine J.qc (a9U 3 8 2 rfl) [] λ_=>?_;rintro v As ⟨q,rfl,rfl⟩;refine⟨_,rfl,trivial,?_⟩;refine J.qF λ_=>?_;refine J.q λbx=>?_;refine J.ca hX (by kernel_rfl) (a7s q N0 (.pt (bx 0) 101 (n9 [e1,B9.pad])) 1 0 7 (some ⟨bx 0,0,none⟩) 2 2 0 [e1,B9.pad] (a3K _ _ _ _ _ rfl) rfl (by decide) (G0.less (by decide) (j3 _))) [1,2] 0 rfl rfl rfl rfl rfl rfl (λ_=>rfl) ?_;refine cpq ⟨_,rfl,trivial,?_⟩;refine J.q λby_=>?_;refine J.ca hX (by kernel_rfl) (a7s q N1 (.pt (by_ 0) 101 (n9 [e2,e3])) 2 0 7 (some ⟨by_ 0,0,none⟩) 2 2 0 [e2,e3] (a3K _ _ _ _ _ rfl) rfl (by decide) (G1.less (by decide) (j3 _))) [1,3] 0 rfl rfl rfl rfl rfl rfl (λ_=>rfl) ?_;refine cpq ⟨_,rfl,trivial,?_⟩;refine J.qc (b6N q N2 G2.ok G2.room off2 3) [1] λ_=>?_;rintro v As ⟨r,a1,c1,a2,c2,rfl,rfl⟩;refine⟨_,rfl,trivial,?_⟩;rw[h_scan];refine J.qF λ_=>?_;refine J.qp (a6d r T 2) [4] λ_=>?_;rw[show Tb.look T.at_ 2=some ⟨1,0,0,7,5,1⟩from rfl,j4,a2J];refine J.qc (c1l) [] λ_=>?_;rintro v As ⟨d,rfl,rfl⟩;refine⟨_,rfl,trivial,?_⟩;refine J.qp (b4Q d [] (by decide) w1) [9] λ_=>?_;rw[show a3d [] w1=[w1]from rfl];refine J.qp (b4Q d [w1] (by decide) w2) [9] λ_=>?_;rw[show a3d [w1] w2=[w1,w2]from rfl];refine J.qp (b4Q d [w1,w2] (by decide) w3) [9] λ_=>?_;rw[show a3d [w1,w2] w3=[w2,w3]from rfl];refine J.qc (b4R d [w2,w3] (by decide) 5) [9] λ_=>?_;rintro v As ⟨a3,c3,rfl,rfl⟩;refine⟨_,rfl,trivial,?_⟩;rw[show dkN [w2,w3] 5=2 from rfl,show[w2,w3].take 2=[w2,w3]from rfl];refine J.know (λh' s=>D7 (c:=(a3,c3)) (by decide) (s.get (i:=10) rfl)) λhg=>?_;obtain⟨ga,rfl⟩:=hg;refine J.know (λh' s=>a0Z (show a1j _ _ (some ga) 2 c3 _ _ from s.get (i:=10) rfl)) λhcap=>?_;refine J.qp (c1m d [w2,w3] (by decide) 4) [9] λ_=>?_;rw[show a2E [w2,w3] 4=(w3,true)from rfl];refine J.qp (b5R) [] λ_=>?_;refine J.qp (b5P) [] λ_=>?_;refine J.qp (b6W r T) [4] λ_=>?_;refine J.q λ_=>?_;refine J.v (iI 5) rfl rfl (λhg a w he hw=>I4 tk rfl rfl he hg rfl rfl (hw.get (i:=10) rfl) rfl) ?_;refine J.q λ_=>?_;have hRd:Rd (l9 101 19 (some ga) 2 c3 (n9 [w2,w3])) (some ⟨ga,0,none⟩) 19 1 (n9 [w2]):=(Y6 101 19 (some ga) 2 c3 (n9 [w2,w3])).take 1 (by decide);refine J.qp (b8R d [w2,w3] (by decide) (l9 101 19 (some ga) 2 c3 (n9 [w2,w3])) (some ⟨ga,0,none⟩) 1 c3 [w2] hRd rfl (by decide)) [9,10] λ_=>?_;rw[show a0J [w2,w3] [w2]=[w3]from rfl];refine J.qp (b2P d [w3]) [9] λ_=>?_;exact J.qx []
end
section
open Go Go.RowKit
namespace K
theorem xor_cancel {a b c:Nat} (h:a ^^^ c=b ^^^ c):a=b:=by
 have:=congrArg (· ^^^ c) h;simpa[Nat.xor_assoc]using this
theorem round_inj {s t:Nat} (hs:s<4294967296) (ht:t<4294967296) (h:round s=round t):s=t:=by
 have odd:∀a:Nat,a % 2=0->(a ^^^ 1947962583) % 2=1:=λa ha=>by
  have h0:(a ^^^ 1947962583).testBit 0=true:=by
   rw[Nat.testBit_xor,Nat.testBit_zero,Nat.testBit_zero,n7 (by omega)];rfl
  rw[Nat.testBit_zero]at h0;exact a3g h0
 unfold round at h;split at h
 ·split at h
  ·omega
  ·have:=odd (t*2 % 4294967296) (by omega);omega
 ·split at h
  ·have:=odd (s*2 % 4294967296) (by omega);omega
  ·have:=xor_cancel h;omega
theorem rounds_inj:∀(n:Nat) {s t:Nat},s<4294967296->t<4294967296->rounds n s=rounds n t->s=t
 | 0,_,_,_,_,h=>h
 | n+1,s,t,hs,ht,h=>rounds_inj n hs ht (round_inj (rounds_lt n s hs) (rounds_lt n t ht) h)
theorem step_lt0 {s x:Nat} (hs:s<4294967296) (hx:x<256):s ^^^ (x*16777216)<4294967296:=Z9 (n:=32) (by omega) (by omega)
theorem step_inj {s t x:Nat} (hs:s<4294967296) (ht:t<4294967296) (hx:x<256) (h:step s x=step t x):s=t:=
 xor_cancel (rounds_inj 8 (step_lt0 hs hx) (step_lt0 ht hx) h)
theorem step_inj2 {s x y:Nat} (hs:s<4294967296) (hx:x<256) (hy:y<256) (h:step s x=step s y):x=y:=by
 have h1:=rounds_inj 8 (step_lt0 hs hx) (step_lt0 hs hy) h;rw[Nat.xor_comm s,Nat.xor_comm s]at h1;have:=xor_cancel h1;omega
theorem fold_inj (l:List UInt8):∀s t:Nat,s<4294967296->t<4294967296->l.foldl (λs x=>step s x.toNat) s=l.foldl (λs x=>step s x.toNat) t->s=t:=by
 induction l with
 | nil=>intro s t _ _ h;exact h
 | cons x l ih=>
  intro s t hs ht h;have hx:x.toNat<256:=x.toNat_lt;rw[B3,B3]at h;exact step_inj hs ht hx (ih _ _ (step_lt _ _ hs hx) (step_lt _ _ ht hx) h)
theorem sum_one (a b:List UInt8) (x y:UInt8) (h:sum (a++x::b)=sum (a++y::b)):x=y:=by
 unfold sum at h;rw[B8,B8,B3,B3]at h;have hs:=foldl_lt a 4294967295 (by omega);have hx:x.toNat<256:=x.toNat_lt;have hy:y.toNat<256:=y.toNat_lt;have:=step_inj2 hs hx hy (fold_inj b _ _ (step_lt _ _ hs hx) (step_lt _ _ hs hy) h);exact UInt8.toNat_inj.1 this
end K
namespace Bt
theorem byteAt_congr {a b:List Bool} {i j:Nat} (h:∀k,k<8->a.getD (i+k) false=b.getD (j+k) false):byteAt a i=byteAt b j:=by
 have h0:=h 0 (by omega);rw[Q4,Q4]at h0;unfold byteAt;rw[h0,h 1 (by omega),h 2 (by omega),h 3 (by omega),h 4 (by omega),h 5 (by omega),h 6 (by omega),h 7 (by omega)]
theorem pack_append (A C:List Bool) (q:Nat) (hA:A.length=8*q):pack (A++C)=pack A++pack C:=by
 apply z8;intro j;have hl:(pack A).length=q:=by rw[length_pack,hA];omega
 rw[I8,hl]
 by_cases hj:j<(A.length+C.length+7)/8
 ·rw[pack_get _ _ (by rw[d8];exact hj)];split
  ·rename_i h;rw[pack_get _ _ (by rw[hA];omega)];congr 2;refine byteAt_congr λk hk=>?_;simp only[d5];rw[E6 (by omega)]
  ·rename_i h;rw[pack_get _ _ (by omega)];congr 2;refine byteAt_congr λk hk=>?_;simp only[d5];rw[B1 (by omega)];congr 2;omega
 ·rw[j6 (by rw[length_pack,d8];omega),d4 (by omega),j6 (by rw[length_pack];omega)]
theorem bits_inj {u v:Nat} (hu:u<4294967296) (hv:v<4294967296) (h:pack (bits u 32)=pack (bits v 32)):u=v:=by
 have h1:=numAt_pack [] [] u 32 0 rfl;have h2:=numAt_pack [] [] v 32 0 rfl;simp only[R9,l8]at h1 h2;rw[h,h2]at h1;omega
end Bt
namespace S
theorem put_tail (s:Sh) (hs:s.data.length=16):put s=(put s).take 28++Bt.pack (Bt.bits (K.sum ((put s).take 28)) 32):=by
 have hl:(Bt.pack (head s)).length=12:=by rw[Bt.length_pack,length_head]
 have h1:put s=(s.data++Bt.pack (head s))++Bt.pack (Bt.bits (K.sum (s.data++Bt.pack (head s))) 32):=by
  unfold put;rw[Bt.pack_append _ _ 12 (length_head s),m9]
 have h2:(put s).take 28=s.data++Bt.pack (head s):=by
  rw[h1];exact D9 (by rw[d8,hs,hl])
 rw[h2];exact h1
theorem turned_none (s:Sh) (hs:s.data.length=16) (N:Nat) (hN:N<32) (y:UInt8) (hy:y≠(put s).getD N 0):get ((put s).set N y)=none:=by
 have hpl:=length_put s hs;unfold get;rw[d4];rintro⟨_,h2⟩;have hx:(fields ((put s).set N y)).data.length=16:=by
  show(((put s).set N y).take 16).length=16;rw[l5,A5,hpl];rfl
 have t1:=put_tail s hs;have t2:=put_tail (fields ((put s).set N y)) hx;rw[h2]at t2;have hd:∀l:List UInt8,l.length=32->∀t,l=l.take 28++t->l.drop 28=t:=λl hl t h=>by
  have:=congrArg (List.drop 28) h
  rwa [U8 (by rw[l5,hl];rfl)]at this
 have d1:=hd _ hpl _ t1;have d2:=hd _ (by rw[A5];exact hpl) _ t2;have hg:(put s).getD N 0=(put s)[N]'(by omega):=by rw[d5,c9 (by omega),j4]
 rcases L8 N 28 with h | h
 ·have e1:((put s).set N y).drop 28=(put s).drop 28:=by rw[List.drop_set,d7 h]
  rw[e1,d1]at d2;have hsum:=Bt.bits_inj (K.sum_lt _) (K.sum_lt _) d2;have hl28:((put s).take 28).length=28:=by rw[l5,hpl];rfl
  have hN28:N<((put s).take 28).length:=by omega
  have hel:((put s).take 28)[N]=(put s)[N]'(by omega):=a0o;have ha:(put s).take 28=((put s).take 28).take N++(put s)[N]'(by omega)::((put s).take 28).drop (N+1):=by
   rw[<- hel,<- y8 hN28,C4]
  have hb:((put s).set N y).take 28=((put s).take 28).take N++y::((put s).take 28).drop (N+1):=by
   rw[a4q,List.set_eq_take_append_cons_drop,d7 (by omega)]
  rw[hb]at hsum;have hsum:=(congrArg K.sum ha).symm.trans hsum;exact hy ((K.sum_one _ _ _ _ hsum).symm.trans hg.symm)
 ·have e1:((put s).set N y).take 28=(put s).take 28:=by rw[a4q,List.set_eq_of_length_le (by rw[l5,hpl];omega)]
  rw[e1]at t2;have e2:(put s).set N y=put s:=t2.trans t1.symm;have:=congrArg (λl:List UInt8=>l.getD N 0) e2;simp only[d5,A9,hpl,d7 hN,a0d,j4]at this;rw[d5]at hy;exact hy this
end S
section
variable {P : Program} {T : Tab} {E : Env} {n : Nat} {ac : Act} {w : World}
end
theorem gD {l:List Int} {i:Nat} (h:i<l.length):l[i]? =some (l.getD i 0):=by rw[d5,c9 h,j4]
theorem a5q (l:List Int) {j:Nat} (h1:1<=j) (h:j<l.length) (i:Nat):(a7Q l j).getD i 0=if i=j-1 then l.getD j 0 else if i=j then l.getD (j-1) 0 else l.getD i 0:=by
 unfold a7Q;rw[d5,A9,A5]
 by_cases e:j-1=i
 ·rw[d7 e,d7 (by omega),d7 e.symm,j4]
 ·rw[d4 e,d4 (by omega),A9]
  by_cases e2:j=i
  ·rw[d7 e2,d7 (by omega),d7 e2.symm,j4]
  ·rw[d4 e2,d4 (by omega),<- d5]
theorem b7Q {l:List Int} {x:Int}:x∈l↔∃i,i<l.length/\l.getD i 0=x:=by
 constructor
 ·intro h;obtain⟨i,hi,e⟩:=List.getElem_of_mem h;exact⟨i,hi,by rw[d5,c9 hi,j4];exact e⟩
 ·rintro⟨i,hi,e⟩;exact j9 (by rw[gD hi,e])
theorem b9G (l:List Int) {j:Nat} (h1:1<=j) (h:j<l.length) (x:Int):x∈a7Q l j↔x∈l:=by
 rw[b7Q,b7Q,a2S];constructor
 ·rintro⟨i,hi,e⟩;rw[a5q l h1 h]at e;split at e
  ·exact⟨j,h,e⟩
  ·split at e
   ·exact⟨j-1,by omega,e⟩
   ·exact⟨i,hi,e⟩
 ·rintro⟨i,hi,e⟩
  by_cases e1:i=j
  ·exact⟨j-1,by omega,by rw[a5q l h1 h,d7 rfl,<- e1,e]⟩
  ·by_cases e2:i=j-1
   ·exact⟨j,h,by rw[a5q l h1 h,d4 (by omega),d7 rfl,<- e2,e]⟩
   ·exact⟨i,hi,by rw[a5q l h1 h,d4 e2,d4 e1,e]⟩
theorem b1Q:∀(j:Nat) (l:List Int) (x:Int),j<l.length->(x∈a3X j l↔x∈l)
 | 0,_,_,_=>Iff.rfl
 | j+1,l,x,h=>by
  unfold a3X;split
  ·rw[b1Q j _ x (by rw[a2S];omega),b9G l (by omega) h]
  ·exact Iff.rfl
theorem a9F:∀(j n:Nat) (l:List Int),j<=n->n<l.length->(∀a b,a<b->b<=n->a≠j->b≠j->l.getD a 0<=l.getD b 0)->(∀b,j<b->b<=n->l.getD j 0<=l.getD b 0)->∀a b,a<b->b<=n->(a3X j l).getD a 0<=(a3X j l).getD b 0
 | 0,n,l,_,_,hs,hu=>λa b hab hb=>by
  unfold a3X
  by_cases e:a=0
  ·subst e;exact hu b hab hb
  ·exact hs a b hab hb e (by omega)
 | j+1,n,l,hj,hn,hs,hu=>by
  unfold a3X;split
  ·rename_i hlt;have g:=a5q l (j:=j+1) (by omega) (by omega);simp only[Q0]at g;refine a9F j n (a7Q l (j+1)) (by omega) (by rw[a2S];exact hn) (λa b hab hb ha hbj=>?_) (λb hjb hb=>?_)
   ·rw[g,g,d4 ha,d4 hbj]
    by_cases e1:a=j+1
    ·rw[d7 e1,d4 (by omega)];exact hs j b (by omega) hb (by omega) (by omega)
    ·rw[d4 e1]
     by_cases e2:b=j+1
     ·rw[d7 e2];exact hs a j (by omega) (by omega) e1 (by omega)
     ·rw[d4 e2];exact hs a b hab hb e1 e2
   ·rw[g,g,d7 rfl,d4 (by omega)]
    by_cases e2:b=j+1
    ·rw[d7 e2];omega
    ·rw[d4 e2];exact hu b (by omega) hb
  ·rename_i hge;intro a b hab hb
   by_cases e1:a=j+1
   ·subst e1;exact hu b hab hb
   ·by_cases e2:b=j+1
    ·subst e2
     by_cases e3:a=j
     ·subst e3;omega
     ·have:=hs a j (by omega) (by omega) e1 (by omega);omega
    ·exact hs a b hab hb e1 e2
theorem b0f (l:List Int) (x:Int):∀k,k<l.length->(x∈a0u l k↔x∈l)
 | 0,_=>Iff.rfl
 | k+1,h=>by
  unfold a0u;rw[b1Q _ _ x (by rw[a2g];exact h)];exact b0f l x k (by omega)
theorem a8D (l:List Int):∀k,k<l.length->∀a b,a<b->b<=k->(a0u l k).getD a 0<=(a0u l k).getD b 0
 | 0,_=>λa b hab hb=>by omega
 | k+1,h=>by
  unfold a0u;have ih:=a8D l k (by omega);exact a9F (k+1) (k+1) (a0u l k) (j3 _) (by rw[a2g];exact h) (λa b hab hb ha hbk=>ih a b hab (by omega)) (λb hb1 hb2=>by omega)
theorem b3I (l:List Int) (x:Int):x∈a0t l↔x∈l:=by
 unfold a0t;cases l with
 | nil=>exact Iff.rfl
 | cons y l=>exact b0f (y::l) x _ (by simp)
theorem b2A (l:List Int):(a0t l).Pairwise (· <= ·):=by
 rw[List.pairwise_iff_getElem];intro i j hi hj hij;have hl:(a0t l).length=l.length:=a1n l;have h:=a8D l (l.length-1) (by omega) i j hij (by omega);have h1:(a0t l).getD i 0<=(a0t l).getD j 0:=h
 rwa [d5,d5,c9 hi,c9 hj]at h1
theorem a5c:∀(l:List Int) (p:Int),(p::l).Pairwise (· <= ·)->(p::K9 p l).Pairwise (· < ·)/\∀y,y∈p::K9 p l↔y∈p::l
 | [],p,_=>⟨by simp[K9],λy=>by simp[K9]⟩
 | x::l,p,h=>by
  have hpx:=List.pairwise_cons.1 h;have hx:=List.pairwise_cons.1 hpx.2;unfold K9
  by_cases e:x=p
  ·rw[d7 e,e];obtain⟨s1,s2⟩:=a5c l p (List.pairwise_cons.2 ⟨λy hy=>hpx.1 y (by simp[hy]),hx.2⟩);refine⟨s1,λy=>?_⟩;rw[s2 y];simp
  ·rw[d4 e];obtain⟨s1,s2⟩:=a5c l x hpx.2;have hlt:p<x:=by have:=hpx.1 x (by simp);omega
   refine⟨List.pairwise_cons.2 ⟨λy hy=>?_,s1⟩,λy=>?_⟩
   ·have hy2:=(s2 y).1 hy;rcases List.mem_cons.1 hy2 with e2 | e2
    ·omega
    ·have:=hx.1 y e2;omega
   ·have:=s2 y;simp only[I3]at this ⊢;constructor
    ·rintro(h1 | h1)
     ·exact .inl h1
     ·exact .inr (this.1 h1)
    ·rintro(h1 | h1)
     ·exact .inl h1
     ·exact .inr (this.2 h1)
theorem a8Q (l:List Int) (h:l.Pairwise (· <= ·)):(J9 l).Pairwise (· < ·)/\∀y,y∈J9 l↔y∈l:=by
 cases l with
 | nil=>exact⟨List.Pairwise.nil,λy=>Iff.rfl⟩
 | cons p l=>exact a5c l p h
structure Nand.Lit (N:Nand):Prop where
 off:N.off=false
 cuts:N.cuts=false
namespace Nand
theorem Lit.cutB {N:Nand} (h:N.Lit):N.cutB=false:=by unfold Nand.cutB;rw[h.cuts];rfl
theorem Lit.cutN {N:Nand} (h:N.Lit):N.cutN.Lit:=by
 constructor
 ·show(if N.cutB then true else N.off)=false;rw[h.cutB];exact h.off
 ·show(if N.cutB then false else N.cuts)=false;rw[h.cutB];exact h.cuts
theorem Lit.new (d b p:Nat):(Nand.new d b p).Lit:=⟨rfl,rfl⟩
theorem Lit.prog {N:Nand} (h:N.Lit) (x y z:Int) (pg:List UInt8):(N.progN x y z pg).Lit:=by
 unfold Nand.progN;split
 ·exact h
 ·split
  ·exact⟨h.off,h.cuts⟩
  ·rw[h.cutB];exact⟨h.cutN.off,h.cutN.cuts⟩
theorem Lit.erase {N:Nand} (h:N.Lit) (x y:Int):(N.eraseN x y).Lit:=by
 unfold Nand.eraseN;dsimp only;rw[h.cutB];split
 ·exact h
 ·rw[d4 (by decide)];split
  ·exact⟨h.cutN.off,h.cutN.cuts⟩
  ·exact⟨h.cutN.off,h.cutN.cuts⟩
end Nand
theorem a2j {α:Type} (f:α->List Value) (w:Nat) (hw:∀x,(f x).length=w):∀(l:List α) (k:Nat) (x:α),l[k]? =some x->((l.flatMap f).drop (k*w)).take w=f x
 | [],k,x,h=>by simp at h
 | y::l,0,x,h=>by
  simp at h;subst h;rw[z7,Q3,a0b,D9 (hw y)]
 | y::l,k+1,x,h=>by
  have ih:=a2j f w hw l k x (by simpa using h);rw[z7,show(k+1)*w=(f y).length+k*w from by rw[hw y,Nat.add_mul,Nat.one_mul,a0U],<- C2,U8 rfl];exact ih
end
section
open Go Go.RowKit
open Go.ChangeShapes Go.WideShapes
def frz (W:World):Atom:= .hp ⟨Hle (hl W),λ_ _ l s=>s.trans l⟩
theorem c2c {W:World} {a:Option Addr} {size n:Nat} {xs:List Value} (h:rdP a size n xs (hl W)):Rd (frz W) a size n xs:=λ_ s=>h.up s
theorem Fn.whole {P:Program} {f:FuncId} {args:List Value} {r:Value} {W:World} (h:Fn P f args [frz W] (λv As=>v=r/\As=[frz W])):Calls P f args.toArray W λe w'=>e= .returned r/\Below W.heap.size W w':=by
 have hs:Sep (.hp ⟨λ_=>True,λ_ _ _ s=>s⟩::[frz W]) (hl W):=by
  refine⟨λ_=>1,λi A hA=>?_⟩
  match i,hA with
  | 0,hA=>simp at hA;subst hA;trivial
  | 1,hA=>
   simp at hA;subst hA;intro b o hb;exact res_some.2 ⟨rfl,hb⟩
  | i+2,hA=>simp at hA
 refine(h _ W hs).mono λe w' ⟨v,As,e1,⟨e2,e3⟩,s,x⟩=>?_;subst e2 e3;have hle:Hle (hl W) (hl w'):=s.get (i:=1) rfl;refine⟨e1,x.os,x.tape,x.output,x.size,λk hk=>?_⟩;have:W.heap[k]? =some W.heap[k]:=O1 hk;rw[this];exact hle k _ this
theorem b9S {size:Nat} {h:Hl}:rdP none size 0 [] h:=⟨by simp,λh=>absurd h (by omega)⟩
theorem b9R {α:Type} {W:World} {base size n:Nat} {a:Addr} (f:α->List Value) (hsz:0<size)
  (h:∀i,i<n->∃x,W.cells? base (a.add (i*size)) size=some (f x)):∃l:List α,l.length=n/\rdP (some a) size n (l.flatMap f) (hl W):=by
 have h1:∀m,m<=n->∃l:List α,l.length=m/\(l.flatMap f).length=m*size/\∀i,i<m*size->W.cell? (a.add i)=(l.flatMap f)[i]?:=by
  intro m
  induction m with
  | zero=>exactλ_=>⟨[],rfl,by simp,λi hi=>by omega⟩
  | succ m ih=>
   intro hm;obtain⟨l,e1,e2,e3⟩:=ih (by omega);obtain⟨x,hx⟩:=h m (by omega);obtain⟨_,q1,q2⟩:=World.cells?_some hx;have hlen:((l++[x]).flatMap f).length=(m+1)*size:=by simp[K1,e2,q1,P6]
   refine⟨l++[x],by simp[e1],hlen,λi hi=>?_⟩;rw[K1,I8,e2];split
   ·exact e3 i (by assumption)
   ·rename_i hge;have:=q2 (i-m*size) (by rw[P6]at hi;omega);rw[Deep.add_add,show m*size+(i-m*size)=i by omega]at this;rw[this];simp
 obtain⟨l,e1,e2,e3⟩:=h1 n (j3 n);refine⟨l,e1,e2,λhn=>?_⟩;obtain⟨b,o,sp⟩:=a;have hpos:0<n*size:=Nat.mul_pos hn hsz;have h0:=e3 0 hpos;have hv:(l.flatMap f)[0]? =some ((l.flatMap f)[0]'(by omega)):=c9 _;rw[hv]at h0;have hsp:sp=none:=by simpa[Addr.add]using World.cell?_spot h0
 subst hsp;have hcell:∀i,W.cell? ⟨b,o+i,none⟩=W.cell? ((⟨b,o,none⟩:Addr).add i):=λi=>by rw[Addr.add_none]
 have hblk:∃cs ty fr,W.heap[b]? =some (.cells cs ty fr):=by
  unfold World.cell? at h0;cases hh:W.heap[b]? with
  | none=>simp[Addr.add,hh]at h0
  | some ob=>
   cases ob with
   | cells cs ty fr=>exact⟨cs,ty,fr,rfl⟩
   | _=>simp[Addr.add,hh]at h0
 obtain⟨cs,ty,fr,hh⟩:=hblk;refine⟨b,o,cs,ty,fr,rfl,hh,?_⟩;apply z8;intro i;rw[C6];split
 ·rename_i hi;rw[<- e3 i hi,<- hcell,cell_of_row W b (o+i) cs ty fr hh];simp
 ·rename_i hi;exact(j6 (by omega)).symm
section
variable {H : Type} {enc : TypeId × Value → H} {w : World} {base : Nat} {spare : Nat → Bool} {held : Bool}
theorem b7G {fuel:Nat} {cs:List Value} {y:DataW H×List MemPlace} (h:DataW.trod enc Tryz.prog w base spare held fuel 5 cs=some y):∃b:UInt8,cs=[bv b]:=by
 obtain⟨n,rfl,_,hw⟩:=DataW.trod_int Tryz.underlying5 h;have:0<=n/\n<=255:=by simpa[Lit.wf,IntKind.min,IntKind.max,IntKind.signed,IntKind.bits]using hw
 refine⟨UInt8.ofNat n.toNat,?_⟩;simp only[bv,U9,and_true];congr 1;have:n.toNat<256:=by omega
 have h2:(UInt8.ofNat n.toNat).toNat=n.toNat:=by simp;omega
 rw[h2];omega
theorem b8V {m:Nat} {fuel:Nat}:∀{cs:List Value},cs.length=m->(∀i,i<m->∃y,DataW.trod enc Tryz.prog w base spare held fuel 5 ((cs.drop i).take 1)=some y)->∃l:List UInt8,l.length=m/\cs=l.map bv:=by
 induction m with
 | zero=>intro cs h _;exact⟨[],rfl,m7 h⟩
 | succ m ih=>
  intro cs h hx
  match cs,h with
  | c::r,h=>
   obtain⟨y,hy⟩:=hx 0 (by omega);obtain⟨b,hb⟩:=b7G hy;obtain⟨l,e1,e2⟩:=ih (cs:=r) (by simpa using h) (λi hi=>by simpa using hx (i+1) (by omega));refine⟨b::l,by simp[e1],?_⟩;simp at hb;simp[hb,e2]
theorem a0p {t:TypeId} (ht:Tryz.prog.underlying t=some (.int .i64)) {fuel:Nat} {cs:List Value} {y:DataW H×List MemPlace} (h:DataW.trod enc Tryz.prog w base spare held fuel t cs=some y):∃n,cs=[.int .i64 n]:=by
 obtain⟨n,rfl,_,_⟩:=DataW.trod_int ht h;exact⟨n,rfl⟩
theorem c0R {fuel:Nat} {cs:List Value} {y:DataW H×List MemPlace} (h:DataW.trod enc Tryz.prog w base spare held fuel 36 cs=some y):∃l:List UInt8,l.length=16/\cs=H4 l:=by
 obtain⟨xs,m,_,_,hl,hlen,hx⟩:=DataW.trod_array Tryz.underlying36 h;have h1:Tryz.prog.cellsOf 5=1:=by kernel_rfl
 have h16:Tryz.prog.cellsOf 36=16:=by kernel_rfl
 obtain⟨l,e1,e2⟩:=b8V (m:=16) (hl.trans h16) (λi hi=>by
  have:=hx i hi;rw[h1,U7,c9 (by omega)]at this;exact⟨_,this⟩)
 refine⟨l,e1,?_⟩
 match l,e1 with
 | [_,_,_,_,_,_,_,_,_,_,_,_,_,_,_,_],_=>subst e2;rfl
end
end
section
open Go Go.RowKit
open Go.ChangeShapes Go.WideShapes Go.ChangeAt
section
variable {H : Type} {enc : TypeId × Value → H} {w : World} {base : Nat} {spare : Nat → Bool} {held : Bool}
theorem b5A {α:Type} {held':Bool} {fuel:Nat} {st et:TypeId} {size:Nat} (f:α->List Value) (good:α->Prop) (hu:Tryz.prog.underlying st=some (.slice et)) (hc:Tryz.prog.cellsOf et=size) (hsz:0<size)
  (hof:∀{fuel:Nat} {held:Bool} {cs:List Value} {y:DataW H×List MemPlace},DataW.trod enc Tryz.prog w base spare held fuel et cs=some y->∃x:α,good x/\cs=f x)
  {a:Option Addr} {len cap:Nat} {x:DataW H×List MemPlace} (h:DataW.trod enc Tryz.prog w base spare held' fuel st [.slice a len cap]=some x):
  ∃l:List α,l.length=len/\(∀e∈l,good e)/\rdP a size len (l.flatMap f) (hl w):=by
 rcases Deep.open_slice hu h with⟨hcs,_⟩ | ⟨a',len',cap',m,n,D,Pl,hcs,hb,hlc,hm,hmm,rfl,hx⟩
 ·simp at hcs;obtain⟨rfl,rfl,rfl⟩:=hcs;exact⟨[],rfl,λ_ h=>by simp at h,b9S⟩
 ·simp at hcs;obtain⟨rfl,rfl,rfl⟩:=hcs;rw[hc]at hx;obtain⟨l,e1,e2⟩:=b9R (W:=w) (base:=base) (size:=size) (n:=len) (a:=a') (λe:{e:α//good e}=>f e.1) hsz (λi hi=>by
   obtain⟨cs,q1,q2⟩:=hx i (by rw[hmm];split<;>omega);obtain⟨e,he,rfl⟩:=hof q2;exact⟨⟨e,he⟩,q1⟩)
  refine⟨l.map (·.1),by simpa using e1,λe he=>?_,?_⟩
  ·obtain⟨x,_,rfl⟩:=List.mem_map.1 he;exact x.2
  ·rw[List.flatMap_map];exact e2
end
end
section
open Go Go.RowKit
open Go.ChangeShapes Go.WideShapes Go.ChangeAt
section
variable {H : Type} {enc : TypeId × Value → H} {w : World} {base : Nat} {spare : Nat → Bool} {held : Bool}
end
end
section
open Go Go.RowKit
def rdA (a:Option Addr) (size n:Nat) (xs:List Value):Atom:= .hp ⟨rdP a size n xs,λ_ _ l s=>s.up l⟩
theorem b0T (a:Option Addr) (size n:Nat) (xs:List Value):Rd (rdA a size n xs) a size n xs:=λ_ s=>s
def R6:Option (Nat×Nat)->Option Addr
 | some x=>some ⟨x.1,x.2,none⟩
 | none=>none
def a3e (a:Option (Nat×Nat)) (size h c:Nat):Option (Nat×Nat):=match a with
 | some y=>if c=h then some y else some (y.1,y.2+h*size)
 | none=>none
section
variable {P : Program} {T : Tab} {E : Env} {n : Nat} {ac : Act} {w : World}
theorem a3B (hT:TabOK P T) {o:Oper} {t e size:Nat} {x y:Operand} {k1 k2 t1 t2:Nat} {g1 g2:G} {a:Option (Nat×Nat)} {m c h:Nat} {kk:IntKind} {hI:Int} {s1 b1 b2:Nat} {z1 z2:List Value} {td:TD} (hop:o.op= .slice t x (some y) none none) (hx:ev E x=some ⟨k1, .slice (R6 a) m c,t1,g1⟩) (hy:ev E y=some ⟨k2, .int kk hI,t2,g2⟩) (he:EnvOK n E ac) (v1:g1.on=true) (v2:g2.on=true)
  (ht:T.get t=some ⟨.slice e size,s1,z1,b1⟩) (hte:T.get e=some ⟨td,size,z2,b2⟩) (hhI:hI=(h:Int)) (hh:h<=m):
  (execOp ac.eval o).run P w= .ok (.value (.slice (R6 (a3e a size h c)) (m-h) (c-h))) w:=by
 subst hhI;have e1:=C8 he hx;have e2:=C8 he hy;simp only[Slot.val,v1,v2]at e1 e2;obtain⟨d,f,zv,ok⟩:=C1 (hT.get ht);obtain⟨fe,rfl,g1,g2⟩:=ok.slice rfl;cases a with
 | none=>
  simp only[execOp,hop,C9,O5,e1,e2,Instr.sliceAt,Instr.slice,Instr.sliceBounds,Instr.sliceBound,asIntOf,Sem.run_bind,Sem.run_pure,Result.andThen_ok,s9 ok.hd,I9 g1,g2];simp[hh,R6,a3e]
 | some ad=>
  by_cases hne:c=h
  ·simp only[execOp,hop,C9,O5,e1,e2,Instr.sliceAt,Instr.slice,Instr.sliceBounds,Instr.sliceBound,asIntOf,Sem.run_bind,Sem.run_pure,Result.andThen_ok,s9 ok.hd,I9 g1,g2];simp[hh,hne,Addr.add_none,R6,a3e]
  ·simp only[execOp,hop,C9,O5,e1,e2,Instr.sliceAt,Instr.slice,Instr.sliceBounds,Instr.sliceBound,asIntOf,Sem.run_bind,Sem.run_pure,Result.andThen_ok,s9 ok.hd,I9 g1,g2];simp[hh,hne,Addr.add_none,R6,a3e]
end
section
variable {X : Cx} {P : Program} {K : List KI} {E : Env} {L : List Atom} {N : Nat} {F : HP} {Post : Value → List Atom → Prop} {rs : List ResultVar} {T : Tab}
theorem J.appendRO (hX:IsCx X P rs N F Post) (hT:TabOK P T) {ops:Array Oper} {C:Cl} {lt:Bool} {i:Nat} {t:PT} {o:Oper} {x y:Operand} {st e size by_:Nat} {ks tgs:Nat} {gs:G} {a:Option Nat} {n cap:Nat} {xs:List Value} {ky tgy:Nat} {gy:G} {ay:Option (Nat×Nat)} {m cy:Nat} {cs:List Value} {s1 b1:Nat} {z1:List Value} {E':Value->Env} {Ay:Atom} (is iy:Nat) (hc0:ay=none->cy=0)
  (ho:J2 ops.toList i=some o) (hg:gd ops.toList E o=some .tt) (hop:o.op= .call ⟨.builtin .append,#[x,y],#[st,st]⟩)
  (hx:ev E x=some ⟨ks,slv a n cap,tgs,gs⟩) (hvx:gs.on=true) (hy:ev E y=some ⟨ky, .slice (R6 ay) m cy,tgy,gy⟩) (hvy:gy.on=true)
  (hLs:J2 L is=some (l9 e size a n cap xs)) (hLy:J2 L iy=some Ay) (hrd:Rd Ay (R6 ay) size m cs) (hst:T.get st=some ⟨.slice e size,s1,z1,b1⟩) {td:TD} {z:List Value} (he:T.get e=some ⟨td,size,z,by_⟩) (hz:Nat.beq z.length size=true)
  (hsz:Nat.blt 0 size=true) (h1:∀u∈cs,u.oneCell'=true) (h63:n+m<=maxLen) (hbytes:(n+m)*by_<=140737488355328)
  (hd:∀v,Y5 N o.dst v 0 .tt E=some (E' v))
  (hJ:∀a' cap',∃L',V2 L is (l9 e size a' (n+m) cap' (xs++cs))=some L'/\Conj (M6 lt C L')/\J X (.reg ops C t::K) (E' (slv a' (n+m) cap')) L'):J X (.reg ops C (.alt lt i t .non)::K) E L:=by
 cases ay with
 | some b=>exact J.appendR hX hT (oo:=b.2) is iy 0 ho hg rfl hop hx hvx hy hvy hLs hLy hrd hst he hz hsz h1 h63 hbytes hd hJ
 | none=>
  obtain rfl:=hc0 rfl;rw[J1]at hLs hLy;refine J.know (p:=cs.length=m*size/\m=0) (λh s=>⟨(hrd _ (s.get hLy)).1,by
   rcases P9 m with h0 | h0
   ·exact h0
   ·obtain⟨_,_,_,_,_,e,_⟩:=(hrd _ (s.get hLy)).2 h0;cases e⟩) λhk=>?_
  obtain⟨q1,rfl⟩:=hk;have hcs:cs=[]:=m7 (by rw[q1,Q3]);subst hcs;obtain⟨L',e1,e2,e3⟩:=hJ a cap;rw[Q4,l8]at e1;rw[Q4]at e3;have hL:L'=L:=by
   rw[V0 e1];apply z8;intro j;rw[A9];split
   ·rename_i e;subst e;split
    ·exact hLs.symm
    ·rename_i e4;rw[j6 (by omega)]
   ·rfl
  subst hL;exact J.val hX (slv a n cap) 0 ho hg (λ_ ac w hen hs=>a3P hT hop hx hvx hy hvy hen hst he (show a1j e size a n cap xs (hl w)from hs.get hLs)) (hd _) e2 e3
end
theorem a8k {e size:Nat} {a:Option Nat} {n cap:Nat} {xs:List Value} {h:Hl} (s:a1j e size a n cap xs h):a=none->cap=0:=λe=>by subst e;exact s.2.2
theorem b0S {a:Option (Nat×Nat)} {size n c h:Nat} {xs:List Value} {hh:Hl} (s:rdP (R6 a) size n xs hh) (hn:h<=n) (hc:n<=c):rdP (R6 (a3e a size h c)) size (n-h) (xs.drop (h*size)) hh:=by
 cases a with
 | none=>
  refine⟨by rw[C5,s.1,Nat.sub_mul],λh0=>?_⟩;obtain⟨b,o,_,_,_,e,_⟩:=s.2 (by omega);cases e
 | some y=>
  by_cases e:c=h
  ·refine⟨by rw[C5,s.1,Nat.sub_mul],λh0=>by omega⟩
  ·unfold a3e;simp only[d4 e];exact(b0T (some ⟨y.1,y.2,none⟩) size n xs).drop h hn _ s
theorem b5C {a:Option (Nat×Nat)} {size n:Nat} {xs:List Value} {h:Hl} (s:rdP (R6 a) size n xs h) (hn:0<n):∃y,a=some y:=by
 cases a with
 | none=>obtain⟨_,_,_,_,_,e,_⟩:=s.2 hn;cases e
 | some y=>exact⟨y,rfl⟩
theorem b2V (L:List En):∀k,(n9 L).drop (k*19)=n9 (L.drop k):=by
 induction L with
 | nil=>intro k;simp[n9]
 | cons x l ih=>
  intro k;cases k with
  | zero=>simp
  | succ k=>
   have e1:n9 (x::l)=enL x++n9 l:=by simp[n9]
   rw[e1,X8,<- ih k,show(k+1)*19=(enL x).length+k*19 from by show _=19+k*19;omega,<- C2,U8 rfl]
theorem b4m {a:Option (Nat×Nat)} {n c h:Nat} {L:List En} {hh:Hl} (s:rdP (R6 a) 19 n (n9 L) hh) (hl:L.length=n) (hn:h<=n) (hc:n<=c):rdP (R6 (a3e a 19 h c)) 19 (L.drop h).length (n9 (L.drop h)) hh:=by
 have:=b0S s hn hc
 rwa [b2V,<- hl,<- C5]at this
theorem a4E {a:Option (Nat×Nat)} {size h c:Nat} (hz:a=none->c=0):a3e a size h c=none->c-h=0:=by
 cases a with
 | none=>intro _;rw[hz rfl];omega
 | some y=>intro e;unfold a3e at e;simp only at e;split at e<;>cases e
theorem b0Z (n t l p:Nat) (S:Dv) (k mm:Nat) (A:Atom) (a:Option (Nat×Nat)) (m c:Nat) (es:List En) (hA:Rd A (R6 a) 19 m (n9 es)) (hl:es.length=m) (hm:m<=1000000) (hc:m<=c) (ha:a=none->c=0) (hd:∀s∈es,s.data.length=16) (hO:S.Ok (Dv.costT*m+k) mm) (hmm:mm<=1000):
  FP 62 [pp n,pp t,pp l,pp p, .slice (R6 a) m c] (DvP p n t l S++[A])
  (Ps (iI (S.torn es).2) (DvP p n t l (S.torn es).1++[A])):=by
 subst hl;refine FE [3,4,5,2,0] Tryz.func62 λX F hX=>?_;refine J.q λ_=>?_;refine J.l (α:=(Nat×Dv×List En×Option (Nat×Nat)×Nat)) (λz=>z.2.2.1.length<=z.1/\z.2.2.1.length<=z.2.2.2.2/\z.2.2.1.length<=1000000/\(z.2.2.2.1=none->z.2.2.2.2=0)/\Rd A (R6 z.2.2.2.1) 19 z.2.2.1.length (n9 z.2.2.1)/\(∀s∈z.2.2.1,s.data.length=16)/\z.2.1.Ok (Dv.costT*z.1+k) mm/\Dv.tornGo z.1 z.2.1 z.2.2.1=S.torn es) (λz=>[sv 4 (.slice (R6 z.2.2.2.1) z.2.2.1.length z.2.2.2.2),⟨0,pp n,3, .tt⟩,⟨1,pp t,4, .tt⟩,⟨2,pp l,5, .tt⟩,⟨3,pp p,2, .tt⟩]) [1,2,3,4] (λz=>DvP p n t l z.2.1) (λz=>z.1) ((es.length,S,es,a,c)) (⟨j3 _,hc,hm,ha,hA,hd,hO,rfl⟩) λz hI=>?_;obtain⟨j,Q,L,a',c'⟩:=z;dsimp only at hI ⊢;obtain⟨hj,hLc,hLm,ha',hAr,hLd,hQ,hw⟩:=hI;refine J.qd (λ_ h1=>?_) λ_ h1=>?_
 ·simp only[d6]at h1;have hL0:L.length≠0:=by omega
  obtain⟨j,rfl⟩:∃i,j=i+1:=⟨j-1,by omega⟩;rw[Dv.tornGo,d4 hL0]at hw;dsimp only at hw;have hQ1:Q.Ok (Dv.costM+(8*Dv.fuel+(Dv.costT*j+k))) mm:=hQ.less (by unfold Dv.costT Dv.cost;rw[J7];omega);have hr:=Dv.room_keep hQ1;refine J.qp (a5s n t l p Q _ mm hQ1 hmm) [1,2,3,4] λ_=>?_;generalize Q.room=W at hw hr ⊢;obtain⟨P,er⟩:=W;dsimp only at hw hr ⊢;refine J.qd (λ_ h2=>?_) λ_ h2=>?_
  ·simp only[G9,I1]at h2;rw[d7 h2]at hw;refine J.qr [1,2,3,4,5] λ_=>?_;rw[<- hw];exact⟨rfl,rfl⟩
  simp only[A8]at h2;rw[d4 (by rw[h2];decide)]at hw;have htook:=λh0=>Dv.pen_took hr.1 hLd h0 hL0;have hkeep:=Dv.pen_keep hr.1 hLd;refine J.qp (a4a p n t l P _ mm hr.1 A (R6 a') L.length c' L hAr rfl hLm hLd) [1,2,3,4,5] λ_=>?_;have hpb:0<=(P.pen L).2.1/\(P.pen L).2.1<=7:=a5k _ _ _;generalize P.pen L=W at hw htook hkeep hpb ⊢;obtain⟨P',nn,er2⟩:=W;dsimp only at hw htook hkeep hpb ⊢;refine J.qd (λ_ h3=>?_) λ_ h3=>?_
  ·simp only[G9,I1]at h3;rw[d7 h3]at hw;refine J.qr [1,2,3,4,5] λ_=>?_;rw[<- hw];exact⟨rfl,rfl⟩
  simp only[A8]at h3;rw[d4 (by rw[h3];decide)]at hw;have htk:=htook h3;obtain⟨v,rfl⟩:=f9 hpb.1;have hvL:v<=L.length:=by have:=htk.2.1;omega
  rw[i9]at hw;refine J.qn 4 λ_=>?_;refine J.v (.slice (R6 (a3e a' 19 v c')) (L.length-v) (c'-v)) rfl rfl (λhg aa w he hw=>a3B tk rfl rfl rfl he rfl rfl rfl rfl rfl hvL) ?_;rw[show L.length-v=(L.drop v).length from by rw[C5]];refine J.q λ_=>?_;refine J.n ((j,P',L.drop v,a3e a' 19 v c',c'-v)) (⟨by dsimp only;rw[C5];omega,by dsimp only;rw[C5];omega,by dsimp only;rw[C5];omega,a4E ha',λh s=>b4m (hAr h s) rfl hvL hLc,λs hs=>hLd s (W6 hs),hkeep.1,hw⟩) (by dsimp only;omega) [0,1,2,3,4,5]
 ·simp only[c8]at h1;have hL0:L.length=0:=by omega
  have hz:Dv.tornGo j Q L=(Q,0):=by
   cases j with
   | zero=>rfl
   | succ j=>rw[Dv.tornGo,d7 hL0]
  refine J.qr [1,2,3,4,5] λ_=>?_;rw[<- hw,hz];exact⟨rfl,rfl⟩
def a3H (f n t l p d:Nat) (F:Fv):Atom:= .pt f 98 [pp n,pp t,pp l,pp p,pp d,iI F.nx, .bool F.off]
def FvP (f p n t l d:Nat) (F:Fv):List Atom:=[a3H f n t l p d F,a2o p n t l F.S,C3 n F.S.N,TlA t F.S.t,TbA l F.S.T,a1N d F.L]
theorem a3x (f n t l p d:Nat) (Z:Fv) (hN:Z.S.N.Ok):FP 10 [pp f] [a3H f n t l p d Z,C3 n Z.S.N] (Ps (iI Z.lg) [a3H f n t l p d Z,C3 n Z.S.N]):=by
 have hbd:=hN.bd16;have hlg:=b3G Z.S.N.dies Z.S.N.blocks Z.S.N.pages (by omega) (by omega);refine FE [2] Tryz.func10 λX F hX=>?_;refine J.qF λ_=>?_;refine J.qp (a2V n Z.S.N) [2] λ_=>?_;refine J.qp (a6q Z.S.N.dies Z.S.N.blocks Z.S.N.pages hN.geo) [] λ_=>?_;rw[hlg];exact J.qx [1,2]
theorem b3K (f n t l p d:Nat) (Z:Fv):FP 27 [pp f] [a3H f n t l p d Z,a1N d Z.L] (Ps (iI Z.L.length) [a3H f n t l p d Z,a1N d Z.L]):=by
 refine FE [2] Tryz.func27 λX F hX=>?_;refine J.qF λ_=>?_;refine J.qp (b2P d Z.L) [2] λ_=>?_;exact J.qx [1,2]
theorem a2i (f n t l p d:Nat) (Z:Fv):FP 49 [pp f] [a3H f n t l p d Z,C3 n Z.S.N] (Ps (iI (if Z.ask.off=true then 9 else 0)) [a3H f n t l p d Z.ask,C3 n Z.S.N]):=by
 have hask:a3H f n t l p d Z.ask= .pt f 98 [pp n,pp t,pp l,pp p,pp d,iI Z.nx, .bool (Z.off||Z.S.N.off)]:=rfl;have hoa:Z.ask.off=(Z.off||Z.S.N.off):=rfl;rw[hask,hoa];unfold a3H;generalize Z.off=o;refine FE [2] Tryz.func49 λX F hX=>?_;refine J.qF λ_=>?_;refine J.q λ_=>?_;refine J.gcase hX rfl rfl rfl trivial (λhb=>?_) (λhb=>?_)
 ·rw[i4]at hb;subst hb;refine J.qp (a3r n Z.S.N) [2] λ_=>?_;refine J.qd (λ_ h1=>?_) λ_ h1=>?_
  ·simp only[D6,Bool.not_not]at h1;refine J.qr [1,2] λ_=>?_;rw[h1];exact⟨rfl,rfl⟩
  ·simp only[D6,Bool.not_not]at h1;refine J.qr [1,2] λ_=>?_;rw[h1];exact⟨rfl,rfl⟩
 ·rw[B5]at hb;subst hb;refine J.q λ_=>?_;refine J.v (.bool false) rfl rfl (λhg a w he hw=>by simp[G.on]at hg) ?_;refine J.qT λ_=>?_;exact J.qx [1,2]
theorem b1i (f n t l p d:Nat) (Z:Fv) (e:Int):FP 56 [pp f,iI e] [a3H f n t l p d Z] (Ps (iI e) [a3H f n t l p d (Z.told e)]):=by
 refine FE [2,0] Tryz.func56 λX F hX=>?_;exact J.qx [1]
theorem a9T {α:Type} [BEq α] [LawfulBEq α]:∀{K M:List α},K.Nodup->(∀x∈K,x∈M)->K.length<=M.length
 | [],M,_,_=>j8 _
 | x::K,M,h,hs=>by
  obtain⟨h1,h2⟩:=List.nodup_cons.1 h;have hx:=hs x (by simp);have h3:=a9T (M:=M.erase x) h2 λy hy=>by
   have hne:y≠x:=λe=>h1 (by rw[<- e];exact hy);exact(List.mem_erase_of_ne hne).2 (hs y (by simp[hy]))
  rw[List.length_erase_of_mem hx]at h3;have:0<M.length:=b0E hx;rw[l6];omega
theorem a1P {N:Nand} (h:N.Ok):1<=lgN N.dies N.blocks N.pages/\lgN N.dies N.blocks N.pages<=200:=by
 obtain⟨hd,hb,hp⟩:=h.bd16;generalize N.dies=d at*;generalize N.blocks=b at*;generalize N.pages=p at*;have h2:3*2<=(b-5)*p:=U4 (by omega) hp.1;have h3:6*1<=(b-5)*p*(d-2):=U4 h2 (by omega);have h4:(b-5)*p<=11*8:=U4 (by omega) hp.2;have h5:(b-5)*p*(d-2)<=88*4:=U4 h4 (by omega);unfold lgN;omega
theorem b2u {N N':Nand} (h:N.Like N'):lgN N'.dies N'.blocks N'.pages=lgN N.dies N.blocks N.pages:=by rw[h.dies,h.blocks,h.pages]
theorem a4j {α:Type} {M:Nand} (f:Tl->α->Tl) (hf:∀t a,t.Fit M->(f t a).Fit M):∀(q:List α) (t:Tl),t.Fit M->(q.foldl f t).Fit M
 | [],_,h=>h
 | a::q,t,h=>a4j f hf q (f t a) (hf t a h)
theorem Tl.Fit.ofD {M N:Nand} {t:Tl} (h:t.Fit M) (b d:Nat):(Tl.ofD N b t d).Fit M:=by
 unfold Tl.ofD;dsimp only;split
 ·exact(h.wore _ _).clean _ _
 ·exact h.wore _ _
theorem Tl.Fit.ofB {M N:Nand} {t:Tl} (h:t.Fit M) (b:Nat):(Tl.ofB N t b).Fit M:=a4j _ (λ_ d h=>h.ofD b d) _ _ h
theorem Tl.Fit.new (N:Nand):(Tl.new N.dies N.blocks N.pages).Fit N:=⟨rfl,rfl,rfl,by show(List.replicate N.blocks Sb.zero).length=N.blocks;rw[L7]⟩
theorem Tl.Fit.seeDead {M N:Nand} {t:Tl} (h:t.Fit M):(Dv.seeDead N t).Fit M:=a4j _ (λt d h=>by split;(· exact h.die _);exact h) _ _ h
theorem Tl.Fit.of (N:Nand):(Tl.of N).Fit N:=a4j _ (λ_ b h=>h.ofB b) _ _ (Tl.Fit.new N).seeDead
theorem c2d {N:Nand} (hN:N.Ok) {b r:Int} {f:Fnd} (h:f∈R.all N b r):(0<=f.slot/\f.slot<=1000)/\f.en.data.length=16:=by
 unfold R.all at h;rw[K6]at h;obtain⟨m,_,h⟩:=h;unfold R.allM at h;rw[a2K]at h;obtain⟨k,hk,h⟩:=h;rw[J4,(a0i N b r m).1]at hk;have hs:=Dv.slots_le m;unfold R.fnd at h;split at h
 ·injection h with h;subst h;refine⟨by show(0:Int)<=((k:Nat):Int)/\((k:Nat):Int)<=1000;omega,?_⟩;show(R.enAt (R.look N b r m) k).data.length=16;unfold R.enAt;split
  ·have hl:=(a0i N b r m).1;rw[d5,c9 (by omega)];exact(a2X hN b r m).1 _ (I2 _)
  ·exact b2n hN b r m k
 ·cases h
theorem c2v {N:Nand} (hN:N.Ok) {f:Fnd} (h:f∈V.all N):(0<=f.slot/\f.slot<=1000)/\f.en.data.length=16:=by
 unfold V.all at h;rw[K6]at h;obtain⟨b,_,h⟩:=h;rw[K6]at h;obtain⟨r,_,h⟩:=h;exact c2d hN h
theorem b8E {N:Nand} (hN:N.Ok) (n:Int):∀k,(∀x∈(V.goS N (V.all N) n k).tb.at_,0<=x.2.slot/\x.2.slot<=1000)/\(∀s∈(V.goS N (V.all N) n k).torn,s.data.length=16)/\∀s∈(V.goS N (V.all N) n k).others,s.data.length=16
 | 0=>⟨λx hx=>by simp[V.goS,Tb.new]at hx,λs hs=>by simp[V.goS]at hs,λs hs=>by simp[V.goS]at hs⟩
 | k+1=>by
  obtain⟨h1,h2,h3⟩:=b8E hN n k;rw[V.goS_succ];unfold V.step;split
  ·rename_i hs;have hm:=V.standOf_mem hs;unfold V.of at hm;obtain⟨e1,e2⟩:=c2v hN (List.mem_filter.1 hm).1;have hp:=Tb.put_slot (e:=(V.standOf (V.of (V.all N) k)).1.en) (b:=(V.standOf (V.of (V.all N) k)).1.block) (r:=(V.standOf (V.of (V.all N) k)).1.row) (m:=(V.standOf (V.of (V.all N) k)).1.mask) h1 e1;have ha:∀l:List En,(∀s∈l,s.data.length=16)->∀s∈l++[(V.standOf (V.of (V.all N) k)).1.en],s.data.length=16:=λl hl s hs=>by
    rcases List.mem_append.1 hs with hs | hs
    ·exact hl s hs
    ·rw[J3]at hs;rw[hs];exact e2
   split
   ·exact⟨hp,h2,h3⟩
   split
   ·exact⟨hp,ha _ h2,h3⟩
   ·exact⟨hp,h2,ha _ h3⟩
  ·exact⟨h1,h2,h3⟩
theorem b0N {N:Nand} (hN:N.Ok) (n:Int):(V.scan N n).tb.Ok/\(∀x∈(V.scan N n).tb.at_,0<=x.2.slot/\x.2.slot<=1000)/\(∀s∈(V.scan N n).torn,s.data.length=16)/\(1<=(V.scan N n).next/\(V.scan N n).next<=1099511627776):=by
 obtain⟨h1,h2,h3⟩:=b8E hN n (V.size n);refine⟨V.goS_ok N (V.all N) n (V.size n),h1,λs hs=>?_,V.nextOf_bd λf hf=>(b4a hf).2⟩;have hs:s∈(V.goS N (V.all N) n (V.size n)).torn++(V.goS N (V.all N) n (V.size n)).others:=hs;rcases List.mem_append.1 hs with hs | hs
 ·exact h2 s hs
 ·exact h3 s hs
theorem a9I {N:Nand} {m:Nat} (hm:m<=65536):(V.scan N m).first<=(V.scan N m).torn.length/\((V.scan N m).torn.take (V.scan N m).first).length<=m/\((V.scan N m).torn.drop (V.scan N m).first).length<=m/\(V.scan N m).torn.length<=2*m:=by
 have hsz:V.size (m:Int)=m:=by unfold V.size;omega
 have h1:=V.goS_len N (V.all N) m (V.size m);rw[hsz]at h1;have e1:(V.scan N m).first=(V.goS N (V.all N) m m).torn.length:=by show(V.goS N (V.all N) m (V.size m)).torn.length=_;rw[hsz]
 have e2:(V.scan N m).torn=(V.goS N (V.all N) m m).torn++(V.goS N (V.all N) m m).others:=by show(V.goS N (V.all N) m (V.size m)).torn++(V.goS N (V.all N) m (V.size m)).others=_;rw[hsz]
 rw[e1,e2,l5,C5,d8];omega
theorem b5o {N:Nand} (hN:N.Ok) (n:Int):(V.scan N n).held.length<=6000:=by
 have h1:=V.goS_held N (V.all N) n (V.size n);have h2:=b4X N hN;have h3:=b5D (V.goS N (V.all N) n (V.size n)).held;show(a9S (V.goS N (V.all N) n (V.size n)).held).length<=_;omega
namespace Dv
variable {S : Dv} {N : Nand} {k m : Nat}
theorem Ok.holds (h:S.Ok k m) (l:List Int) (on:Bool):(S.holds l on).Ok k m:=⟨h.gd,a4j _ (λ_ _ h=>h.hold _ _) _ _ h.t,h.T,h.sl,h.row,h.next⟩
def mt0 (N:Nand):Dv:=⟨N,Tl.of N,(V.scan N (lgN N.dies N.blocks N.pages)).tb,-1,0,0,max (V.scan N (lgN N.dies N.blocks N.pages)).next 1⟩
theorem Ok.mt0 (hG:N.Gd k m):(Dv.mt0 N).Ok k m:=by
 obtain⟨h1,h2,_,h4⟩:=b0N hG.ok (lgN N.dies N.blocks N.pages);refine⟨hG,Tl.Fit.of N,h1,h2,by show(0:Int)<=0/\(0:Int)<=8;omega,?_⟩;show 1<=max (V.scan N (lgN N.dies N.blocks N.pages)).next 1/\max (V.scan N (lgN N.dies N.blocks N.pages)).next 1<=_;omega
theorem mt0_log (hG:N.Gd k m):(Dv.mt0 N).T.logical=(lgN N.dies N.blocks N.pages:Int):=by
 have h:=a1P hG.ok;have:=V.goS_log N (V.all N) (lgN N.dies N.blocks N.pages) (V.size (lgN N.dies N.blocks N.pages));show(V.goS N (V.all N) (lgN N.dies N.blocks N.pages) (V.size (lgN N.dies N.blocks N.pages))).tb.logical=_;rw[this];omega
theorem torn_keep {l:List En} {c:Nat} (h:S.Ok (costT*c+k) m) (hl:l.length<=c) (hd:∀s∈l,s.data.length=16):(S.torn l).1.Ok k m/\S.N.Like (S.torn l).1.N/\(S.torn l).1.T.logical=S.T.logical:=
 tornGo_keep _ S l k (h.less (by have:=y9 costT hl;omega)) hd
def costK:Nat:=costT*200+(96+(costT*200+costM))
end Dv
theorem a8r (N:Nand):O4 N=(let s:=V.scan N (lgN N.dies N.blocks N.pages)
 let a:=((Dv.mt0 N).holds s.held true).torn (s.torn.take s.first)
 if a.2≠0 then a
 else
  let b:=(a.1.holds s.held false).clear
  if b.2≠0 then b
  else
   let c:=b.1.torn (s.torn.drop s.first)
   if c.2≠0 then c else c.1.room):=rfl
theorem a8q {N:Nand} {k m:Nat} (hG:N.Gd (Dv.costK+k) m):(O4 N).1.Ok k m/\N.Like (O4 N).1.N/\(O4 N).1.T.logical=(lgN N.dies N.blocks N.pages:Int):=by
 have h200:=a1P hG.ok;obtain⟨t1,t2,t3,_⟩:=a9I (N:=N) (m:=lgN N.dies N.blocks N.pages) (by omega);obtain⟨_,_,hd,_⟩:=b0N hG.ok (lgN N.dies N.blocks N.pages);have h0:=Dv.Ok.mt0 hG;have hlog:=Dv.mt0_log hG;have hd1:∀s∈(V.scan N (lgN N.dies N.blocks N.pages)).torn.take (V.scan N (lgN N.dies N.blocks N.pages)).first,s.data.length=16:=λs hs=>hd s (I7 hs)
 have hd2:∀s∈(V.scan N (lgN N.dies N.blocks N.pages)).torn.drop (V.scan N (lgN N.dies N.blocks N.pages)).first,s.data.length=16:=λs hs=>hd s (W6 hs)
 rw[a8r];dsimp only;have ha:=Dv.torn_keep (k:=96+(Dv.costT*200+(Dv.costM+k))) (c:=200) ((h0.holds (V.scan N (lgN N.dies N.blocks N.pages)).held true).less (by unfold Dv.costK;omega)) (by omega) hd1;have ea:((Dv.mt0 N).holds (V.scan N (lgN N.dies N.blocks N.pages)).held true).N=N:=rfl;have ea2:((Dv.mt0 N).holds (V.scan N (lgN N.dies N.blocks N.pages)).held true).T=(Dv.mt0 N).T:=rfl;rw[ea,ea2,hlog]at ha;split
 ·exact⟨ha.1.less (by omega),ha.2⟩
 generalize(((Dv.mt0 N).holds (V.scan N (lgN N.dies N.blocks N.pages)).held true).torn ((V.scan N (lgN N.dies N.blocks N.pages)).torn.take (V.scan N (lgN N.dies N.blocks N.pages)).first)).1=A at ha;have hb:=Dv.clear_keep (ha.1.holds (V.scan N (lgN N.dies N.blocks N.pages)).held false);have eb:(A.holds (V.scan N (lgN N.dies N.blocks N.pages)).held false).N=A.N:=rfl;have eb2:(A.holds (V.scan N (lgN N.dies N.blocks N.pages)).held false).T=A.T:=rfl;rw[eb,eb2]at hb;split
 ·exact⟨hb.1.less (by omega),ha.2.1.trans hb.2.1,by rw[hb.2.2];exact ha.2.2⟩
 have hc:=Dv.torn_keep (k:=Dv.costM+k) (c:=200) hb.1 (E9 t3 h200.2) hd2;split
 ·exact⟨hc.1.less (by omega),(ha.2.1.trans hb.2.1).trans hc.2.1,by rw[hc.2.2,hb.2.2];exact ha.2.2⟩
 have hr:=Dv.room_keep hc.1;exact⟨hr.1,((ha.2.1.trans hb.2.1).trans hc.2.1).trans hr.2.1,by rw[hr.2.2,hc.2.2,hb.2.2];exact ha.2.2⟩
structure Fv.Ok (F:Fv) (k m:Nat):Prop where
 dv:F.S.Ok k m
 dat:∀e∈F.L,e.data.length=16
 rng:∀e∈F.L,0<=e.lpn/\e.lpn<F.lg
 nd:(F.L.map (·.lpn)).Nodup
 nx:0<=F.nx/\F.nx+(k:Int)<=4611686018427387904
namespace Fv
variable {F : Fv} {k m : Nat}
theorem lg_like {F G:Fv} (h:F.S.N.Like G.S.N):G.lg=F.lg:=by unfold lg;rw[b2u h]
theorem lg_bd (h:F.S.N.Ok):1<=F.lg/\F.lg<=200:=by have:=a1P h;unfold lg;omega
theorem Ok.less (h:F.Ok k m) {k':Nat} (hk:k'<=k):F.Ok k' m:=⟨h.dv.less hk,h.dat,h.rng,h.nd,by have:=h.nx;omega⟩
theorem Ok.len (h:F.Ok k m):F.L.length<=200:=by
 have hb:=lg_bd h.dv.gd.ok;have h1:=a9T (K:=F.L.map (·.lpn)) (M:=(List.range F.lg.toNat).map λi:Nat=>(i:Int)) h.nd λx hx=>by
  obtain⟨e,he,rfl⟩:=List.mem_map.1 hx;have:=h.rng e he;exact List.mem_map.2 ⟨e.lpn.toNat,List.mem_range.2 (by omega),by omega⟩
 simp at h1;omega
theorem Ok.ask (h:F.Ok k m):F.ask.Ok k m:=⟨h.dv,h.dat,h.rng,h.nd,h.nx⟩
def cW:Nat:=Dv.costM+8*Dv.fuel
theorem done_sub (L l:List En):(a0J L l).Sublist L:=List.filter_sublist
theorem done_lt {L:List En} {n:Nat} (h:L.length≠0) (hn:1<=n):(a0J L (L.take n)).length<L.length:=by
 unfold a0J;rw[List.length_filter_lt_length_iff_exists];cases L with
 | nil=>exact absurd rfl h
 | cons x L=>
  refine⟨x,H5 ..,?_⟩;obtain⟨c,rfl⟩:∃c,n=c+1:=⟨n-1,by omega⟩;simp
structure Kept (F G:Fv):Prop where
 like:F.S.N.Like G.S.N
 log:G.S.T.logical=F.S.T.logical
theorem Kept.refl (F:Fv):Kept F F:=⟨Nand.Like.refl _,rfl⟩
theorem Kept.ask (F:Fv):Kept F F.ask:=⟨Nand.Like.refl _,rfl⟩
theorem Kept.trans {F G H:Fv} (h:Kept F G) (h2:Kept G H):Kept F H:=⟨h.like.trans h2.like,h2.log.trans h.log⟩
theorem Ok.with_ {S:Dv} {L:List En} {off:Bool} {k':Nat} (h:F.Ok k' m) (hS:S.Ok k m) (hk:k<=k') (hl:F.S.N.Like S.N) (hL:L.Sublist F.L):(⟨S,L,F.nx,off⟩:Fv).Ok k m:=
 ⟨hS,λe he=>h.dat e (hL.subset he),λe he=>by rw[lg_like (F:=F) (G:=⟨S,L,F.nx,off⟩) hl];exact h.rng e (hL.subset he),h.nd.sublist (hL.map _),by have:=h.nx;show 0<=F.nx/\F.nx+(k:Int)<=_;omega⟩
theorem writes_keep (h:F.Ok (cW+k) m):F.writes.1.Ok k m/\Kept F F.writes.1/\F.writes.1.L.length<=F.L.length/\(F.writes.2=0->F.L.length≠0->F.writes.1.L.length<F.L.length):=by
 have hr:=Dv.room_keep (S:=F.S) (k:=8*Dv.fuel+k) (m:=m) (h.dv.less (by unfold cW;omega));have he:F.writes=(let r:=F.S.room
  if r.2≠0 then({F with S:=r.1}.told r.2,r.2)
  else
   let w:=r.1.pen F.L
   ({F with S:=w.1,L:=a0J F.L (F.L.take w.2.1.toNat)}.told w.2.2,w.2.2)):=rfl
 dsimp only at he
 by_cases h0:F.S.room.2≠0
 ·rw[d7 h0]at he;rw[he];exact⟨h.with_ (hr.1.less (by omega)) (by omega) hr.2.1 (a3m _),⟨hr.2.1,hr.2.2⟩,j3 _,λe=>absurd e h0⟩
 ·rw[d4 h0]at he;have hp:=Dv.pen_keep hr.1 h.dat
  have ht:=λe hl=>Dv.pen_took hr.1 h.dat e hl;rw[he];refine⟨h.with_ hp.1 (by omega) (hr.2.1.trans hp.2.1) (done_sub _ _),⟨hr.2.1.trans hp.2.1,hp.2.2.trans hr.2.2⟩,(done_sub _ _).length_le,λe hl=>?_⟩;have:=ht e hl;exact done_lt hl (by omega)
theorem flushGo_keep:∀(f:Nat) (F:Fv) (k:Nat),F.Ok (cW*f+k) m->(flushGo f F).1.Ok k m/\Kept F (flushGo f F).1
 | 0,F,k,h=>⟨h.less (by omega), .refl _⟩
 | f+1,F,k,h=>by
  rw[flushGo];split
  ·exact⟨h.less (by omega), .refl _⟩
  have hw:=writes_keep (F:=F) (k:=cW*f+k) (h.less (by rw[J7];omega));dsimp only;split
  ·exact⟨hw.1.less (by omega),hw.2.1⟩
  ·have ih:=flushGo_keep f F.writes.1 k hw.1;exact⟨ih.1,hw.2.1.trans ih.2⟩
theorem flush_keep (h:F.Ok (cW*200+k) m):F.flush.1.Ok k m/\Kept F F.flush.1:=by
 unfold flush;split
 ·exact⟨h.ask.less (by omega), .ask _⟩
 ·have hl:=h.len;have hm:cW*F.L.length<=cW*200:=y9 _ hl;have r:=flushGo_keep F.L.length F.ask k (h.ask.less (by omega));exact⟨r.1,⟨r.2.like,r.2.log⟩⟩
theorem put_ok (h:F.Ok (1+k) m) {e:En} (hd:e.data.length=16) (hr:¬(e.lpn<0\/e.lpn>=F.lg)):(F.put e).Ok k m:=by
 have hlg:(F.put e).lg=F.lg:=rfl;refine⟨h.dv.less (by omega),λx hx=>?_,λx hx=>?_,?_,by have:=h.nx;show 0<=F.nx+1/\F.nx+1+(k:Int)<=_;omega⟩
 ·have hx:x∈(F.L.filter λy:En=>!(y.lpn==e.lpn))++[({e with seq:=F.nx}:En)]:=hx;rcases List.mem_append.1 hx with hx | hx
  ·exact h.dat x (List.mem_filter.1 hx).1
  ·rw[J3]at hx;rw[hx];exact hd
 ·have hx:x∈(F.L.filter λy:En=>!(y.lpn==e.lpn))++[({e with seq:=F.nx}:En)]:=hx;rw[hlg];rcases List.mem_append.1 hx with hx | hx
  ·exact h.rng x (List.mem_filter.1 hx).1
  ·rw[J3]at hx;rw[hx];show 0<=e.lpn/\e.lpn<F.lg;omega
 ·show(((F.L.filter λy:En=>!(y.lpn==e.lpn))++[({e with seq:=F.nx}:En)]).map (·.lpn)).Nodup;rw[s8,M7];refine⟨List.Nodup.sublist ((List.filter_sublist (p:=λx:En=>!(x.lpn==e.lpn)) (l:=F.L)).map (·.lpn)) h.nd,by simp,λa ha b hb hab=>?_⟩;obtain⟨x,hx,rfl⟩:=List.mem_map.1 ha;simp at hb;have:=(List.mem_filter.1 hx).2;rw[hab,hb]at this;simp at this
theorem waits_keep (h:F.Ok (cW+(1+k)) m) {e:En} (hd:e.data.length=16):(F.waits e).1.Ok k m/\Kept F (F.waits e).1:=by
 unfold waits;split
 ·exact⟨h.ask.less (by omega), .ask _⟩
 split
 ·exact⟨h.ask.less (by omega), .ask _⟩
 rename_i hr;have hr:¬(e.lpn<0\/e.lpn>=F.lg):=hr;split
 ·have hw:=writes_keep h.ask;dsimp only;split
  ·exact⟨hw.1.less (by omega),⟨hw.2.1.like,hw.2.1.log⟩⟩
  ·refine⟨put_ok hw.1 hd ?_,⟨hw.2.1.like,hw.2.1.log⟩⟩;rw[lg_like (F:=F) (G:=F.ask.writes.1) hw.2.1.like];exact hr
 ·exact⟨put_ok (h.ask.less (by omega)) hd hr,⟨Nand.Like.refl _,rfl⟩⟩
theorem write_keep (h:F.Ok (cW+(1+k)) m) (i:Int) {d:List UInt8} (hd:d.length=16):(F.write i d).1.Ok k m/\Kept F (F.write i d).1:=waits_keep h hd
theorem trim_keep (h:F.Ok (cW+(1+k)) m) (i:Int):(F.trim i).1.Ok k m/\Kept F (F.trim i).1:=waits_keep h rfl
theorem tick_keep (h:F.Ok (Dv.costS+k) m):F.tick.1.Ok k m/\Kept F F.tick.1:=by
 unfold tick;split
 ·exact⟨h.ask.less (by omega), .ask _⟩
 ·have hs:=Dv.step_keep h.ask.dv 4;exact⟨h.ask.with_ hs.1 (by omega) hs.2.1 (a3m _),⟨hs.2.1,hs.2.2⟩⟩
theorem whole_keep (h:F.Ok k m):F.whole.1.Ok k m/\Kept F F.whole.1:=by
 unfold whole;split
 ·exact⟨h.ask, .ask _⟩
 ·exact⟨h.ask.with_ h.dv.seen (j3 _) (Nand.Like.refl _) (a3m _),⟨Nand.Like.refl _,rfl⟩⟩
theorem read_keep (h:F.Ok k m) (i:Int):(F.read i).1.Ok k m/\Kept F (F.read i).1:=by
 unfold read;split
 ·exact⟨h.ask, .ask _⟩
 split
 ·exact⟨h.ask, .ask _⟩
 ·exact⟨h.ask, .ask _⟩
theorem of_ok {S:Dv} (h:S.Ok k m) (hk:k<=1000000000000000):(Fv.of S).Ok k m:=⟨h,λ_ h=>(by cases h),λ_ h=>(by cases h),a5W,by show(0:Int)<=0/\(0:Int)+(k:Int)<=_;omega⟩
end Fv
abbrev a5d (d:List UInt8):Value:= .agg (H4 d).toArray
theorem Fv.slot_bd {S:Dv} {k m:Nat} (hO:S.Ok k m) (i:Int):0<=((Tb.look S.T.at_ i).getD AtV.zero).slot/\((Tb.look S.T.at_ i).getD AtV.zero).slot<=1000:=by
 cases hl:Tb.look S.T.at_ i with
 | none=>show(0:Int)<=0/\(0:Int)<=1000;omega
 | some a=>exact hO.sl _ (Tb.look_mem hl)
theorem a4B (f p n t l d:Nat) (Z:Fv) (k m:Nat) (hO:Z.Ok k m) (i:Int):FP 19 [pp f,iI i] (FvP f p n t l d Z)
  (λv As=>v= .tuple #[a5d (Z.read i).2.1,iI (Z.read i).2.2]/\As=FvP f p n t l d (Z.read i).1):=by
 have hlen:=hO.len;have hN:=hO.dv.gd.ok;refine FE [2,0] Tryz.func19 λX F hX=>?_;refine J.q λbz=>?_;refine J.cb (a2i f n t l p d Z) [1,3] ?_;refine cpq ⟨_,rfl,trivial,?_⟩;have hrd:Z.read i=(if Z.ask.off=true then(Z.ask,zeros16,9)else if i<0\/i>=Z.ask.lg then(Z.ask,zeros16,3)else(Z.ask,Z.ask.get i)):=rfl;obtain⟨Y,hY⟩:∃Y,Y=Z.ask:=⟨_,rfl⟩;have e1:Z.S=Y.S:=by rw[hY];rfl
 have e2:Z.L=Y.L:=by rw[hY];rfl
 rw[<- hY,e1,e2];rw[<- hY]at hrd;rw[e1]at hN;rw[e2]at hlen;cases ho:Y.off with
 | true=>
  rw[ho,d7 rfl]at hrd;refine J.qT λ_=>?_;refine J.qr [1,2,3,4,5,6] λ_=>?_;rw[hrd];exact⟨rfl,rfl⟩
 | false=>
  rw[ho,d4 l4]at hrd;refine J.qF λ_=>?_;refine J.q λ_=>?_;refine J.gcase hX rfl rfl rfl trivial (λhb=>?_) (λhb=>?_)
  ·have hi:decide (i<0)=false:=by simpa using hb
   rw[hi];refine J.qp (a3x f n t l p d Y hN) [1,3] λ_=>?_;simp only[c8]at hi;refine J.qd (λ_ h1=>?_) λ_ h1=>?_
   ·simp only[D6,a1e,d6]at h1;rw[d7 (.inr h1)]at hrd;refine J.qr [1,2,3,4,5,6] λ_=>?_;rw[hrd];exact⟨rfl,rfl⟩
   simp only[D6,a1e,c8]at h1;rw[d4 (by omega)]at hrd;refine J.qp (c1m d Y.L (by omega) i) [6] λ_=>?_;have hge:Y.get i=(if(a2E Y.L i).2=true then((a2E Y.L i).1.data,0)else match Tb.look Y.S.T.at_ i with
    | none=>(zeros16,0)
    | some a=>if a.role=2 then(zeros16,0)else if a.role=4 then(zeros16,10)else
     let x:=R.read Y.S.N a.block a.row a.slot a.mask
     if x.2≠0\/x.1.lpn≠i\/x.1.seq≠a.seq then(zeros16,10)else(x.1.data,0):List UInt8×Int):=rfl
   obtain⟨⟨we,wb⟩,hw⟩:∃w,w=a2E Y.L i:=⟨_,rfl⟩;rw[<- hw]at hge ⊢;dsimp only at hge ⊢;refine J.qd (λ_ h2=>?_) λ_ h2=>?_
   ·rw[d7 h2]at hge;refine J.qr [1,2,3,4,5,6] λ_=>?_;rw[hrd,hge];exact⟨rfl,rfl⟩
   rw[h2,d4 l4]at hge;refine J.qp (a6d l Y.S.T i) [5] λ_=>?_;obtain⟨a,ha⟩:∃a,a=(Tb.look Y.S.T.at_ i).getD AtV.zero:=⟨_,rfl⟩;obtain⟨is,his⟩:∃b,b=(Tb.look Y.S.T.at_ i).isSome:=⟨_,rfl⟩;have hslot:=Fv.slot_bd hO.dv i;rw[e1]at hslot;rw[<- ha]at hslot;rw[<- ha,<- his];cases is with
   | false=>
    cases hl:Tb.look Y.S.T.at_ i with
    | some x=>rw[hl]at his;cases his
    | none=>
     rw[hl]at hge;refine J.q λbd=>?_;refine J.cT ?_;refine J.qr [1,2,3,4,5,6] λ_=>?_;rw[hrd,hge];exact⟨rfl,rfl⟩
   | true=>
    cases hl:Tb.look Y.S.T.at_ i with
    | none=>rw[hl]at his;cases his
    | some x=>
     rw[hl]at ha hge;obtain rfl:a=x:=ha;dsimp only at hge;refine J.q λbd=>?_;refine J.cond rfl (λh3=>?_) (λh3=>?_)
     ·simp only[a2r,D6,B4]at h3;rw[d7 h3]at hge;refine J.qr [1,2,3,4,5,6] λ_=>?_;rw[hrd,hge];exact⟨rfl,rfl⟩
     simp only[a2r,D6,m6,I1]at h3;rw[d4 h3]at hge;refine J.qd (λ_ h4=>?_) λ_ h4=>?_
     ·simp only[B4]at h4;rw[d7 h4]at hge;refine J.qr [1,2,3,4,5,6] λ_=>?_;rw[hrd,hge];exact⟨rfl,rfl⟩
     simp only[m6,I1]at h4;rw[d4 h4]at hge;have hr:=hO.dv.gd.room;rw[e1]at hr;refine J.p (.take true 0 (.take true 1 (.take true 2 (.take false 3 (.take true 4 (.take false 5 (.take true 6 (.take false 7 (.alt false 8 ((.of [36,40,44,50,54,56])) (.alt false 12 ((.of [34,36,40,44,54,56])) .non)))))))))) [14] [1,2,3,4,5,6,7,8,9] λ_=>?_;obtain⟨⟨re,rx⟩,hre⟩:∃w,w=R.read Y.S.N a.block a.row a.slot a.mask:=⟨_,rfl⟩;rw[<- hre]at hge;dsimp only at hge;refine J.join (α:=Nat) (λx=>[si 12 rx,⟨11,pp x,10, .tt⟩,⟨9,pp (bd 0),9, .tt⟩,si 1 i,⟨4,pp (bz 0),8, .tt⟩]) (λx=>[.hp F,a3H f n t l p d Y,a2o p n t l Y.S,C3 n Y.S.N,TlA t Y.S.t,TbA l Y.S.T,a1N d Y.L, .pt (bz 0) 36 (H4 zeros16), .pt (bd 0) 133 [iI a.block,iI a.row,iI a.slot,iI a.mask,iI a.seq,iI a.role], .pt x 101 (enL re)]) (λhj=>?_) (λx=>?_)
     ·refine J.q λ_=>?_;refine J.alts ?_ ?_
      ·refine J.qp (b0V n Y.S.N hN hr a.block a.row a.slot a.mask (by omega) (by omega)) [3] λ_=>?_;rw[<- hre];refine J.qn 7 λbe=>?_;exact J.goto [0,1,2,3,4,5,6,7,9,10] (hj (be 0)) ⟨rfl,rfl,rfl,rfl,rfl,trivial⟩ rfl rfl
      ·refine J.qn 1 λbe=>?_;refine J.qp (b0V n Y.S.N hN hr a.block a.row a.slot a.mask (by omega) (by omega)) [3] λ_=>?_;rw[<- hre];refine J.qn 6 λ_=>?_;exact J.goto [0,1,2,3,4,5,6,7,9,10] (hj (be 0)) ⟨rfl,rfl,rfl,rfl,rfl,trivial⟩ rfl rfl
     refine J.qn 6 λ_=>?_;cases hx:(rx !=0)with
     | true=>
      have hx':rx≠0:=by simpa using hx
      rw[d7 (.inl hx')]at hge;refine J.qT λ_=>?_;refine J.qr [1,2,3,4,5,6] λ_=>?_;rw[hrd,hge];exact⟨rfl,rfl⟩
     | false=>
      have hx':rx=0:=by simpa using hx
      refine J.qn 6 λ_=>?_;cases hy:(re.lpn !=i)with
      | true=>
       have hy':re.lpn≠i:=by simpa using hy
       rw[d7 (.inr (.inl hy'))]at hge;refine J.qT λ_=>?_;refine J.qr [1,2,3,4,5,6] λ_=>?_;rw[hrd,hge];exact⟨rfl,rfl⟩
      | false=>
       have hy':re.lpn=i:=by simpa using hy
       refine J.qd (λ_ h5=>?_) λ_ h5=>?_
       ·have hz:re.seq≠a.seq:=by simpa using h5
        rw[d7 (.inr (.inr hz))]at hge;refine J.qr [1,2,3,4,5,6] λ_=>?_;rw[hrd,hge];exact⟨rfl,rfl⟩
       ·have hz:re.seq=a.seq:=by simpa using h5
        rw[d4 (by rw[hx',hy',hz];simp)]at hge;refine J.qr [1,2,3,4,5,6] λ_=>?_;rw[hrd,hge];exact⟨rfl,rfl⟩
  ·have hi:decide (i<0)=true:=by simpa using hb
   rw[hi];refine J.q λ_=>?_;refine J.v (.bool false) rfl rfl (λhg a w he hw=>by simp[G.on]at hg) ?_;simp only[d6]at hi;rw[d7 (.inl hi)]at hrd;refine J.qT λ_=>?_;refine J.qr [1,2,3,4,5,6] λ_=>?_;rw[hrd];exact⟨rfl,rfl⟩
structure MSl where
 v:MPv
 a1:Option Nat
 c1:Nat
 a2:Option Nat
 c2:Nat
def H3 (l:List (List UInt8)):List Value:=l.flatMap H4
def MSl.cells (z:MSl):List Value:=[byC z.v.now 0,byC z.v.now 1,byC z.v.now 2,byC z.v.now 3,byC z.v.now 4,byC z.v.now 5,byC z.v.now 6,byC z.v.now 7,byC z.v.now 8,byC z.v.now 9,byC z.v.now 10,byC z.v.now 11,byC z.v.now 12,byC z.v.now 13,byC z.v.now 14,byC z.v.now 15, .bool z.v.op,slv z.a1 z.v.may.length z.c1,slv z.a2 z.v.ever.length z.c2]
theorem MSl.cells_len (z:MSl):z.cells.length=19:=rfl
def MSl.m1 (z:MSl):Atom:=l9 36 16 z.a1 z.v.may.length z.c1 (H3 z.v.may)
def MSl.m2 (z:MSl):Atom:=l9 36 16 z.a2 z.v.ever.length z.c2 (H3 z.v.ever)
def b1A (q g:Nat) (Z:List MSl):List Atom:=[.pt q 151 [.slice (some ⟨g,0,none⟩) Z.length Z.length], .pt g 153 (Z.flatMap MSl.cells), .hp (HP.of (Z.map MSl.m1)), .hp (HP.of (Z.map MSl.m2))]
def Mv.adr (n g:Nat) (i:Int):Option Addr:=if 0<=i/\i<n then some ⟨g,i.toNat*19,none⟩else none
theorem c1j (q g n:Nat) (hn:n<=65536) (i:Int):FP 84 [pp q,iI i] [.pt q 151 [.slice (some ⟨g,0,none⟩) n n]] (Ps (.pointer (Mv.adr n g i)) [.pt q 151 [.slice (some ⟨g,0,none⟩) n n]]):=by
 refine FE [2,0] Tryz.func84 λX F hX=>?_;refine J.qd (λ_ h1=>?_) λ_ h1=>?_
 ·simp only[D6,j7,d6,a1e]at h1;have ha:Mv.adr n g i=none:=by unfold Mv.adr;rw[d4 (by omega)]
  refine J.qr [1] λ_=>?_;rw[ha];exact⟨rfl,rfl⟩
 ·simp only[D6,D5,c8,a1e]at h1;have ha:Mv.adr n g i=some ⟨g,i.toNat*19,none⟩:=by unfold Mv.adr;rw[d7 (by omega)]
  refine J.qr [1] λ_=>?_;rw[ha];exact⟨by simp,rfl⟩
def MSl.none0:MSl:=⟨⟨Mv.z16,false,[],[]⟩,none,0,none,0⟩
theorem MSl.cells_zero (m:Nat):(List.replicate m [Value.int .u8 0, .int .u8 0, .int .u8 0, .int .u8 0, .int .u8 0, .int .u8 0, .int .u8 0, .int .u8 0, .int .u8 0, .int .u8 0, .int .u8 0, .int .u8 0, .int .u8 0, .int .u8 0, .int .u8 0, .int .u8 0, .bool false, .slice none 0 0, .slice none 0 0]).flatten=(List.replicate m MSl.none0).flatMap MSl.cells:=by
 induction m with
 | zero=>rfl
 | succ m ih=>rw[U5,U5,List.flatten_cons,z7,ih];rfl
theorem MSl.flat_len (Z:List MSl):(Z.flatMap MSl.cells).length=19*Z.length:=by
 induction Z with
 | nil=>rfl
 | cons z Z ih=>rw[z7,d8,ih,MSl.cells_len,l6];omega
theorem MSl.hps (m:Nat) (h:Hl):Sep [.hp (HP.of ((List.replicate m MSl.none0).map MSl.m1)), .hp (HP.of ((List.replicate m MSl.none0).map MSl.m2))] h:=by
 refine Sep.ofAll λA hA h=>?_;have hx:∀f:MSl->Atom,(∀h,(f MSl.none0).sat h)->(Atom.hp (HP.of ((List.replicate m MSl.none0).map f))).sat h:=λf hf=>by
  exact(Sep.hpOf.2 (Sep.ofAll λA hA h=>by
   rw[Q2,List.mem_replicate]at hA;rw[hA.2];exact hf h)).get (i:=0) rfl
 simp only[I3,V5,a5S]at hA;rcases hA with rfl | rfl
 ·exact hx MSl.m1 λh=>⟨rfl,rfl,rfl⟩
 ·exact hx MSl.m2 λh=>⟨rfl,rfl,rfl⟩
theorem c1P (n:Int):FP 37 [iI n] [] (λv As=>∃q g Z,v=pp q/\As=b1A q g Z/\Z.map (·.v)=Mv.new n):=by
 refine FE [0] Tryz.func37 λX F hX=>?_;refine J.qn 9 λ_=>?_;rw[b6V];obtain⟨m,hm⟩:∃m:Nat,min (max n 0) 65536=(m:Int):=⟨(min (max n 0) 65536).toNat,by omega⟩;have hm1:m<=65536:=by omega
 rw[hm];refine J.mk 2 λg=>?_;have hz:(List.replicate m _).flatten=(List.replicate m MSl.none0).flatMap MSl.cells:=MSl.cells_zero m;rw[hz];refine J.q λbq=>?_;refine J.turn1 [] rfl (As:=[.hp (HP.of ((List.replicate m MSl.none0).map MSl.m1)), .hp (HP.of ((List.replicate m MSl.none0).map MSl.m2))]) (λh s=>MSl.hps m h) rfl ?_;refine J.q λ_=>?_;refine J.l (α:=(Nat×List MSl)) (λz=>z.1<=m/\z.2.length=m/\z.2.map (·.v)=List.replicate z.1 Mv.page0++List.replicate (m-z.1) MSl.none0.v) (λz=>[si 16 z.1,si 15 m,⟨3,pp (bq 0),3, .tt⟩]) [1,3,4] (λz=>[.pt g 153 (z.2.flatMap MSl.cells), .hp (HP.of (z.2.map MSl.m1)), .hp (HP.of (z.2.map MSl.m2))]) (λz=>m-z.1) ((0,List.replicate m MSl.none0)) (⟨j8 _,L7,by simp⟩) λz hI=>?_;obtain⟨k,Z⟩:=z;dsimp only at hI ⊢;obtain⟨hk,hZl,hZ⟩:=hI;refine J.qd (λ_ h1=>?_) λ_ h1=>?_
 ·simp only[d6,i6]at h1;obtain⟨z,hz⟩:∃z,Z[k]? =some z:=⟨_,c9 (by omega)⟩;refine J.openAt 3 k rfl rfl (by rw[i5,hz];rfl) rfl ?_;refine J.openAt 4 k rfl rfl (by rw[i5,hz];rfl) rfl ?_;refine J.p (.take true 0 (.take true 1 (.take true 2 (.take false 3 (.take true 4 (.take true 5 (.take true 6 (.take true 7 (.take false 8 (.take true 9 (.alt false 10 ((.take true 12 (.take true 13 (.alt false 11 ((.of [58,60,64,71])) (.alt false 14 ((.of [46,60,64,71])) .non))))) (.alt false 11 ((.of [42,48,52,58,60,64,71])) .non)))))))))))) [15,16,17] [2] λ_=>?_;have hoff:∀j,0+(k:Int).toNat*19+j=k*19+j:=λj=>by omega
  have hlt:∀j,j<19->0+(k:Int).toNat*19+j<(Z.flatMap MSl.cells).length:=λj hj=>by
   rw[MSl.flat_len,hoff];have:k*19+19<=19*Z.length:=by omega
   omega
  have V3:∀y:MSl,(Z.set k y)[k]? =some y:=λy=>by rw[A9,d7 rfl,d7 (by omega)]
  refine J.join (α:=Nat×Nat) (λ_=>[si 16 k,si 15 m,⟨3,pp (bq 0),3, .tt⟩]) (λx=>[.hp F, .pt g 153 ((Z.set k ⟨⟨z.v.now,z.v.op,[Mv.z16],[Mv.z16]⟩,some x.1,1,some x.2,1⟩).flatMap MSl.cells), .pt (bq 0) 151 [.slice (some ⟨g,0,none⟩) m m], .hp (HP.of ((Z.map MSl.m1).set k .emp)), .hp (HP.of ((Z.map MSl.m2).set k .emp)),l9 36 16 (some x.1) 1 1 (H3 [Mv.z16]),l9 36 16 (some x.2) 1 1 (H3 [Mv.z16])]) (λhj=>?_) (λx=>?_)
  ·refine J.q λ_=>?_;refine J.alts ?_ ?_
   ·skip
    refine J.mk 8 λga=>?_;refine J.cO 36 16 1 1 (H3 [Mv.z16]) 7 ?_;refine J.q λ_=>?_;refine J.alts ?_ ?_
    ·skip
     refine J.mk 9 λgb=>?_;refine J.cO 36 16 1 1 (H3 [Mv.z16]) 8 ?_;refine J.s1 1 ((Z.set k ⟨⟨z.v.now,z.v.op,[Mv.z16],z.v.ever⟩,some ga,1,z.a2,z.c2⟩).flatMap MSl.cells) ?_ ?_ ?_
     ·exact hlt 17 (by omega)
     ·rw[hoff 17];exact Q9 MSl.cells 19 MSl.cells_len 17 _ hz (by omega) rfl
     refine J.qn 2 λ_=>?_;refine J.s1 1 ((Z.set k ⟨⟨z.v.now,z.v.op,[Mv.z16],[Mv.z16]⟩,some ga,1,some gb,1⟩).flatMap MSl.cells) ?_ ?_ ?_
     ·rw[MSl.flat_len,A5,<- MSl.flat_len];exact hlt 18 (by omega)
     ·rw[hoff 18];exact(Q9 MSl.cells 19 MSl.cells_len 18 (y:=⟨⟨z.v.now,z.v.op,[Mv.z16],[Mv.z16]⟩,some ga,1,some gb,1⟩) _ (V3 ⟨⟨z.v.now,z.v.op,[Mv.z16],z.v.ever⟩,some ga,1,z.a2,z.c2⟩) (by omega) rfl).trans (by rw[a0n])
     exact J.goto [0,1,2,3,4,7,8] (hj (ga,gb)) ⟨rfl,rfl,rfl,trivial⟩ rfl rfl
    ·skip
     refine J.s1 1 ((Z.set k ⟨⟨z.v.now,z.v.op,[Mv.z16],z.v.ever⟩,some ga,1,z.a2,z.c2⟩).flatMap MSl.cells) ?_ ?_ ?_
     ·exact hlt 17 (by omega)
     ·rw[hoff 17];exact Q9 MSl.cells 19 MSl.cells_len 17 _ hz (by omega) rfl
     refine J.mk 9 λgb=>?_;refine J.cO 36 16 1 1 (H3 [Mv.z16]) 8 ?_;refine J.qn 2 λ_=>?_;refine J.s1 1 ((Z.set k ⟨⟨z.v.now,z.v.op,[Mv.z16],[Mv.z16]⟩,some ga,1,some gb,1⟩).flatMap MSl.cells) ?_ ?_ ?_
     ·rw[MSl.flat_len,A5,<- MSl.flat_len];exact hlt 18 (by omega)
     ·rw[hoff 18];exact(Q9 MSl.cells 19 MSl.cells_len 18 (y:=⟨⟨z.v.now,z.v.op,[Mv.z16],[Mv.z16]⟩,some ga,1,some gb,1⟩) _ (V3 ⟨⟨z.v.now,z.v.op,[Mv.z16],z.v.ever⟩,some ga,1,z.a2,z.c2⟩) (by omega) rfl).trans (by rw[a0n])
     exact J.goto [0,1,2,3,4,7,8] (hj (ga,gb)) ⟨rfl,rfl,rfl,trivial⟩ rfl rfl
   ·skip
    refine J.mk 8 λgb=>?_;refine J.cO 36 16 1 1 (H3 [Mv.z16]) 7 ?_;refine J.mk 9 λga=>?_;refine J.cO 36 16 1 1 (H3 [Mv.z16]) 8 ?_;refine J.qn 2 λ_=>?_;refine J.s1 1 ((Z.set k ⟨⟨z.v.now,z.v.op,[Mv.z16],z.v.ever⟩,some ga,1,z.a2,z.c2⟩).flatMap MSl.cells) ?_ ?_ ?_
    ·exact hlt 17 (by omega)
    ·rw[hoff 17];exact Q9 MSl.cells 19 MSl.cells_len 17 _ hz (by omega) rfl
    refine J.qn 2 λ_=>?_;refine J.s1 1 ((Z.set k ⟨⟨z.v.now,z.v.op,[Mv.z16],[Mv.z16]⟩,some ga,1,some gb,1⟩).flatMap MSl.cells) ?_ ?_ ?_
    ·rw[MSl.flat_len,A5,<- MSl.flat_len];exact hlt 18 (by omega)
    ·rw[hoff 18];exact(Q9 MSl.cells 19 MSl.cells_len 18 (y:=⟨⟨z.v.now,z.v.op,[Mv.z16],[Mv.z16]⟩,some ga,1,some gb,1⟩) _ (V3 ⟨⟨z.v.now,z.v.op,[Mv.z16],z.v.ever⟩,some ga,1,z.a2,z.c2⟩) (by omega) rfl).trans (by rw[a0n])
    exact J.goto [0,1,2,3,4,8,7] (hj (ga,gb)) ⟨rfl,rfl,rfl,trivial⟩ rfl rfl
  obtain⟨ga,gb⟩:=x;dsimp only;obtain⟨y,hy⟩:∃y:MSl,y=⟨⟨z.v.now,z.v.op,[Mv.z16],[Mv.z16]⟩,some ga,1,some gb,1⟩:=⟨_,rfl⟩;rw[<- hy,show l9 36 16 (some ga) 1 1 (H3 [Mv.z16])=y.m1 from by rw[hy];rfl,show l9 36 16 (some gb) 1 1 (H3 [Mv.z16])=y.m2 from by rw[hy];rfl];refine J.closeAt (A:=y.m1) 3 5 k rfl rfl rfl ?_;refine J.closeAt (A:=y.m2) 4 6 k rfl rfl rfl ?_;rw[<- A6,<- A6];have hzv:z.v=MSl.none0.v:=by
   have h2:(Z.map (·.v))[k]? =some z.v:=by rw[i5,hz];rfl
   rw[hZ,B1 (by simp),L7,E7,d7 (by omega)]at h2;injection h2 with h2;exact h2.symm
  have hyv:y.v=Mv.page0:=by rw[hy];show(⟨z.v.now,z.v.op,[Mv.z16],[Mv.z16]⟩:MPv)=_;rw[hzv];rfl
  have hZ2:(Z.set k y).map (·.v)=List.replicate (k+1) Mv.page0++List.replicate (m-(k+1)) MSl.none0.v:=by
   rw[A6,hZ,hyv,show m-k=(m-(k+1))+1 from by omega,U5 (n:=m-(k+1)),O9 _ _ (by simp),L7,U3,a0a,a4G (n:=k),m9];rfl
  refine J.q λ_=>?_;refine J.n ((k+1,Z.set k y)) (⟨by dsimp only;omega,by dsimp only;rw[A5];exact hZl,hZ2⟩) (by dsimp only;omega) [0,1,2,3,4]
 simp only[c8,i6]at h1;obtain rfl:k=m:=by omega
 refine J.qr [2,1,3,4] λ_=>?_;refine⟨bq 0,g,Z,rfl,?_,?_⟩
 ·rw[<- hZl];rfl
 ·rw[hZ,U3];unfold Mv.new;rw[hm];simp
theorem c0Q (x d:List UInt8):decide (d=x)=(x==d):=by
 by_cases h:x=d
 ·rw[h];simp
 ·rw[n7 (λe=>h e.symm),beq_eq_false_iff_ne.2 h]
theorem b6E (a:Option Nat) (n c:Nat) (l:List (List UInt8)) (hl:l.length=n) (hn:n<=1000000) (d:List UInt8) (hd:d.length=16) (hs:∀x∈l,x.length=16):FP 141 [slv a n c,a5d d] [l9 36 16 a n c (H3 l)] (λv As=>v=iI (match l.findIdx? (λx=>x==d)with | some k=>(k:Int) | none=> -1)/\As=[l9 36 16 a n c (H3 l)]):=by
 refine FE [0,0] Tryz.func141 λX F hX=>?_;refine J.q λbb=>?_;refine J.l (α:=Nat) (λk=>k<=n/\∀j,j<k->∀x,l[j]? =some x->(x==d)=false) (λk=>[si 8 k,si 7 n,sv 0 (slv a n c),⟨3,pp (bb 0),3, .tt⟩]) [] (λk=>[]) (λk=>n-k) (0) (⟨j8 _,λj hj=>absurd hj (Nat.not_lt_zero _)⟩) λk hI=>?_;obtain⟨hk,hno⟩:=hI;refine J.qd (λ_ h1=>?_) λ_ h1=>?_
 ·simp only[d6,i6]at h1;obtain⟨x,hx⟩:∃x,l[k]? =some x:=⟨_,c9 (by omega)⟩;refine J.know (λh' s=>D7 (c:=(a,c)) (by omega) (s.get (i:=1) rfl)) λhg=>?_;obtain⟨g,rfl⟩:=hg;refine J.pn 4 (.of [1,4,8,12,17,20]) [] [1,2] λ_ _=>?_;have hxl:=hs x (j9 hx);refine J.vT (a5d x) rfl rfl (λhg aa w he hC=>M3 tk rfl rfl he rfl rfl rfl (hC rfl _ (C0 (i:=1) rfl)) (by rw[show 0+(k:Int).toNat*16=k*16 from by omega];exact a2j H4 16 (λ_=>rfl) l k x hx) rfl) ?_;refine J.vT (.bool (x==d)) rfl rfl (λhg aa w he hC=>(V8 (xs:=H4 d) (ys:=H4 x) rfl rfl rfl he rfl rfl a2C (a1g _) (a1g _) mkD gdD).trans (by rw[eqD _ _ hd hxl,c0Q])) ?_;refine J.qd (λ_ h2=>?_) λ_ h2=>?_
  ·have hf:l.findIdx? (λx=>x==d)=some k:=by
    rw[o0];obtain⟨g1,g2⟩:=List.getElem?_eq_some_iff.1 hx;refine⟨g1,by rw[g2];exact h2,λj hj=>?_⟩;have:=hno j hj _ (c9 (by omega));rw[this];exact l4
   refine J.qr [1] λ_=>?_;rw[hf];exact⟨rfl,rfl⟩
  ·refine J.q λ_=>?_;refine J.nS (k+1) (⟨by omega,λj hj y hy=>by
    rcases L8 j k with h | h
    ·exact hno j h y hy
    ·obtain rfl:j=k:=by omega
     rw[hx]at hy;injection hy with hy;rw[<- hy];exact h2⟩) (by omega) [0,1,2] rfl rfl
 simp only[c8,i6]at h1;have hf:l.findIdx? (λx=>x==d)=none:=by
  rw[D4];intro x hx;obtain⟨j,hj⟩:=W7 hx;exact hno j (by have:=(List.getElem?_eq_some_iff.1 hj).1;omega) x hj
 refine J.qr [1] λ_=>?_;rw[hf];exact⟨rfl,rfl⟩
theorem b8p (l:List (List UInt8)) (d:List UInt8):decide ((match l.findIdx? (λx=>x==d)with | some k=>(k:Int) | none=> -1)>=0)=l.contains d:=by
 cases h:l.findIdx? (λx=>x==d)with
 | none=>
  rw[D4]at h;have:l.contains d=false:=by
   rw[List.contains_eq_any_beq,X1];intro x hx e;have:=h x hx;rw[a3i e]at this;simp at this
  rw[this];rfl
 | some k=>
  rw[o0]at h;obtain⟨h1,h2,_⟩:=h;have:l.contains d=true:=by
   rw[List.contains_eq_any_beq,a1M];exact⟨_,I2 h1,by rw[a3i h2];simp⟩
  rw[this,i7 (by dsimp only;omega)]
theorem b9o (a:Option Nat) (n c:Nat) (l:List (List UInt8)) (hl:l.length=n) (hn:n<=1000000) (d:List UInt8) (hd:d.length=16) (hs:∀x∈l,x.length=16):FP 90 [slv a n c,a5d d] [l9 36 16 a n c (H3 l)] (Ps (.bool (l.contains d)) [l9 36 16 a n c (H3 l)]):=by
 refine FE [0,0] Tryz.func90 λX F hX=>?_;refine J.qp (b6E a n c l hl hn d hd hs) [1] λ_=>?_;have hc:=b8p l d;refine J.qr [1] λ_=>?_;exact⟨by rw[<- hc],rfl⟩
theorem a6s {α:Type} (f:α->List Value) (w:Nat) (hw:∀x,(f x).length=w) (vs:List Value):∀{l:List α} {k:Nat} {x y:α},l[k]? =some x->vs.length<=w->vs++(f x).drop vs.length=f y->(l.flatMap f).take (k*w)++vs++(l.flatMap f).drop (k*w+vs.length)=(l.set k y).flatMap f
 | [],k,x,y,h,hj,e=>by simp at h
 | z::l,0,x,y,h,hj,e=>by
  simp only[M5,l7]at h;subst h;rw[Q3,J6,a3l,R9,z7,List.drop_append_of_le_length (by rw[hw];exact hj),<- m9,e];rfl
 | z::l,k+1,x,y,h,hj,e=>by
  have ih:=a6s f w hw vs (l:=l) (k:=k) (x:=x) (y:=y) (by simpa using h) hj e;rw[z7,show(k+1)*w=(f z).length+k*w from by rw[hw,P6];omega,T9,show(f z).length+k*w+vs.length=(f z).length+(k*w+vs.length)from by omega,List.drop_length_add_append,m9,m9,<- m9 (List.take _ _),ih];rfl
def MSl.Fine (z:MSl):Prop:=z.v.now.length=16/\(∀x∈z.v.may,x.length=16)/\(∀x∈z.v.ever,x.length=16)/\z.v.may.length<=1000/\z.v.ever.length<=1000
theorem a1Z {α:Type} {l:List α} {k:Nat} {x:α} (h:l[k]? =some x):l.set k x=l:=by
 apply z8;intro i;rw[A9];split
 ·rename_i e;subst e;split
  ·exact h.symm
  ·rename_i e2;rw[j6 (by omega)]
 ·rfl
theorem a8P (x d:List UInt8):decide (x=d)=(x==d):=by
 by_cases h:x=d
 ·rw[h];simp
 ·rw[n7 h,beq_eq_false_iff_ne.2 h]
theorem MSl.now_at {Z:List MSl} {k:Nat} {z:MSl} (hz:Z[k]? =some z):((Z.flatMap MSl.cells).drop (k*19+0)).take 16=H4 z.v.now:=by
 have h:=a2j MSl.cells 19 (λ_=>rfl) Z k z hz;have h2:((Z.flatMap MSl.cells).drop (k*19)).take 16=(((Z.flatMap MSl.cells).drop (k*19)).take 19).take 16:=by rw[a5V];rfl
 rw[Q4,h2,h];rfl
theorem b3z (q g:Nat) (Z:List MSl) (hn:Z.length<=65536) (hf:∀z∈Z,z.Fine) (i:Int) (d:List UInt8) (hd:d.length=16):FP 44 [pp q,iI i,a5d d] (b1A q g Z) (Ps (.bool (Mv.may (Z.map (·.v)) i d)) (b1A q g Z)):=by
 refine FE [2,0,0] Tryz.func44 λX F hX=>?_;refine J.qp (c1j q g Z.length hn i) [1] λ_=>?_
 by_cases hi:0<=i/\i<(Z.length:Int)
 ·have ha:Mv.adr Z.length g i=some ⟨g,i.toNat*19,none⟩:=by unfold Mv.adr;rw[d7 hi]
  obtain⟨k,rfl⟩:=f9 hi.1;obtain⟨z,hz⟩:∃z,Z[k]? =some z:=⟨_,c9 (by omega)⟩;obtain⟨f1,f2,f3,f4,f5⟩:=hf z (j9 hz);have hin:Mv.inR (Z.map (·.v)) (k:Int)=true:=by unfold Mv.inR;rw[j5,i7 hi.1,i7 hi.2];rfl
  have hpg:Mv.pg (Z.map (·.v)) (k:Int)=z.v:=by unfold Mv.pg;rw[i9,d5,i5,hz];rfl
  have hmy:Mv.may (Z.map (·.v)) (k:Int) d=if z.v.op then z.v.may.contains d else z.v.now==d:=by unfold Mv.may;rw[hin,hpg,q9]
  rw[ha,i9];refine J.qF λ_=>?_;have hcell:=λj hj=>a1U MSl.cells 19 MSl.cells_len hz j hj;refine J.qn 7 λ_=>?_;refine J.v (.bool z.v.op) rfl rfl (λhg aa w he hw=>B6 tk rfl rfl he rfl rfl rfl (hw.get (i:=2) rfl) (hcell 16 (by omega))) ?_;refine J.qd (λ_ h1=>?_) λ_ h1=>?_
  ·rw[d7 h1]at hmy;refine J.openAt 3 k rfl rfl (by rw[i5,hz];rfl) rfl ?_;refine J.pn 3 (.of [0,4,8,13,17,23,24]) [5,6] [1,2,3,4,5,6] λ_ _=>?_;refine J.vT (slv z.a1 z.v.may.length z.c1) rfl rfl (λhg aa w he hC=>B6 tk rfl rfl he rfl rfl rfl (hC rfl _ (C0 (i:=2) rfl)) (hcell 17 (by omega))) ?_;refine J.qp (b9o z.a1 z.v.may.length z.c1 z.v.may rfl (by omega) d hd f2) [6] λ_=>?_;refine J.q λ_=>?_;refine J.closeAt (A:=z.m1) 3 6 k rfl rfl rfl ?_;have hsame:(Z.map MSl.m1).set k z.m1=Z.map MSl.m1:=a1Z (by rw[i5,hz];rfl);rw[hsame];refine J.qr [1,2,3,4] λ_=>?_;rw[hmy];exact⟨rfl,rfl⟩
  ·rw[d4 (by rw[h1];decide)]at hmy;refine J.pn 3 (.of [0,4,8,13,17,20,24]) [5,6] [1,2,3,4,5] λ_ _=>?_;refine J.vT (a5d z.v.now) rfl rfl (λhg aa w he hC=>H7 tk rfl rfl he rfl rfl rfl (hC rfl _ (C0 (i:=2) rfl)) (MSl.now_at hz) rfl) ?_;refine J.qn 1 λ_=>?_;refine J.vT (.bool (z.v.now==d)) rfl rfl (λhg aa w he hC=>(V8 (xs:=H4 z.v.now) (ys:=H4 d) rfl rfl rfl he rfl rfl a2C (a1g _) (a1g _) mkD gdD).trans (by rw[eqD _ _ f1 hd,a8P])) ?_;refine J.qr [1,2,3,4] λ_=>?_;rw[hmy];exact⟨rfl,rfl⟩
 ·have ha:Mv.adr Z.length g i=none:=by unfold Mv.adr;rw[d4 hi]
  have hmy:Mv.may (Z.map (·.v)) i d=false:=by
   unfold Mv.may Mv.inR;rw[j5];have:(decide (0<=i)&&decide (i<(Z.length:Int)))=false:=by simp;omega
   rw[this];rfl
  rw[ha];refine J.qT λ_=>?_;refine J.qr [1,2,3,4] λ_=>?_;rw[hmy];exact⟨rfl,rfl⟩
end
end Go.Proofs.YtmafiplddapokaaGreat
