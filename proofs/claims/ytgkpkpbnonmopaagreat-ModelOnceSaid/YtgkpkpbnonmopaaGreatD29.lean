/- Helpers. No condition. -/
import Derived.Test.YtgkpkpbnonmopaaGreatD20
import Derived.Test.YtgkpkpbnonmopaaGreatD21
import Derived.Test.YtgkpkpbnonmopaaGreatD27
set_option maxRecDepth 20000
set_option linter.all false
namespace Go.Proofs.YtgkpkpbnonmopaaGreat
open Go Go.RowKit
def U3 (x:Int):Nat:=(BitVec.ofInt IntKind.i64.bits x&&& BitVec.ofInt IntKind.i64.bits 3).toNat
theorem a8I (x:Int):U3 x<4:=by
 unfold U3;rw[BitVec.toNat_and];have:(BitVec.ofInt IntKind.i64.bits 3).toNat=3:=by decide
 rw[this];have:=Nat.and_le_right (n:=(BitVec.ofInt IntKind.i64.bits x).toNat) (m:=3);omega
theorem a5D (x:Int):IntKind.i64.wrap ((BitVec.ofInt IntKind.i64.bits x&&& BitVec.ofInt IntKind.i64.bits 3).toNat:Int)=U3 x:=by
 show IntKind.i64.wrap (U3 x:Int)=_;have h:=a8I x;generalize U3 x=n at h;simp only[IntKind.wrap,IntKind.bits,IntKind.signed];have h1:(n:Int) % 2^64=n:=Int.emod_eq_of_lt (by omega) (by omega);simp[h1];omega
theorem b2y:∀i,i<30->U3 (i:Nat)=i % 4:=by decide+kernel
def moM (L:List Int) (Q:List (List UInt8)):Nat->List MPv
 | 0=>Mv.new 4
 | i+1=>if i % 4=3 then Mv.cut (Mv.write (moM L Q i) (U3 (L.getD i 0)) (Q.getD i []))else Mv.write (moM L Q i) (U3 (L.getD i 0)) (Q.getD i [])
def a0L (L:List Int) (Q:List (List UInt8)) (n k:Nat) (d:List UInt8):Bool:=(d==zd)||(List.range n).any λi=>(U3 (L.getD i 0)==k)&&(Q.getD i []==d)
theorem a3D (L:List Int) (Q:List (List UInt8)) (n k:Nat) (d:List UInt8):a0L L Q (n+1) k d=(a0L L Q n k d||((U3 (L.getD n 0)==k)&&(Q.getD n []==d))):=by
 unfold a0L;rw[List.range_succ,List.any_append,List.any_cons,List.any_nil,Bool.or_false,Bool.or_assoc]
structure MoI (L:List Int) (Q:List (List UInt8)) (n:Nat) (M:List MPv):Prop where
 len:M.length=4
 ever:∀(k:Nat) (v:MPv),M[k]? =some v->∀d,v.ever.contains d=a0L L Q n k d
 now:∀(k:Nat) (v:MPv),M[k]? =some v->v.now∈v.ever
 may:∀(k:Nat) (v:MPv),M[k]? =some v->∀x∈v.may,x∈v.ever
 fine:∀v∈M,v.now.length=16/\(∀x∈v.may,x.length=16)/\(∀x∈v.ever,x.length=16)/\v.may.length<=n+1/\v.ever.length<=n+1
theorem MoI.new (L:List Int) (Q:List (List UInt8)):MoI L Q 0 (Mv.new 4):=by
 have e:Mv.new 4=List.replicate 4 Mv.page0:=rfl;refine⟨rfl,λk v h d=>?_,λk v h=>?_,λk v h x hx=>?_,λv hv=>?_⟩
 ·rw[e,List.getElem?_replicate]at h;split at h
  ·injection h with h;rw[<- h];show[Mv.z16].contains d=(d==zd||false);rw[List.contains_cons,List.contains_nil];rfl
  ·cases h
 ·rw[e,List.getElem?_replicate]at h;split at h
  ·injection h with h;rw[<- h];exact List.mem_singleton.2 rfl
  ·cases h
 ·rw[e,List.getElem?_replicate]at h;split at h
  ·injection h with h;rw[<- h]at hx ⊢;exact hx
  ·cases h
 ·rw[e]at hv;rw[List.eq_of_mem_replicate hv];exact⟨rfl,by decide,by decide,by decide,by decide⟩
theorem MoI.write {L:List Int} {Q:List (List UInt8)} {n:Nat} {M:List MPv} (h:MoI L Q n M) (hq:(Q.getD n []).length=16):MoI L Q (n+1) (Mv.write M (U3 (L.getD n 0)) (Q.getD n [])):=by
 have hlt:=a8I (L.getD n 0);have hin:Mv.inR M (U3 (L.getD n 0):Nat)=true:=by
  unfold Mv.inR;rw[h.len,decide_eq_true (by omega),decide_eq_true (by omega)];rfl
 have e:Mv.write M (U3 (L.getD n 0)) (Q.getD n [])=M.set (U3 (L.getD n 0)) (Mv.wr (Mv.pg M (U3 (L.getD n 0))) (Q.getD n [])):=by
  unfold Mv.write;rw[hin,if_pos rfl,Int.toNat_natCast]
 obtain⟨u,hu⟩:∃u,U3 (L.getD n 0)=u:=⟨_,rfl⟩;rw[e];rw[hu]at hlt ⊢;obtain⟨z,hz⟩:∃z,M[u]? =some z:=⟨_,List.getElem?_eq_getElem (by rw[h.len];exact hlt)⟩;have hp:Mv.pg M (u:Nat)=z:=by
  unfold Mv.pg;rw[Int.toNat_natCast,List.getD_eq_getElem?_getD,hz];rfl
 rw[hp];have hget:∀(k:Nat) (v:MPv),(M.set u (Mv.wr z (Q.getD n [])))[k]? =some v->(k=u/\v=Mv.wr z (Q.getD n []))\/(k≠u/\M[k]? =some v):=λk v hv=>by
  rw[List.getElem?_set]at hv
  by_cases hk:u=k
  ·subst hk;rw[if_pos rfl,if_pos (by rw[h.len];exact hlt)]at hv;injection hv with hv;exact .inl ⟨rfl,hv.symm⟩
  ·rw[if_neg hk]at hv;exact .inr ⟨λe=>hk e.symm,hv⟩
 refine⟨by rw[List.length_set];exact h.len,λk v hv d=>?_,λk v hv=>?_,λk v hv x hx=>?_,λv hv=>?_⟩
 ·rw[a3D,hu];rcases hget k v hv with⟨rfl,rfl⟩ | ⟨hk,hv⟩
  ·show(z.ever++[Q.getD n []]).contains d=_;rw[List.contains_append,h.ever _ _ hz d,List.contains_cons,List.contains_nil,Bool.or_false,beq_self_eq_true,Bool.true_and,a1V]
  ·rw[h.ever _ _ hv d,beq_eq_false_iff_ne.2 (λe=>hk e.symm),Bool.false_and,Bool.or_false]
 ·rcases hget k v hv with⟨rfl,rfl⟩ | ⟨hk,hv⟩
  ·exact List.mem_append.2 (.inr (List.mem_singleton.2 rfl))
  ·exact h.now _ _ hv
 ·rcases hget k v hv with⟨rfl,rfl⟩ | ⟨hk,hv⟩
  ·rcases List.mem_append.1 hx with hx | hx
   ·exact List.mem_append.2 (.inl (h.may _ _ hz x hx))
   ·exact List.mem_append.2 (.inr hx)
  ·exact h.may _ _ hv x hx
 ·obtain⟨k,hk⟩:=List.getElem?_of_mem hv;rcases hget k v hk with⟨rfl,rfl⟩ | ⟨_,hv⟩
  ·obtain⟨f1,f2,f3,f4,f5⟩:=h.fine z (List.mem_of_getElem? hz);refine⟨hq,λx hx=>?_,λx hx=>?_,?_,?_⟩
   ·rcases List.mem_append.1 hx with h' | h'
    ·exact f2 x h'
    ·rw[List.mem_singleton.1 h'];exact hq
   ·rcases List.mem_append.1 hx with h' | h'
    ·exact f3 x h'
    ·rw[List.mem_singleton.1 h'];exact hq
   ·show(z.may++[Q.getD n []]).length<=_;rw[List.length_append,List.length_singleton];omega
   ·show(z.ever++[Q.getD n []]).length<=_;rw[List.length_append,List.length_singleton];omega
  ·obtain⟨f1,f2,f3,f4,f5⟩:=h.fine v (List.mem_of_getElem? hv);exact⟨f1,f2,f3,by omega,by omega⟩
theorem MoI.cut {L:List Int} {Q:List (List UInt8)} {n:Nat} {M:List MPv} (h:MoI L Q n M):MoI L Q n (Mv.cut M):=by
 have hget:∀(k:Nat) (v:MPv),(Mv.cut M)[k]? =some v->∃z,M[k]? =some z/\v={z with op:=true}:=λk v hv=>by
  unfold Mv.cut at hv;rw[List.getElem?_map]at hv;cases hz:M[k]? with
  | none=>rw[hz]at hv;cases hv
  | some z=>rw[hz]at hv;injection hv with hv;exact⟨z,rfl,hv.symm⟩
 refine⟨by unfold Mv.cut;rw[List.length_map];exact h.len,λk v hv d=>?_,λk v hv=>?_,λk v hv x hx=>?_,λv hv=>?_⟩
 ·obtain⟨z,hz,rfl⟩:=hget k v hv;exact h.ever k z hz d
 ·obtain⟨z,hz,rfl⟩:=hget k v hv;exact h.now k z hz
 ·obtain⟨z,hz,rfl⟩:=hget k v hv;exact h.may k z hz x hx
 ·obtain⟨k,hk⟩:=List.getElem?_of_mem hv;obtain⟨z,hz,rfl⟩:=hget k v hk;exact h.fine z (List.mem_of_getElem? hz)
theorem moI {L:List Int} {Q:List (List UInt8)}:∀n:Nat,(∀i,i<n->(Q.getD i []).length=16)->MoI L Q n (moM L Q n)
 | 0,_=>MoI.new L Q
 | n+1,h=>by
  have ih:=moI (L:=L) n λi hi=>h i (by omega);have hw:=ih.write (h n (by omega));rw[moM];split
  ·exact hw.cut
  ·exact hw
theorem MoI.once {L:List Int} {Q:List (List UInt8)} {n:Nat} {M:List MPv} (h:MoI L Q n M) {k:Nat} (hk:k<4) (d:List UInt8):Mv.once M k d=a0L L Q n k d/\(Mv.may M k d&& !a0L L Q n k d)=false:=by
 have hin:Mv.inR M (k:Nat)=true:=by
  unfold Mv.inR;rw[h.len,decide_eq_true (by omega),decide_eq_true (by omega)];rfl
 obtain⟨z,hz⟩:∃z,M[k]? =some z:=⟨_,List.getElem?_eq_getElem (by rw[h.len];exact hk)⟩;have hp:Mv.pg M (k:Nat)=z:=by
  unfold Mv.pg;rw[Int.toNat_natCast,List.getD_eq_getElem?_getD,hz];rfl
 have he:=h.ever k z hz d;unfold Mv.once Mv.may;rw[hin,hp,he,Bool.true_and,Bool.true_and];refine⟨rfl,?_⟩;cases hw:a0L L Q n k d with
 | true=>rw[Bool.not_true,Bool.and_false]
 | false=>
  rw[hw]at he;rw[Bool.not_false,Bool.and_true];have hno:∀x∈z.ever,x≠d:=λx hx e=>by
   rw[e]at hx;have:=List.contains_iff_mem.2 hx;rw[he]at this;cases this
  split
  ·rw[Bool.eq_false_iff];intro hc;exact hno d (h.may k z hz d (List.contains_iff_mem.1 hc)) rfl
  ·rw[beq_eq_false_iff_ne];exact hno _ (h.now k z hz)
theorem b2o (a b:Nat):((a:Int)==(b:Int))=(a==b):=by
 rw[Bool.eq_iff_iff,beq_iff_eq,beq_iff_eq];omega
theorem b3w {L:List Int} {Q:List (List UInt8)} {n:Nat} {Z:List MSl} (h:Z.map (·.v)=moM L Q n) (hM:MoI L Q n (moM L Q n)) (hn:n<=100):(∀z∈Z,z.Fine)/\Z.length<=65536:=by
 refine⟨Y0 h λv hv=>?_,?_⟩
 ·obtain⟨f1,f2,f3,f4,f5⟩:=hM.fine v hv;exact⟨f1,f2,f3,by omega,by omega⟩
 ·have:=congrArg List.length h;rw[List.length_map,hM.len]at this;omega
theorem a5Y (A:Atom) (ao:Option Addr) (na ca:Nat) (L:List Int) (hA:Rd A ao 1 na (L.flatMap λx=>[Value.int .i64 x])) (hlo:L.length=na) (hdo:∀x∈L,-9223372036854775808<=x/\x<=9223372036854775807)
  (aq:Option Addr) (nq cq:Nat) (Q:List (List UInt8)) (hAq:Rd A aq 16 nq (Q.flatMap j3)) (hlq:Q.length=nq) (hdq:∀x∈Q,x.length=16):
  FP 5 [.slice ao na ca, .slice aq nq cq] [A] (Ps (.bool true) [A]):=by
 rw[a6W]at hA;refine FE [0,0] Tryz.func5 λX F hX=>?_;refine J.qp (a0Y) [] λ_=>?_;refine J.qF λ_=>?_;refine J.qc (a7w 4) [] λ_=>?_;rintro v As ⟨mq,mg,MZ,rfl,rfl,hM0⟩;refine⟨_,rfl,trivial,?_⟩;have hlen:∀i,i<nq->(Q.getD i []).length=16:=λi hi=>by
  rw[List.getD_eq_getElem?_getD,List.getElem?_eq_getElem (by omega)];exact hdq _ (List.getElem_mem _)
 refine J.q λ_=>?_;refine J.l (α:=(Nat×List MSl)) (λz=>(z.1<=na/\z.1<=nq/\z.1<=30)/\z.2.map (·.v)=moM L Q z.1) (λz=>[si 7 z.1,sv 0 (.slice ao na ca),sv 1 (.slice aq nq cq),sp 6 mq]) [2,3,4,5] (λz=>S8 mq mg z.2) (λz=>na-z.1) ((0,MZ)) (⟨⟨Nat.zero_le _,Nat.zero_le _,Nat.zero_le _⟩,hM0⟩) λz hI=>?_;obtain⟨i,Z⟩:=z;dsimp only at hI ⊢;obtain⟨⟨hi1,hi2,hi3⟩,hZ⟩:=hI;have hMI:=moI (L:=L) i λj hj=>hlen j (by omega);obtain⟨hf,hn⟩:=b3w hZ hMI (by omega);refine J.qd (λ_ h1=>?_) λ_ h1=>?_
 ·simp only[Bool.and_eq_true,decide_eq_true_eq,Int.ofNat_lt]at h1;have h1:i<na/\i<nq/\i<30:=by omega
  obtain⟨x,hx⟩:∃x,L[i]? =some x:=⟨_,List.getElem?_eq_getElem (by omega)⟩;obtain⟨y,hy⟩:∃y,Q[i]? =some y:=⟨_,List.getElem?_eq_getElem (by omega)⟩;have hxg:L.getD i 0=x:=by rw[List.getD_eq_getElem?_getD,hx];rfl
  have hyg:Q.getD i []=y:=by rw[List.getD_eq_getElem?_getD,hy];rfl
  have hyl:=hdq y (List.mem_of_getElem? hy);have hxb:=hdo x (List.mem_of_getElem? hx);refine J.know (p:=∃g o,ao=some ⟨g,o,none⟩) (λh' s=>Rd.addr (hA _ (s.get (i:=1) rfl)) (by omega)) λhk=>?_;obtain⟨gm,om,rfl⟩:=hk;refine J.know (p:=∃g o,aq=some ⟨g,o,none⟩) (λh' s=>Rd.addr (hAq _ (s.get (i:=1) rfl)) (by omega)) λhk=>?_;obtain⟨gq,oq,rfl⟩:=hk;refine J.pn 6 (.of [0,4,8,12,17,20,24,28,32,37,42]) [] [1] λ_ _=>?_;refine J.vT (iI x) rfl rfl (λhg aa w he hC=>a4M tk rfl rfl he rfl rfl rfl (hA _ (hC rfl _ (d7 (i:=1) rfl))) (by omega) (j:=i) (by omega) (R7 hx)) ?_;refine J.qn 1 λ_=>?_;rw[a5D x];refine J.qn 3 λ_=>?_;refine J.vT (K4 y) rfl rfl (λhg aa w he hC=>B4 tk rfl rfl he rfl rfl rfl (hAq _ (hC rfl _ (d7 (i:=1) rfl))) (by omega) (j:=i*16) (by omega) (B1 j3 16 (λ_=>rfl) Q i y hy) rfl) ?_;refine J.qc (V4 mq mg Z hn hf (U3 x) y hyl) [2,3,4,5] λ_=>?_;rintro v As ⟨Z1,rfl,rfl,hZ1⟩;refine⟨_,rfl,(by first | exact trivial | (repeat' (first | exact trivial | refine⟨rfl,?_⟩))),?_⟩;have hMI1:=hMI.write (by rw[hyg];exact hyl);rw[hxg,hyg]at hMI1;have hn1:Z1.length<=65536:=by
   have:=congrArg List.length hZ1;rw[List.length_map,hZ]at this;have h4:=hMI1.len;omega
  refine J.qn 6 λ_=>?_;rw[a5D (i:Int),b2y i (by omega)];refine J.qn 1 λ_=>?_;refine J.qd (λ_ h2=>?_) λ_ h2=>?_
  ·have h2:i % 4=3:=by simp at h2;omega
   refine J.qc (a2E mq mg Z1 hn1) [2,3,4,5] λ_=>?_;rintro v As ⟨Z2,rfl,rfl,hZ2⟩;refine⟨_,rfl,trivial,?_⟩;refine J.q λ_=>?_;refine J.n ((i+1,Z2)) (⟨⟨by dsimp only;omega,by dsimp only;omega,by dsimp only;omega⟩,by dsimp only;rw[hZ2,hZ1,hZ,moM,if_pos h2,hxg,hyg]⟩) (by dsimp only;omega) [0,1,2,3,4,5]
  ·have h2:¬i % 4=3:=by simp at h2;omega
   refine J.q λ_=>?_;refine J.n ((i+1,Z1)) (⟨⟨by dsimp only;omega,by dsimp only;omega,by dsimp only;omega⟩,by dsimp only;rw[hZ1,hZ,moM,if_neg h2,hxg,hyg]⟩) (by dsimp only;omega) [0,1,2,3,4,5]
 have hn0:¬(i<na/\i<nq/\i<30):=by
  intro hc;rw[decide_eq_true (show(i:Int)<na by omega),decide_eq_true (show(i:Int)<nq by omega),decide_eq_true (show(i:Int)<30 by omega)]at h1;cases h1
 refine J.q λ_=>?_;refine J.l (α:=Nat) (λk=>k<=4) (λk=>[si 8 k,sv 0 (.slice ao na ca),sv 1 (.slice aq nq cq),sp 6 mq]) [] (λk=>[]) (λk=>4-k) (0) (Nat.zero_le 4) λk hI=>?_;refine J.qd (λ_ h3=>?_) λ_ h3=>?_
 ·simp only[decide_eq_true_eq]at h3;refine J.q λ_=>?_;refine J.l (α:=Nat) (λj=>j<=nq) (λj=>[si 9 j,si 8 k,sv 0 (.slice ao na ca),sv 1 (.slice aq nq cq),sp 6 mq]) [] (λj=>[]) (λj=>nq-j) (0) (Nat.zero_le nq) λj hI=>?_;refine J.qd (λ_ h4=>?_) λ_ h4=>?_
  ·simp only[Bool.and_eq_true,decide_eq_true_eq,Int.ofNat_lt]at h4;obtain⟨d,hd⟩:∃d,Q[j]? =some d:=⟨_,List.getElem?_eq_getElem (by omega)⟩;have hdl:=hdq d (List.mem_of_getElem? hd);refine J.know (p:=∃g o,aq=some ⟨g,o,none⟩) (λh' s=>Rd.addr (hAq _ (s.get (i:=1) rfl)) (by omega)) λhk=>?_;obtain⟨gq,oq,rfl⟩:=hk;refine J.qn 10 λ_=>?_;refine J.v (K4 d) rfl rfl (λhg aa w he hw=>B4 tk rfl rfl he rfl rfl rfl (hAq _ (hw.get (i:=1) rfl)) (by omega) (j:=j*16) (by omega) (B1 j3 16 (λ_=>rfl) Q j d hd) rfl) ?_;refine J.qn 1 λ_=>?_;refine J.v (.bool (a0L L Q 0 k d)) rfl rfl (λhg aa w he hw=>(n2 (xs:=j3 d) (ys:=j3 zd) rfl rfl rfl he rfl rfl u7 (r8 _) (r8 _) mkD gdD).trans (by rw[eqD _ _ hdl rfl,x8,show a0L L Q 0 k d=(d==zd)from by simp[a0L]])) ?_;refine J.q λ_=>?_;refine J.l (α:=Nat) (λa=>a<=na/\a<=nq/\a<=30) (λa=>[si 11 a,sv 10 (.bool (a0L L Q a k d)),si 9 j,si 8 k,sv 0 (.slice ao na ca),sv 1 (.slice (some ⟨gq,oq,none⟩) nq cq),sp 6 mq]) [] (λa=>[]) (λa=>nq-a) (0) (⟨Nat.zero_le _,Nat.zero_le _,Nat.zero_le _⟩) λa hI=>?_;refine J.qd (λ_ h5=>?_) λ_ h5=>?_
   ·simp only[Bool.and_eq_true,decide_eq_true_eq,Int.ofNat_lt]at h5;have h5:a<na/\a<nq/\a<30:=by omega
    obtain⟨x,hx⟩:∃x,L[a]? =some x:=⟨_,List.getElem?_eq_getElem (by omega)⟩;obtain⟨y,hy⟩:∃y,Q[a]? =some y:=⟨_,List.getElem?_eq_getElem (by omega)⟩;have hxg:L.getD a 0=x:=by rw[List.getD_eq_getElem?_getD,hx];rfl
    have hyg:Q.getD a []=y:=by rw[List.getD_eq_getElem?_getD,hy];rfl
    have hyl:=hdq y (List.mem_of_getElem? hy);have hxb:=hdo x (List.mem_of_getElem? hx);refine J.know (p:=∃g o,ao=some ⟨g,o,none⟩) (λh' s=>Rd.addr (hA _ (s.get (i:=1) rfl)) (by omega)) λhk=>?_;obtain⟨gm,om,rfl⟩:=hk;have hws:=a3D L Q a k d;rw[hxg,hyg]at hws;generalize a0L L Q a k d=w at hws ⊢;refine J.pn 6 (.of [0,4,8,12,16,21,24,28,32,36,40,44,48,53,56,60,64,69,72,76,80,84]) [21] [1] λ_ _=>?_;refine J.vT (iI x) rfl rfl (λhg aa w he hC=>a4M tk rfl rfl he hg rfl rfl (hA _ (hC rfl _ (d7 (i:=1) rfl))) (by omega) (j:=a) (by omega) (R7 hx)) ?_;refine J.qn 1 λ_=>?_;rw[a5D x];refine J.qn 6 λ_=>?_;refine J.vT (K4 y) rfl rfl (λhg aa w' he hC=>B4 tk rfl rfl he hg rfl rfl (hAq _ (hC rfl _ (d7 (i:=1) rfl))) (by omega) (j:=a*16) (by omega) (B1 j3 16 (λ_=>rfl) Q a y hy) rfl) ?_;refine J.run hX tk 400 (λb39=>rfl) (λb39=>?_) (λb39=>?_)
    ·(repeat' (first | exact Conj.nil | refine Conj.cons ?_ ?_ | exact rfl | omega | (intro hq) | (simp_all;done)))
    refine J.vT (K4 d) rfl rfl (λhg aa w' he hC=>B4 tk rfl rfl he hg rfl rfl (hAq _ (hC rfl _ (d7 (i:=1) rfl))) (by omega) (j:=j*16) (by omega) (B1 j3 16 (λ_=>rfl) Q j d hd) rfl) ?_;refine J.vT (.bool (y==d)) rfl rfl (λhg aa w' he hC=>(n2 (xs:=j3 y) (ys:=j3 d) rfl rfl rfl he hg hg u7 (r8 _) (r8 _) mkD gdD).trans (by rw[eqD _ _ hyl hdl,x8])) ?_;refine J.run hX tk 400 (λb40=>rfl) (λb40=>?_) (λb40=>?_)
    ·(repeat' (first | exact Conj.nil | refine Conj.cons ?_ ?_ | exact rfl | omega | (intro hq) | (simp_all;done)))
    rw[show(w||((U3 x:Int)==(k:Int))&&y==d)=a0L L Q (a+1) k d from by rw[hws,b2o]];refine J.q λ_=>?_;refine J.n (a+1) (⟨by omega,by omega,by omega⟩) (by omega) [0,1,2,3,4,5]
   have hai:a=i:=by
    have h6:¬(a<na/\a<nq/\a<30):=by
     intro hc;rw[decide_eq_true (show(a:Int)<na by omega),decide_eq_true (show(a:Int)<nq by omega),decide_eq_true (show(a:Int)<30 by omega)]at h5;cases h5
    omega
   subst hai;obtain⟨o1,o2⟩:=hMI.once (k:=k) (by omega) d;rw[<- hZ]at o1 o2;refine J.qn 8 λ_=>?_;refine J.v (K4 d) rfl rfl (λhg aa w he hw=>B4 tk rfl rfl he rfl rfl rfl (hAq _ (hw.get (i:=1) rfl)) (by omega) (j:=j*16) (by omega) (B1 j3 16 (λ_=>rfl) Q j d hd) rfl) ?_;refine J.qp (a4X mq mg Z hn hf k d hdl) [2,3,4,5] λ_=>?_;rw[o1];refine J.qn 2 λ_=>?_;rw[beq_self_eq_true,Bool.not_true];refine J.qn 6 λ_=>?_;refine J.v (K4 d) rfl rfl (λhg aa w he hw=>B4 tk rfl rfl he rfl rfl rfl (hAq _ (hw.get (i:=1) rfl)) (by omega) (j:=j*16) (by omega) (B1 j3 16 (λ_=>rfl) Q j d hd) rfl) ?_;refine J.qp (C0 mq mg Z hn hf k d hdl) [2,3,4,5] λ_=>?_;refine J.qd (λ_ h7=>?_) λ_ h7=>?_
   ·exfalso
    simp[o2]at h7
   refine J.q λ_=>?_;refine J.n (j+1) (h4.1) (by omega) [0,1,2,3,4,5]
  refine J.q λ_=>?_;refine J.n (k+1) (by omega) (by omega) [0,1,2,3,4,5]
 have hml:(moM L Q i).length=4:=hMI.len;have e1:Mv.once (Z.map (·.v)) 4 zd=false:=by
  rw[hZ];unfold Mv.once Mv.inR;rw[hml];rfl
 have e2:Mv.once (Z.map (·.v)) (-1) zd=false:=by
  rw[hZ];unfold Mv.once Mv.inR;rfl
 refine J.qp (a4X mq mg Z hn hf 4 zd rfl) [2,3,4,5] λ_=>?_;rw[e1];refine J.qp (a4X mq mg Z hn hf (-1) zd rfl) [2,3,4,5] λ_=>?_;rw[e2];exact J.qx [1]
end Go.Proofs.YtgkpkpbnonmopaaGreat
namespace Go.Proofs.YtgkpkpbnonmopaaGreat
open Go Go.RowKit
open Go.ChangeShapes Go.WideShapes Go.ChangeAt
section
variable {H : Type} {enc : TypeId × Value → H} {w : World} {base : Nat} {spare : Nat → Bool} {held : Bool}
theorem b3t {held':Bool} {fuel:Nat} {a:Option Addr} {len cap:Nat} {x:DataW H×List MemPlace} (h:DataW.trod enc Tryz.prog w base spare held' fuel 35 [.slice a len cap]=some x):
  ∃l:List (List UInt8),l.length=len/\(∀e∈l,e.length=16)/\rdP a 16 len (l.flatMap j3) (hl w):=
 a3Q j3 (λl=>l.length=16) Tryz.underlying35 (by kernel_rfl) (by decide) (λh=>a1U h) h
end
end Go.Proofs.YtgkpkpbnonmopaaGreat
