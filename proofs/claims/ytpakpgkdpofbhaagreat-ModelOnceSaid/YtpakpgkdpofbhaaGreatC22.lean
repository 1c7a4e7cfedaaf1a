/- Helpers. No condition. -/
import Derived.Test.YtpakpgkdpofbhaaGreatC00
import Derived.Test.YtpakpgkdpofbhaaGreatC10
import Derived.Test.YtpakpgkdpofbhaaGreatC12
import Derived.Test.YtpakpgkdpofbhaaGreatC17
import Derived.Test.YtpakpgkdpofbhaaGreatC19
set_option maxRecDepth 20000
set_option linter.all false
namespace Go.Proofs.YtpakpgkdpofbhaaGreat
open Go Go.RowKit
def a3x (x:Int):Nat:=(BitVec.ofInt IntKind.i64.bits x&&& BitVec.ofInt IntKind.i64.bits 3).toNat
theorem b4H (x:Int):a3x x<4:=by
 unfold a3x;rw[BitVec.toNat_and];have:(BitVec.ofInt IntKind.i64.bits 3).toNat=3:=by decide
 rw[this];have:=Nat.and_le_right (n:=(BitVec.ofInt IntKind.i64.bits x).toNat) (m:=3);omega
theorem b0T (x:Int):IntKind.i64.wrap ((BitVec.ofInt IntKind.i64.bits x&&& BitVec.ofInt IntKind.i64.bits 3).toNat:Int)=a3x x:=by
 show IntKind.i64.wrap (a3x x:Int)=_;have h:=b4H x;generalize a3x x=n at h;simp only[IntKind.wrap,IntKind.bits,IntKind.signed];have h1:(n:Int) % 2^64=n:=Int.emod_eq_of_lt (by omega) (by omega);simp[h1];omega
theorem b9s:∀i,i<30->a3x (i:Nat)=i % 4:=by decide+kernel
def moM (L:List Int) (Q:List (List UInt8)):Nat->List MPv
 | 0=>Mv.new 4
 | i+1=>if i % 4=3 then Mv.cut (Mv.write (moM L Q i) (a3x (L.getD i 0)) (Q.getD i []))else Mv.write (moM L Q i) (a3x (L.getD i 0)) (Q.getD i [])
def a5F (L:List Int) (Q:List (List UInt8)) (n k:Nat) (d:List UInt8):Bool:=(d==zd)||(List.range n).any λi=>(a3x (L.getD i 0)==k)&&(Q.getD i []==d)
theorem a9a (L:List Int) (Q:List (List UInt8)) (n k:Nat) (d:List UInt8):a5F L Q (n+1) k d=(a5F L Q n k d||((a3x (L.getD n 0)==k)&&(Q.getD n []==d))):=by
 unfold a5F;rw[t6,List.any_append,List.any_cons,List.any_nil,a2c,Bool.or_assoc]
structure MoI (L:List Int) (Q:List (List UInt8)) (n:Nat) (M:List MPv):Prop where
 len:M.length=4
 ever:∀(k:Nat) (v:MPv),M[k]? =some v->∀d,v.ever.contains d=a5F L Q n k d
 now:∀(k:Nat) (v:MPv),M[k]? =some v->v.now∈v.ever
 may:∀(k:Nat) (v:MPv),M[k]? =some v->∀x∈v.may,x∈v.ever
 fine:∀v∈M,v.now.length=16/\(∀x∈v.may,x.length=16)/\(∀x∈v.ever,x.length=16)/\v.may.length<=n+1/\v.ever.length<=n+1
theorem MoI.new (L:List Int) (Q:List (List UInt8)):MoI L Q 0 (Mv.new 4):=by
 have e:Mv.new 4=List.replicate 4 Mv.page0:=rfl;refine⟨rfl,λk v h d=>?_,λk v h=>?_,λk v h x hx=>?_,λv hv=>?_⟩
 ·rw[e,D3]at h;split at h
  ·injection h with h;rw[<- h];show[Mv.z16].contains d=(d==zd||false);rw[a0s,a0V];rfl
  ·cases h
 ·rw[e,D3]at h;split at h
  ·injection h with h;rw[<- h];exact List.mem_singleton.2 rfl
  ·cases h
 ·rw[e,D3]at h;split at h
  ·injection h with h;rw[<- h]at hx ⊢;exact hx
  ·cases h
 ·rw[e]at hv;rw[List.eq_of_mem_replicate hv];exact⟨rfl,by decide,by decide,by decide,by decide⟩
theorem MoI.write {L:List Int} {Q:List (List UInt8)} {n:Nat} {M:List MPv} (h:MoI L Q n M) (hq:(Q.getD n []).length=16):MoI L Q (n+1) (Mv.write M (a3x (L.getD n 0)) (Q.getD n [])):=by
 have hlt:=b4H (L.getD n 0);have hin:Mv.inR M (a3x (L.getD n 0):Nat)=true:=by
  unfold Mv.inR;rw[h.len,j3 (by omega),j3 (by omega)];rfl
 have e:Mv.write M (a3x (L.getD n 0)) (Q.getD n [])=M.set (a3x (L.getD n 0)) (Mv.wr (Mv.pg M (a3x (L.getD n 0))) (Q.getD n [])):=by
  unfold Mv.write;rw[hin,d8 rfl,l6]
 obtain⟨u,hu⟩:∃u,a3x (L.getD n 0)=u:=⟨_,rfl⟩;rw[e];rw[hu]at hlt ⊢;obtain⟨z,hz⟩:∃z,M[u]? =some z:=⟨_,d5 (by rw[h.len];exact hlt)⟩;have hp:Mv.pg M (u:Nat)=z:=by
  unfold Mv.pg;rw[l6,d6,hz];rfl
 rw[hp];have hget:∀(k:Nat) (v:MPv),(M.set u (Mv.wr z (Q.getD n [])))[k]? =some v->(k=u/\v=Mv.wr z (Q.getD n []))\/(k≠u/\M[k]? =some v):=λk v hv=>by
  rw[r9]at hv
  by_cases hk:u=k
  ·subst hk;rw[d8 rfl,d8 (by rw[h.len];exact hlt)]at hv;injection hv with hv;exact .inl ⟨rfl,hv.symm⟩
  ·rw[d7 hk]at hv;exact .inr ⟨λe=>hk e.symm,hv⟩
 refine⟨by rw[n8];exact h.len,λk v hv d=>?_,λk v hv=>?_,λk v hv x hx=>?_,λv hv=>?_⟩
 ·rw[a9a,hu];rcases hget k v hv with⟨rfl,rfl⟩ | ⟨hk,hv⟩
  ·show(z.ever++[Q.getD n []]).contains d=_;rw[List.contains_append,h.ever _ _ hz d,a0s,a0V,a2c,E5,o0,a7c]
  ·rw[h.ever _ _ hv d,beq_eq_false_iff_ne.2 (λe=>hk e.symm),O0,a2c]
 ·rcases hget k v hv with⟨rfl,rfl⟩ | ⟨hk,hv⟩
  ·exact List.mem_append.2 (.inr (List.mem_singleton.2 rfl))
  ·exact h.now _ _ hv
 ·rcases hget k v hv with⟨rfl,rfl⟩ | ⟨hk,hv⟩
  ·rcases List.mem_append.1 hx with hx | hx
   ·exact List.mem_append.2 (.inl (h.may _ _ hz x hx))
   ·exact List.mem_append.2 (.inr hx)
  ·exact h.may _ _ hv x hx
 ·obtain⟨k,hk⟩:=List.getElem?_of_mem hv;rcases hget k v hk with⟨rfl,rfl⟩ | ⟨_,hv⟩
  ·obtain⟨f1,f2,f3,f4,f5⟩:=h.fine z (l7 hz);refine⟨hq,λx hx=>?_,λx hx=>?_,?_,?_⟩
   ·rcases List.mem_append.1 hx with h' | h'
    ·exact f2 x h'
    ·rw[List.mem_singleton.1 h'];exact hq
   ·rcases List.mem_append.1 hx with h' | h'
    ·exact f3 x h'
    ·rw[List.mem_singleton.1 h'];exact hq
   ·show(z.may++[Q.getD n []]).length<=_;rw[f9,I4];omega
   ·show(z.ever++[Q.getD n []]).length<=_;rw[f9,I4];omega
  ·obtain⟨f1,f2,f3,f4,f5⟩:=h.fine v (l7 hv);exact⟨f1,f2,f3,by omega,by omega⟩
theorem MoI.cut {L:List Int} {Q:List (List UInt8)} {n:Nat} {M:List MPv} (h:MoI L Q n M):MoI L Q n (Mv.cut M):=by
 have hget:∀(k:Nat) (v:MPv),(Mv.cut M)[k]? =some v->∃z,M[k]? =some z/\v={z with op:=true}:=λk v hv=>by
  unfold Mv.cut at hv;rw[j6]at hv;cases hz:M[k]? with
  | none=>rw[hz]at hv;cases hv
  | some z=>rw[hz]at hv;injection hv with hv;exact⟨z,rfl,hv.symm⟩
 refine⟨by unfold Mv.cut;rw[m9];exact h.len,λk v hv d=>?_,λk v hv=>?_,λk v hv x hx=>?_,λv hv=>?_⟩
 ·obtain⟨z,hz,rfl⟩:=hget k v hv;exact h.ever k z hz d
 ·obtain⟨z,hz,rfl⟩:=hget k v hv;exact h.now k z hz
 ·obtain⟨z,hz,rfl⟩:=hget k v hv;exact h.may k z hz x hx
 ·obtain⟨k,hk⟩:=List.getElem?_of_mem hv;obtain⟨z,hz,rfl⟩:=hget k v hk;exact h.fine z (l7 hz)
theorem moI {L:List Int} {Q:List (List UInt8)}:∀n:Nat,(∀i,i<n->(Q.getD i []).length=16)->MoI L Q n (moM L Q n)
 | 0,_=>MoI.new L Q
 | n+1,h=>by
  have ih:=moI (L:=L) n λi hi=>h i (by omega);have hw:=ih.write (h n (by omega));rw[moM];split
  ·exact hw.cut
  ·exact hw
theorem MoI.once {L:List Int} {Q:List (List UInt8)} {n:Nat} {M:List MPv} (h:MoI L Q n M) {k:Nat} (hk:k<4) (d:List UInt8):Mv.once M k d=a5F L Q n k d/\(Mv.may M k d&& !a5F L Q n k d)=false:=by
 have hin:Mv.inR M (k:Nat)=true:=by
  unfold Mv.inR;rw[h.len,j3 (by omega),j3 (by omega)];rfl
 obtain⟨z,hz⟩:∃z,M[k]? =some z:=⟨_,d5 (by rw[h.len];exact hk)⟩;have hp:Mv.pg M (k:Nat)=z:=by
  unfold Mv.pg;rw[l6,d6,hz];rfl
 have he:=h.ever k z hz d;unfold Mv.once Mv.may;rw[hin,hp,he,o0,o0];refine⟨rfl,?_⟩;cases hw:a5F L Q n k d with
 | true=>rw[Z4,Bool.and_false]
 | false=>
  rw[hw]at he;rw[Bool.not_false,a7e];have hno:∀x∈z.ever,x≠d:=λx hx e=>by
   rw[e]at hx;have:=List.contains_iff_mem.2 hx;rw[he]at this;cases this
  split
  ·rw[a0W];intro hc;exact hno d (h.may k z hz d (List.contains_iff_mem.1 hc)) rfl
  ·rw[j9];exact hno _ (h.now k z hz)
theorem b9j (a b:Nat):((a:Int)==(b:Int))=(a==b):=by
 rw[a0D,m5,m5];omega
theorem c0w {L:List Int} {Q:List (List UInt8)} {n:Nat} {Z:List MSl} (h:Z.map (·.v)=moM L Q n) (hM:MoI L Q n (moM L Q n)) (hn:n<=100):(∀z∈Z,z.Fine)/\Z.length<=65536:=by
 refine⟨a4o h λv hv=>?_,?_⟩
 ·obtain⟨f1,f2,f3,f4,f5⟩:=hM.fine v hv;exact⟨f1,f2,f3,by omega,by omega⟩
 ·have:=congrArg List.length h;rw[m9,hM.len]at this;omega
theorem b1p (A:Atom) (ao:Option Addr) (na ca:Nat) (L:List Int) (hA:Rd A ao 1 na (L.flatMap λx=>[Value.int .i64 x])) (hlo:L.length=na) (hdo:∀x∈L,-9223372036854775808<=x/\x<=9223372036854775807)
  (aq:Option Addr) (nq cq:Nat) (Q:List (List UInt8)) (hAq:Rd A aq 16 nq (Q.flatMap B1)) (hlq:Q.length=nq) (hdq:∀x∈Q,x.length=16):
  FP 6 [.slice ao na ca, .slice aq nq cq] [A] (Ps (.bool true) [A]):=by
 rw[b2r]at hA;refine FE [0,0] Tryz.func6 λX F hX=>?_;refine J.qp (a2L) [] λ_=>?_;refine J.qF λ_=>?_;refine J.qc (b3f 4) [] λ_=>?_;rintro v As ⟨mq,mg,MZ,rfl,rfl,hM0⟩;refine⟨_,rfl,trivial,?_⟩;have hlen:∀i,i<nq->(Q.getD i []).length=16:=λi hi=>by
  rw[d6,d5 (by omega)];exact hdq _ (I0 _)
 refine J.q λ_=>?_;refine J.l (α:=(Nat×List MSl)) (λz=>(z.1<=na/\z.1<=nq/\z.1<=30)/\z.2.map (·.v)=moM L Q z.1) (λz=>[si 7 z.1,sv 0 (.slice ao na ca),sv 1 (.slice aq nq cq),sp 6 mq]) [2,3,4,5] (λz=>a3j mq mg z.2) (λz=>na-z.1) ((0,MZ)) (⟨⟨j4 _,j4 _,j4 _⟩,hM0⟩) λz hI=>?_;obtain⟨i,Z⟩:=z;dsimp only at hI ⊢;obtain⟨⟨hi1,hi2,hi3⟩,hZ⟩:=hI;have hMI:=moI (L:=L) i λj hj=>hlen j (by omega);obtain⟨hf,hn⟩:=c0w hZ hMI (by omega);refine J.qd (λ_ h1=>?_) λ_ h1=>?_
 ·simp only[i9,c9,g6]at h1;have h1:i<na/\i<nq/\i<30:=by omega
  obtain⟨x,hx⟩:∃x,L[i]? =some x:=⟨_,d5 (by omega)⟩;obtain⟨y,hy⟩:∃y,Q[i]? =some y:=⟨_,d5 (by omega)⟩;have hxg:L.getD i 0=x:=by rw[d6,hx];rfl
  have hyg:Q.getD i []=y:=by rw[d6,hy];rfl
  have hyl:=hdq y (l7 hy);have hxb:=hdo x (l7 hx);refine J.know (p:=∃g o,ao=some ⟨g,o,none⟩) (λh' s=>Rd.addr (hA _ (s.get (i:=1) rfl)) (by omega)) λhk=>?_;obtain⟨gm,om,rfl⟩:=hk;refine J.know (p:=∃g o,aq=some ⟨g,o,none⟩) (λh' s=>Rd.addr (hAq _ (s.get (i:=1) rfl)) (by omega)) λhk=>?_;obtain⟨gq,oq,rfl⟩:=hk;refine J.pn 6 (.of [0,4,8,12,17,20,24,28,32,37,42]) [] [1] λ_ _=>?_;refine J.vT (iI x) rfl rfl (λhg aa w he hC=>a2f tk rfl rfl he rfl rfl rfl (hA _ (hC rfl _ (r8 (i:=1) rfl))) (by omega) (j:=i) (by omega) (L5 hx)) ?_;refine J.qn 1 λ_=>?_;rw[b0T x];refine J.qn 3 λ_=>?_;refine J.vT (a1m y) rfl rfl (λhg aa w he hC=>V4 tk rfl rfl he rfl rfl rfl (hAq _ (hC rfl _ (r8 (i:=1) rfl))) (by omega) (j:=i*16) (by omega) (O4 B1 16 (λ_=>rfl) Q i y hy) rfl) ?_;refine J.qc (a3M mq mg Z hn hf (a3x x) y hyl) [2,3,4,5] λ_=>?_;rintro v As ⟨Z1,rfl,rfl,hZ1⟩;refine⟨_,rfl,stq,?_⟩;have hMI1:=hMI.write (by rw[hyg];exact hyl);rw[hxg,hyg]at hMI1;have hn1:Z1.length<=65536:=by
   have:=congrArg List.length hZ1;rw[m9,hZ]at this;have h4:=hMI1.len;omega
  refine J.qn 6 λ_=>?_;rw[b0T (i:Int),b9s i (by omega)];refine J.qn 1 λ_=>?_;refine J.qd (λ_ h2=>?_) λ_ h2=>?_
  ·have h2:i % 4=3:=by simp at h2;omega
   refine J.qc (a7P mq mg Z1 hn1) [2,3,4,5] λ_=>?_;rintro v As ⟨Z2,rfl,rfl,hZ2⟩;refine⟨_,rfl,trivial,?_⟩;refine J.q λ_=>?_;refine J.n ((i+1,Z2)) (⟨⟨by dsimp only;omega,by dsimp only;omega,by dsimp only;omega⟩,by dsimp only;rw[hZ2,hZ1,hZ,moM,d8 h2,hxg,hyg]⟩) (by dsimp only;omega) [0,1,2,3,4,5]
  ·have h2:¬i % 4=3:=by simp at h2;omega
   refine J.q λ_=>?_;refine J.n ((i+1,Z1)) (⟨⟨by dsimp only;omega,by dsimp only;omega,by dsimp only;omega⟩,by dsimp only;rw[hZ1,hZ,moM,d7 h2,hxg,hyg]⟩) (by dsimp only;omega) [0,1,2,3,4,5]
 have hn0:¬(i<na/\i<nq/\i<30):=by
  intro hc;rw[j3 (show(i:Int)<na by omega),j3 (show(i:Int)<nq by omega),j3 (show(i:Int)<30 by omega)]at h1;cases h1
 refine J.q λ_=>?_;refine J.l (α:=Nat) (λk=>k<=4) (λk=>[si 8 k,sv 0 (.slice ao na ca),sv 1 (.slice aq nq cq),sp 6 mq]) [] (λk=>[]) (λk=>4-k) (0) (j4 4) λk hI=>?_;refine J.qd (λ_ h3=>?_) λ_ h3=>?_
 ·simp only[c9]at h3;refine J.q λ_=>?_;refine J.l (α:=Nat) (λj=>j<=nq) (λj=>[si 9 j,si 8 k,sv 0 (.slice ao na ca),sv 1 (.slice aq nq cq),sp 6 mq]) [] (λj=>[]) (λj=>nq-j) (0) (j4 nq) λj hI=>?_;refine J.qd (λ_ h4=>?_) λ_ h4=>?_
  ·simp only[i9,c9,g6]at h4;obtain⟨d,hd⟩:∃d,Q[j]? =some d:=⟨_,d5 (by omega)⟩;have hdl:=hdq d (l7 hd);refine J.know (p:=∃g o,aq=some ⟨g,o,none⟩) (λh' s=>Rd.addr (hAq _ (s.get (i:=1) rfl)) (by omega)) λhk=>?_;obtain⟨gq,oq,rfl⟩:=hk;refine J.qn 10 λ_=>?_;refine J.v (a1m d) rfl rfl (λhg aa w he hw=>V4 tk rfl rfl he rfl rfl rfl (hAq _ (hw.get (i:=1) rfl)) (by omega) (j:=j*16) (by omega) (O4 B1 16 (λ_=>rfl) Q j d hd) rfl) ?_;refine J.qn 1 λ_=>?_;refine J.v (.bool (a5F L Q 0 k d)) rfl rfl (λhg aa w he hw=>(I5 (xs:=B1 d) (ys:=B1 zd) rfl rfl rfl he rfl rfl T6 (O5 _) (O5 _) mkD gdD).trans (by rw[eqD _ _ hdl rfl,W6,show a5F L Q 0 k d=(d==zd)from by simp[a5F]])) ?_;refine J.q λ_=>?_;refine J.l (α:=Nat) (λa=>a<=na/\a<=nq/\a<=30) (λa=>[si 11 a,sv 10 (.bool (a5F L Q a k d)),si 9 j,si 8 k,sv 0 (.slice ao na ca),sv 1 (.slice (some ⟨gq,oq,none⟩) nq cq),sp 6 mq]) [] (λa=>[]) (λa=>nq-a) (0) (⟨j4 _,j4 _,j4 _⟩) λa hI=>?_;refine J.qd (λ_ h5=>?_) λ_ h5=>?_
   ·simp only[i9,c9,g6]at h5;have h5:a<na/\a<nq/\a<30:=by omega
    obtain⟨x,hx⟩:∃x,L[a]? =some x:=⟨_,d5 (by omega)⟩;obtain⟨y,hy⟩:∃y,Q[a]? =some y:=⟨_,d5 (by omega)⟩;have hxg:L.getD a 0=x:=by rw[d6,hx];rfl
    have hyg:Q.getD a []=y:=by rw[d6,hy];rfl
    have hyl:=hdq y (l7 hy);have hxb:=hdo x (l7 hx);refine J.know (p:=∃g o,ao=some ⟨g,o,none⟩) (λh' s=>Rd.addr (hA _ (s.get (i:=1) rfl)) (by omega)) λhk=>?_;obtain⟨gm,om,rfl⟩:=hk;have hws:=a9a L Q a k d;rw[hxg,hyg]at hws;generalize a5F L Q a k d=w at hws ⊢;refine J.pn 6 (.of [0,4,8,12,16,21,24,28,32,36,40,44,48,53,56,60,64,69,72,76,80,84]) [21] [1] λ_ _=>?_;refine J.vT (iI x) rfl rfl (λhg aa w he hC=>a2f tk rfl rfl he hg rfl rfl (hA _ (hC rfl _ (r8 (i:=1) rfl))) (by omega) (j:=a) (by omega) (L5 hx)) ?_;refine J.qn 1 λ_=>?_;rw[b0T x];refine J.qn 6 λ_=>?_;refine J.vT (a1m y) rfl rfl (λhg aa w' he hC=>V4 tk rfl rfl he hg rfl rfl (hAq _ (hC rfl _ (r8 (i:=1) rfl))) (by omega) (j:=a*16) (by omega) (O4 B1 16 (λ_=>rfl) Q a y hy) rfl) ?_;refine J.run hX tk 400 (λb39=>rfl) (λb39=>?_) (λb39=>?_)
    ·(repeat' (first | exact Conj.nil | refine Conj.cons ?_ ?_ | exact rfl | omega | (intro hq) | (simp_all;done)))
    refine J.vT (a1m d) rfl rfl (λhg aa w' he hC=>V4 tk rfl rfl he hg rfl rfl (hAq _ (hC rfl _ (r8 (i:=1) rfl))) (by omega) (j:=j*16) (by omega) (O4 B1 16 (λ_=>rfl) Q j d hd) rfl) ?_;refine J.vT (.bool (y==d)) rfl rfl (λhg aa w' he hC=>(I5 (xs:=B1 y) (ys:=B1 d) rfl rfl rfl he hg hg T6 (O5 _) (O5 _) mkD gdD).trans (by rw[eqD _ _ hyl hdl,W6])) ?_;refine J.run hX tk 400 (λb40=>rfl) (λb40=>?_) (λb40=>?_)
    ·(repeat' (first | exact Conj.nil | refine Conj.cons ?_ ?_ | exact rfl | omega | (intro hq) | (simp_all;done)))
    rw[show(w||((a3x x:Int)==(k:Int))&&y==d)=a5F L Q (a+1) k d from by rw[hws,b9j]];refine J.q λ_=>?_;refine J.n (a+1) (⟨by omega,by omega,by omega⟩) (by omega) [0,1,2,3,4,5]
   have hai:a=i:=by
    have h6:¬(a<na/\a<nq/\a<30):=by
     intro hc;rw[j3 (show(a:Int)<na by omega),j3 (show(a:Int)<nq by omega),j3 (show(a:Int)<30 by omega)]at h5;cases h5
    omega
   subst hai;obtain⟨o1,o2⟩:=hMI.once (k:=k) (by omega) d;rw[<- hZ]at o1 o2;refine J.qn 8 λ_=>?_;refine J.v (a1m d) rfl rfl (λhg aa w he hw=>V4 tk rfl rfl he rfl rfl rfl (hAq _ (hw.get (i:=1) rfl)) (by omega) (j:=j*16) (by omega) (O4 B1 16 (λ_=>rfl) Q j d hd) rfl) ?_;refine J.qp (b0s mq mg Z hn hf k d hdl) [2,3,4,5] λ_=>?_;rw[o1];refine J.qn 2 λ_=>?_;rw[E5,Z4];refine J.qn 6 λ_=>?_;refine J.v (a1m d) rfl rfl (λhg aa w he hw=>V4 tk rfl rfl he rfl rfl rfl (hAq _ (hw.get (i:=1) rfl)) (by omega) (j:=j*16) (by omega) (O4 B1 16 (λ_=>rfl) Q j d hd) rfl) ?_;refine J.qp (a0i mq mg Z hn hf k d hdl) [2,3,4,5] λ_=>?_;refine J.qd (λ_ h7=>?_) λ_ h7=>?_
   ·exfalso
    simp[o2]at h7
   refine J.q λ_=>?_;refine J.n (j+1) (h4.1) (by omega) [0,1,2,3,4,5]
  refine J.q λ_=>?_;refine J.n (k+1) (by omega) (by omega) [0,1,2,3,4,5]
 have hml:(moM L Q i).length=4:=hMI.len;have e1:Mv.once (Z.map (·.v)) 4 zd=false:=by
  rw[hZ];unfold Mv.once Mv.inR;rw[hml];rfl
 have e2:Mv.once (Z.map (·.v)) (-1) zd=false:=by
  rw[hZ];unfold Mv.once Mv.inR;rfl
 refine J.qp (b0s mq mg Z hn hf 4 zd rfl) [2,3,4,5] λ_=>?_;rw[e1];refine J.qp (b0s mq mg Z hn hf (-1) zd rfl) [2,3,4,5] λ_=>?_;rw[e2];exact J.qx [1]
end Go.Proofs.YtpakpgkdpofbhaaGreat
namespace Go.Proofs.YtpakpgkdpofbhaaGreat
open Go Go.RowKit
open Go.ChangeShapes Go.WideShapes Go.ChangeAt
section
variable {H : Type} {enc : TypeId × Value → H} {w : World} {base : Nat} {spare : Nat → Bool} {held : Bool}
theorem c0t {held':Bool} {fuel:Nat} {a:Option Addr} {len cap:Nat} {x:DataW H×List MemPlace} (h:DataW.trod enc Tryz.prog w base spare held' fuel 36 [.slice a len cap]=some x):
  ∃l:List (List UInt8),l.length=len/\(∀e∈l,e.length=16)/\rdP a 16 len (l.flatMap B1) (hl w):=
 a1A B1 (λl=>l.length=16) Tryz.underlying36 (by kernel_rfl) (by decide) (λh=>a4r h) h
end
end Go.Proofs.YtpakpgkdpofbhaaGreat
