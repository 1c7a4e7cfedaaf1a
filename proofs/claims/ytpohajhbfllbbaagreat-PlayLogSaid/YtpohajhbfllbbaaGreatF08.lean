/- Helpers. No condition. -/
import Derived.Test.YtpohajhbfllbbaaGreatF04
import Derived.Test.YtpohajhbfllbbaaGreatF05
import Derived.Test.YtpohajhbfllbbaaGreatF06
import Derived.Test.YtpohajhbfllbbaaGreatF07
set_option maxRecDepth 20000
set_option linter.all false
namespace Go.Proofs.YtpohajhbfllbbaaGreat
open Go Go.RowKit
theorem J2:∀(l:List NCell) (k i:Nat) (v:Value) (f:NCell->NCell) (c:NCell),l[k]? =some c->i<34->c.vals.set i v=(f c).vals->(m5 l).set (k*34+i) v=m5 (l.modify k f)
 | [],k,i,v,f,c,h,_,_=>by simp at h
 | x::l,0,i,v,f,c,h,hi,hv=>by
  simp at h;subst h;simp only[m5,List.flatMap_cons,List.modify_cons,Nat.zero_mul,Nat.zero_add,if_true];rw[List.set_append_left _ _ (by simpa[NCell.vals]using hi),hv]
 | x::l,k+1,i,v,f,c,h,hi,hv=>by
  have:=J2 l k i v f c (by simpa using h) hi hv;simp only[m5,List.flatMap_cons,List.modify_cons]at this ⊢;rw[List.set_append_right _ _ (by simp[NCell.vals];omega),show(k+1)*34+i-x.vals.length=k*34+i from by simp[NCell.vals];omega,this];simp
theorem b2O {N:Nand} {x y z n xx:Int} (h:x3 N.dies N.blocks N.pages x y z=true):N.fault 1 x y z n xx=(true,{N with plan:=a8H N.plan (x,y,z)}):=by
 unfold Nand.fault;rw[if_neg (by simp[h]),if_pos rfl];rfl
theorem b2N {N:Nand} {x y z n xx:Int} (h:x3 N.dies N.blocks N.pages x y z=true):N.fault 2 x y z n xx=(true,N.setBlk x.toNat y.toNat {N.blk x.toNat y.toNat with fails:=true}):=by
 unfold Nand.fault;rw[if_neg (by simp[h]),if_neg (by decide),if_pos rfl]
theorem a7i {N:Nand} {x y z n xx:Int} (h:x3 N.dies N.blocks N.pages x y z=true):N.fault 3 x y z n xx=(true,N.setCell x y z λc=>{c with lost:=true}):=by
 unfold Nand.fault;rw[if_neg (by simp[h]),if_neg (by decide),if_neg (by decide),if_pos rfl]
theorem b2M {N:Nand} {x y z n xx:Int} (h:x3 N.dies N.blocks N.pages x y z=true):N.fault 4 x y z n xx=(true,{N with dead:=N.dead.set x.toNat true}):=by
 unfold Nand.fault;rw[if_neg (by simp[h]),if_neg (by decide),if_neg (by decide),if_neg (by decide),if_pos rfl]
theorem b0Y {N:Nand} {k x y z n xx:Int} (h1:k≠1) (h2:k≠2) (h3:k≠3) (h4:k≠4) (h5:k≠5):N.fault k x y z n xx=(false,N):=by
 unfold Nand.fault;split<;>simp_all
theorem a5e {l:List NCell} {k:Nat} {f:NCell->NCell} (h:l.length<=k):l.modify k f=l:=by
 apply List.ext_getElem?;intro j;rw[List.getElem?_modify]
 by_cases e:k=j
 ·subst e;rw[List.getElem?_eq_none h];rfl
 ·simp[e]
theorem a1c {N:Nand} {x y z n xx:Int} (h:x3 N.dies N.blocks N.pages x y z=true):N.fault 5 x y z n xx=if n<0\/32<=n then(false,N)else
  match N.pageAt x y z with
  | none=>(true,N)
  | some c=>if c.turned then(false,N)else if c.lost then(true,N)else
   (true,N.setCell x y z λc=>{c with p:=Nand.xorAt c.p n.toNat (UInt8.ofNat (xx % 256).toNat),turned:=true}):=by
 unfold Nand.fault;rw[if_neg (by simp[h]),if_neg (by decide),if_neg (by decide),if_neg (by decide),if_neg (by decide),if_pos rfl]
 try rfl
theorem a0C {N:Nand} {x y z n xx:Int} (h:x3 N.dies N.blocks N.pages x y z=true) (h2:N.pageAt x y z=none) {b:Bool} (hb:(decide (n<0)||decide (n>=32))=b):N.fault 5 x y z n xx=(!b,N):=by
 subst hb;rw[a1c h,h2]
 by_cases h3:n<0\/32<=n
 ·rw[if_pos h3];simp;omega
 ·rw[if_neg h3];simp;omega
theorem a2B {N:Nand} {x y z n xx:Int} {c:NCell} (h:x3 N.dies N.blocks N.pages x y z=true) (h2:N.pageAt x y z=some c) (hb:(decide (n<0)||decide (n>=32)||(true&&c.turned))=true):N.fault 5 x y z n xx=(false,N):=by
 rw[a1c h,h2]
 by_cases h3:n<0\/32<=n
 ·rw[if_pos h3]
 ·rw[if_neg h3];simp only[Bool.or_eq_true,decide_eq_true_eq,Bool.true_and]at hb;rcases hb with hb | hb
  ·omega
  ·simp only;rw[if_pos hb]
theorem a3H {c:NCell} (h:c.p.length=32):c.vals=c.p.map bv++[.bool c.lost, .bool c.turned]:=by
 rw[<- t6 c.p h];rfl
theorem a8T {c:NCell} (h:c.p.length=32) {e:Nat} (he:e<32):c.vals[e]? =some (bv (c.p.getD e 0)):=by
 rw[a3H h,List.getElem?_append_left (by simpa[h]using he)];simp[h,he]
theorem a8J (b:UInt8) (xx:Int):IntKind.u8.wrap ((BitVec.ofInt IntKind.u8.bits (b.toNat:Int) ^^^ BitVec.ofInt IntKind.u8.bits (IntKind.u8.wrap xx)).toNat:Int)=((b ^^^ UInt8.ofNat (xx % 256).toNat).toNat:Int):=by
 have h0:IntKind.u8.wrap xx=xx % 256:=by simp[IntKind.wrap,IntKind.bits,IntKind.signed]
 obtain⟨m,hm⟩:∃m:Nat,xx % 256=m:=⟨(xx % 256).toNat,by omega⟩;have hm2:m<256:=by omega
 rw[h0,hm];simp only[Int.toNat_natCast];have e1:(BitVec.ofInt IntKind.u8.bits (b.toNat:Int) ^^^ BitVec.ofInt IntKind.u8.bits (m:Int)).toNat=b.toNat ^^^ m:=by
  rw[BitVec.toNat_xor];have:=b.toNat_lt;show(BitVec.ofInt 8 (b.toNat:Int)).toNat ^^^ (BitVec.ofInt 8 (m:Int)).toNat=_;rw[BitVec.ofInt_natCast,BitVec.ofInt_natCast,BitVec.toNat_ofNat,BitVec.toNat_ofNat,Nat.mod_eq_of_lt this,Nat.mod_eq_of_lt hm2]
 have e2:(b ^^^ UInt8.ofNat m).toNat=b.toNat ^^^ m:=by
  rw[UInt8.toNat_xor,UInt8.toNat_ofNat',Nat.mod_eq_of_lt hm2]
 rw[e1,e2];have hx:b.toNat ^^^ m<256:=Nat.xor_lt_two_pow (n:=8) b.toNat_lt hm2;have:IntKind.u8.wrap ((b.toNat ^^^ m:Nat):Int)=((b.toNat ^^^ m:Nat):Int) % 256:=by simp[IntKind.wrap,IntKind.bits,IntKind.signed]
 rw[this];omega
theorem O5 (p:Nat) (N:Nand) (hN:N.Ok) (at_ kind x y z n xx:Int):FP 72 [pp p, .agg #[iI at_,iI kind,iI x,iI y,iI z,iI n,iI xx]] [d8 p N]
  (λv As=>v= .bool (N.fault kind x y z n xx).1/\As=[d8 p (N.fault kind x y z n xx).2]):=by
 have hbd:=hN.bd;refine FE [2,0] Tryz.func72 λX F hX=>?_;refine J.o (α:=NLoc) 1 λY=>?_;refine J.pq (.of [0,4,8,12,16,20,25,28,33,38,40,44]) [] [1,2,3,4,5,6] λ_ _=>?_;refine J.ca hX (by kernel_rfl) (a5z _ _ _ x y z (by omega) (by omega) (by omega)) [] 0 rfl rfl rfl rfl rfl rfl (λ_=>rfl) ?_;refine cpq ⟨_,rfl,⟨rfl,rfl,rfl,rfl,rfl,rfl,trivial⟩,?_⟩;refine J.qd (λ_ h=>?_) λ_ h=>?_
 ·simp only[Bool.false_or,Bool.not_eq_true']at h;refine J.q λ_=>?_;refine J.cl (B1 p N) (Y) [1,2,3,4,5] ?_;refine J.qr [1] λ_=>?_;exact⟨by simp[Nand.fault,h],by simp[Nand.fault,h];rfl⟩
 simp only[Bool.false_or,Bool.not_eq_false']at h;have hr:0<=x/\x<N.dies/\0<=y/\y<N.blocks/\0<=z/\z<N.pages:=by simp[x3]at h;omega
 obtain⟨i,rfl⟩:=Int.eq_ofNat_of_zero_le hr.1;obtain⟨j,rfl⟩:=Int.eq_ofNat_of_zero_le hr.2.2.1;obtain⟨k,rfl⟩:=Int.eq_ofNat_of_zero_le hr.2.2.2.2.1;have hi:i<N.dies:=by omega
 have hj:j<N.blocks:=by omega
 have hlen:=(hN.cells i j hi hj).1;refine J.openAt 5 (i*N.blocks+j) rfl rfl (D6 _ _ _ _ _ (a1O hi hj)) rfl ?_;rw[(z7 hj).1,(z7 hj).2];refine J.o (α:=(Option Nat×Nat)) 7 λc=>?_;refine J.p (.of [0,4,8,13,16,20,25,28,32,37,42,45,48]) [12] [1,2,3,4,5,6,7,8] λ_=>?_;refine J.qp (M3 i j) [] λ_=>?_;refine J.valT hX (pp (Y.bp (i*N.blocks+j))) 8 rfl rfl (λ_ a w he hC=>?_) rfl ?_
 ·refine(i6 (key:=((i:Int),(j:Int),0)) C7 Q1 (z:= .pointer none) (λw=>by kernel_rfl) rfl rfl rfl rfl he rfl rfl (hC rfl _ (f0 (i:=2) rfl))).trans ?_;simp only[G9 hi hj];rfl
 refine J.p (.of [0,4,9,12,16,20,25,28,32,36]) [9] [1,2,3,4,5,6,7,8] λ_=>?_;refine J.qd (λ_ h1=>?_) λ_ h1=>?_
 ·simp only[beq_iff_eq]at h1;subst h1;refine J.p (.of [0,4,8,13,16,21,26]) [] [1,2,4,5,6,7,8] λ_=>?_;refine J.qp (b4H Y.q N.plan i j k) [3] λ_=>?_;refine J.q λ_=>?_;refine J.closeN p N ({N with plan:=a8H N.plan ((i:Int),(j:Int),(k:Int))}) Y i j hj (N.blk i j) _ [1,2,3,4,5,7,8] rfl rfl rfl rfl (u7 _ _ _) rfl ?_;refine J.qr [1] λ_=>?_;rw[b2O h];exact⟨rfl,rfl⟩
 simp only[beq_eq_false_iff_ne,ne_eq]at h1;refine J.qd (λ_ h2=>?_) λ_ h2=>?_
 ·simp only[beq_iff_eq]at h2;subst h2;refine J.q λ_=>?_;refine J.closeN p N (N.setBlk i j {N.blk i j with fails:=true}) Y i j hj ({N.blk i j with fails:=true}) _ [1,2,3,4,5,7,8] rfl rfl rfl rfl (rfl) rfl ?_;refine J.qr [1] λ_=>?_;rw[b2N h];exact⟨rfl,rfl⟩
 simp only[beq_eq_false_iff_ne,ne_eq]at h2;refine J.qd (λ_ h3=>?_) λ_ h3=>?_
 ·simp only[beq_iff_eq]at h3;subst h3;refine J.qd (λ_ h5=>?_) λ_ h5=>?_
  ·simp only[decide_eq_true_eq,Int.ofNat_lt]at h5;refine J.know (λh' s=>f8 (by omega) (s.get (i:=8) rfl)) λhg=>?_;obtain⟨g,hg⟩:=hg;obtain⟨c1,c2⟩:=c;simp only at hg;subst hg;refine J.openOwn 8 rfl rfl (λ_=>rfl) λr q1 q2 q3 q4=>?_;obtain⟨cl,hcl⟩:∃cl,(N.blk i j).cells[k]? =some cl:=⟨_,List.getElem?_eq_getElem h5⟩;refine J.pq (.of [0,4,8,13,16,20,25,28,32,39]) [7,8,9] [1,2,3,4,5,6,7] λ_ _=>?_;refine J.s1 8 (m5 ((N.blk i j).cells.modify k λc=>{c with lost:=true})++r) ?_ ?_ ?_
   ·rw[List.length_append,i7];show 0+(k:Int).toNat*34+32<_;simp only[Int.toNat_natCast];omega
   ·rw[show 0+(k:Int).toNat*34+32=k*34+32 from by simp,List.set_append_left _ _ (by rw[i7];omega)];rw[J2 _ k 32 _ (λc=>{c with lost:=true}) cl hcl (by omega) rfl]
   refine J.closeOwn (e:=178) (size:=34) (n:=(N.blk i j).cells.length) (cap:=c2) (xs:=m5 ((N.blk i j).cells.modify k λc=>{c with lost:=true})) 8 rfl rfl (by rw[i7,List.length_modify]) q2 q3 (by rw[List.length_append,i7,List.length_modify];rw[i7]at q4;exact q4) (by rw[List.take_left' (by rw[i7,List.length_modify])]) rfl ?_;rw[show(N.blk i j).cells.length=((N.blk i j).cells.modify k λc=>{c with lost:=true}).length from by rw[List.length_modify]];refine J.q λ_=>?_;refine J.closeN p N (N.setCell i j k λc=>{c with lost:=true}) Y i j hj ({N.blk i j with cells:=(N.blk i j).cells.modify k λc=>{c with lost:=true}}) (some g,c2) [1,2,3,4,5,7,8] rfl rfl rfl rfl (rfl) rfl ?_;refine J.qr [1] λ_=>?_;rw[a7i h];exact⟨rfl,rfl⟩
  ·simp only[decide_eq_false_iff_not,Int.ofNat_lt,Nat.not_lt]at h5;refine J.q λ_=>?_;refine J.closeN p N (N.setCell i j k λc=>{c with lost:=true}) Y i j hj (N.blk i j) _ [1,2,3,4,5,7,8] rfl rfl rfl rfl ((by simp only[Nand.setCell,Nand.setBlk,Int.toNat_natCast];rw[a5e h5])) rfl ?_;refine J.qr [1] λ_=>?_;rw[a7i h];exact⟨rfl,rfl⟩
 simp only[beq_eq_false_iff_ne,ne_eq]at h3;refine J.qd (λ_ h4=>?_) λ_ h4=>?_
 ·simp only[beq_iff_eq]at h4;subst h4;refine J.pq (.of [0,4,8,13,16,20,25,28,35]) [7,8] [1,2,3,5,6,7,8] λ_ _=>?_;refine J.s1 4 ((N.dead.set i true).map Value.bool) ?_ ?_ ?_
  ·rw[List.length_map,hN.dead];show 0+(i:Int).toNat*1<_;omega
  ·rw[show 0+(i:Int).toNat*1=i from by omega,List.map_set]
  refine J.q λ_=>?_;refine J.closeN p N ({N with dead:=N.dead.set i true}) Y i j hj (N.blk i j) _ [1,2,3,4,5,7,8] rfl rfl rfl rfl (u7 _ _ _) rfl ?_;refine J.qr [1] λ_=>?_;rw[b2M h];exact⟨rfl,rfl⟩
 simp only[beq_eq_false_iff_ne,ne_eq]at h4;refine J.qd (λ_ h6=>?_) λ_ h6=>?_
 ·simp only[beq_iff_eq]at h6;subst h6
  by_cases h5:k<(N.blk i j).cells.length
  ·rw[show decide ((k:Int)<((N.blk i j).cells.length:Int))=true from decide_eq_true (by omega)];refine J.know (λh' s=>f8 (by omega) (s.get (i:=8) rfl)) λhg=>?_;obtain⟨g,hg⟩:=hg;obtain⟨c1,c2⟩:=c;simp only at hg;subst hg;refine J.openOwn 8 rfl rfl (λ_=>rfl) λr q1 q2 q3 q4=>?_;obtain⟨cl,hcl⟩:∃cl,(N.blk i j).cells[k]? =some cl:=⟨_,List.getElem?_eq_getElem h5⟩;refine J.pq (.of [0,5,8,12,16,21,24,28,32,36,40,44,48,52,57,60,64,69,72,76,81,84,88]) [] [1,2,3,4,5,6,7,8] λ_ _=>?_;have hpa:N.pageAt i j k=some cl:=by simp only[Nand.pageAt,Int.toNat_natCast];exact hcl
   have hoff:∀e,e<34->(m5 (N.blk i j).cells++r)[k*34+e]? =cl.vals[e]?:=λe he=>by
    rw[List.getElem?_append_left (by rw[i7];omega)];exact a0F hcl he
   refine J.vT (.bool cl.turned) rfl rfl (λhg a w he hC=>?_) ?_
   ·exact f9 tk rfl rfl he hg rfl rfl (hC rfl _ (f0 (i:=8) rfl)) (by rw[show 0+((k:Int)).toNat*34+33=k*34+33 from by simp];exact hoff 33 (by omega))
   refine J.qd (λ_ h7=>?_) λ_ h7=>?_
   ·refine J.closeOwn (e:=178) (size:=34) (n:=(N.blk i j).cells.length) (cap:=c2) (xs:=m5 (N.blk i j).cells) 8 rfl rfl q1 q2 q3 (by rw[List.length_append];exact q4) (by rw[List.take_left' q1]) rfl ?_;refine J.q λ_=>?_;refine J.closeN p N (N) Y i j hj (N.blk i j) (some g,c2) [1,2,3,4,5,7,8] rfl rfl rfl rfl (u7 _ _ _) rfl ?_;refine J.qr [1] λ_=>?_;rw[a2B h hpa h7];exact⟨rfl,rfl⟩
   refine J.pq (.of [0,4,8,12,16,21,24,28,33,36,40,45,48,52]) [] [1,2,3,4,5,6,7,8] λ_ _=>?_;refine J.vT (.bool cl.lost) rfl rfl (λhg a w he hC=>?_) ?_
   ·exact f9 tk rfl rfl he hg rfl rfl (hC rfl _ (f0 (i:=8) rfl)) (by rw[show 0+((k:Int)).toNat*34+32=k*34+32 from by simp];exact hoff 32 (by omega))
   refine J.qd (λ_ h8=>?_) λ_ h8=>?_
   ·have hn:0<=n/\n<32:=by
     simp only[Bool.or_eq_false_iff,decide_eq_false_iff_not]at h7;omega
    obtain⟨e,rfl⟩:=Int.eq_ofNat_of_zero_le hn.1;have he32:e<32:=by omega
    have hp32:cl.p.length=32:=(hN.cells i j hi hj).2 cl (List.mem_of_getElem? hcl);refine J.pn 14 (.of [0,4,8,13,16,20,25,28,33,36,40,44,52,57,60,68,72,50,64,76,82]) [] [1,2,3,4,5,6,7] λ_ _=>?_;refine J.vT (.int .u8 (IntKind.u8.wrap xx)) rfl rfl (λhg a w he hC=>?_) ?_
    ·exact K5 tk rfl rfl he rfl rfl rfl
    refine J.q λ_=>?_;refine J.val hX (bv (cl.p.getD e 0)) 0 rfl rfl (λhg a w he hs=>?_) rfl ⟨rfl,rfl,rfl,rfl,rfl,rfl,rfl,trivial⟩ ?_
    ·exact f9 tk rfl rfl he hg rfl rfl (hs.get (i:=8) rfl) (by rw[show 0+((k:Int)).toNat*34+0+((e:Int)).toNat*1=k*34+e from by simp,hoff e (by omega)];exact a8T hp32 he32)
    refine J.q λ_=>?_;have hlen':(m5 (N.blk i j).cells++r).length=c2*34:=by rw[List.length_append];exact q4
    have hnl:k*34+34<=(N.blk i j).cells.length*34:=by omega
    refine J.s1 8 (m5 ((N.blk i j).cells.modify k λc=>{c with p:=Nand.xorAt c.p e (UInt8.ofNat (xx % 256).toNat)})++r) ?_ ?_ ?_
    ·rw[List.length_append,i7];show 0+(k:Int).toNat*34+0+(e:Int).toNat*1<_;simp only[Int.toNat_natCast];omega
    ·rw[show 0+(k:Int).toNat*34+0+(e:Int).toNat*1=k*34+e from by simp,List.set_append_left _ _ (by rw[i7];omega)];rw[J2 _ k e _ (λc=>{c with p:=Nand.xorAt c.p e (UInt8.ofNat (xx % 256).toNat)}) cl hcl (by omega) ?_];rw[a8J,a3H hp32,a3H (by simp[Nand.xorAt,hp32]),List.set_append_left _ _ (by simpa[hp32]using he32)];congr 1;exact(List.map_set (f:=bv)).symm
    refine J.pq (.of [0,4,8,13,16,20,25,28,32,39]) [7,8,9] [1,2,3,4,5,6,7] λ_ _=>?_;refine J.s1 8 (m5 ((N.blk i j).cells.modify k λc=>{c with p:=Nand.xorAt c.p e (UInt8.ofNat (xx % 256).toNat),turned:=true})++r) ?_ ?_ ?_
    ·rw[List.length_append,i7,List.length_modify];show 0+(k:Int).toNat*34+33<_;simp only[Int.toNat_natCast];omega
    ·rw[show 0+(k:Int).toNat*34+33=k*34+33 from by simp,List.set_append_left _ _ (by rw[i7,List.length_modify];omega)];rw[J2 _ k 33 _ (λc=>{c with turned:=true}) _ (by rw[List.getElem?_modify_eq,hcl];rfl) (by omega) rfl,List.modify_modify_eq];rfl
    refine J.closeOwn (e:=178) (size:=34) (n:=(N.blk i j).cells.length) (cap:=c2) (xs:=m5 ((N.blk i j).cells.modify k λc=>{c with p:=Nand.xorAt c.p e (UInt8.ofNat (xx % 256).toNat),turned:=true})) 8 rfl rfl (by rw[i7,List.length_modify]) q2 q3 (by rw[List.length_append,i7,List.length_modify];rw[i7]at q4;exact q4) (by rw[List.take_left' (by rw[i7,List.length_modify])]) rfl ?_;rw[show(N.blk i j).cells.length=((N.blk i j).cells.modify k λc=>{c with p:=Nand.xorAt c.p e (UInt8.ofNat (xx % 256).toNat),turned:=true}).length from by rw[List.length_modify]];refine J.q λ_=>?_;refine J.closeN p N (N.setCell i j k λc=>{c with p:=Nand.xorAt c.p e (UInt8.ofNat (xx % 256).toNat),turned:=true}) Y i j hj ({N.blk i j with cells:=(N.blk i j).cells.modify k λc=>{c with p:=Nand.xorAt c.p e (UInt8.ofNat (xx % 256).toNat),turned:=true}}) (some g,c2) [1,2,3,4,5,7,8] rfl rfl rfl rfl (rfl) rfl ?_;refine J.qr [1] λ_=>?_;rw[a1c h,hpa];simp only[Bool.or_eq_false_iff,Bool.true_and]at h7;simp only[Bool.true_and,Bool.not_eq_true']at h8;rw[if_neg (by omega)];simp only[h7.2,h8,Bool.false_eq_true,if_false];exact⟨trivial,rfl⟩
   ·refine J.closeOwn (e:=178) (size:=34) (n:=(N.blk i j).cells.length) (cap:=c2) (xs:=m5 (N.blk i j).cells) 8 rfl rfl q1 q2 q3 (by rw[List.length_append];exact q4) (by rw[List.take_left' q1]) rfl ?_;refine J.q λ_=>?_;refine J.closeN p N (N) Y i j hj (N.blk i j) (some g,c2) [1,2,3,4,5,7,8] rfl rfl rfl rfl (u7 _ _ _) rfl ?_;refine J.qr [1] λ_=>?_;rw[a1c h,hpa];simp only[Bool.or_eq_false_iff,Bool.true_and,decide_eq_false_iff_not]at h7;simp only[Bool.true_and,Bool.not_eq_false']at h8;rw[if_neg (by omega)];simp only[h7.2,h8,Bool.false_eq_true,if_false,if_true];exact⟨trivial,rfl⟩
  ·rw[show decide ((k:Int)<((N.blk i j).cells.length:Int))=false from decide_eq_false (by omega)];refine J.pn 18 (.of [0,5,8,12,16,21,24,28,32,36,40,44,48,52,57,60,64,69,72,76,81,84,88]) [] [1,2,3,4,5,6,7,8] λ_ _=>?_;have hpa:N.pageAt i j k=none:=by simp only[Nand.pageAt,Int.toNat_natCast];exact List.getElem?_eq_none (by omega)
   refine J.vT (pp 0) rfl rfl (λhg a w he hC=>by simp[G.on]at hg) ?_;refine J.q λ_=>?_;refine J.vT (.bool false) rfl rfl (λhg a w he hC=>by simp[G.on]at hg) ?_;refine J.qd (λ_ h7=>?_) λ_ h7=>?_
   ·refine J.q λ_=>?_;refine J.closeN p N (N) Y i j hj (N.blk i j) _ [1,2,3,4,5,7,8] rfl rfl rfl rfl (u7 _ _ _) rfl ?_;refine J.qr [1] λ_=>?_;rw[a0C h hpa (b:=true) (by simpa using h7)];exact⟨rfl,rfl⟩
   refine J.pn 9 (.of [0,4,8,12,16,21,24,28,33,36,40,45,48,52]) [] [1,2,3,4,5,6,7,8] λ_ _=>?_;refine J.vT (pp 0) rfl rfl (λhg a w he hC=>by simp[G.on]at hg) ?_;refine J.q λ_=>?_;refine J.vT (.bool false) rfl rfl (λhg a w he hC=>by simp[G.on]at hg) ?_;refine J.qF λ_=>?_;refine J.q λ_=>?_;refine J.closeN p N (N) Y i j hj (N.blk i j) _ [1,2,3,4,5,7,8] rfl rfl rfl rfl (u7 _ _ _) rfl ?_;refine J.qr [1] λ_=>?_;rw[a0C h hpa (b:=false) (by simpa using h7)];exact⟨rfl,rfl⟩
 simp only[beq_eq_false_iff_ne,ne_eq]at h6;refine J.q λ_=>?_;refine J.closeN p N (N) Y i j hj (N.blk i j) _ [1,2,3,4,5,7,8] rfl rfl rfl rfl (u7 _ _ _) rfl ?_;refine J.qr [1] λ_=>?_;rw[b0Y h1 h2 h3 h4 h6];exact⟨rfl,rfl⟩
def B0:NBlock:=⟨[],0,false,false⟩
def b4x (d b p:Nat) (x:Nat×Nat×Nat×Nat):List Value:=
 [iI d,iI b,iI p, .map (some x.2.1),pp x.2.2.1, .slice (some ⟨x.2.2.2,0,none⟩) d d, .bool false,iI 0,iI 0, .bool false,iI 0,iI 0]
theorem a3E {k:A3} {v:Value}:∀{l:List (A3×Value)},(∀x∈l,x.1≠k)->H2 l k v=l++[(k,v)]
 | [],_=>rfl
 | x::l,h=>by
  have h1:=h x (by simp);simp only[H2,if_neg (Ne.symm h1),a3E (l:=l) (λy hy=>h y (by simp[hy])),List.cons_append]
def upd (bp:Nat->Nat) (n v:Nat):Nat->Nat:=λk=>if k=n then v else bp k
theorem a8D (nb n:Nat) (bp:Nat->Nat) (v:Nat):U0 nb (n+1) (upd bp n v)=U0 nb n bp++[((((n/nb:Nat):Int),((n % nb:Nat):Int),0),pp v)]:=by
 unfold U0;rw[List.range_succ,List.map_append];congr 1
 ·apply List.map_congr_left;intro k hk;have:k≠n:=by have:=List.mem_range.1 hk;omega
  simp[upd,this]
 ·simp[upd]
theorem a2l (nb n:Nat) (bp:Nat->Nat) (v:Nat):B8 nb (n+1) (upd bp n v) (λ_ _=>B0)=B8 nb n bp (λ_ _=>B0)++[a2E v B0]:=by
 unfold B8;rw[List.range_succ,List.map_append];congr 1
 ·apply List.map_congr_left;intro k hk;have:k≠n:=by have:=List.mem_range.1 hk;omega
  simp[upd,this]
 ·simp[upd]
theorem a3D {nb j:Nat} (i:Nat) (hj:j<nb) (bp:Nat->Nat) (v:Nat):H2 (U0 nb (i*nb+j) bp) ((i:Int),(j:Int),0) (pp v)=U0 nb (i*nb+j+1) (upd bp (i*nb+j) v):=by
 rw[a8D,(z7 hj).1,(z7 hj).2,a3E];intro x hx;simp only[U0,List.mem_map,List.mem_range]at hx;obtain⟨k,hk,rfl⟩:=hx;intro e;simp only[Prod.mk.injEq,Int.natCast_inj,and_true]at e;have h1:=Nat.div_add_mod k nb;rw[e.1,e.2,Nat.mul_comm]at h1;omega
theorem a5M {BL:List Atom} {v:Nat} {h:Hl} (s:Sep [.hp (HP.of BL), .pt v 118 [.slice none 0 0,iI 0, .bool false, .bool false]] h):Sep [.hp (HP.of (BL++[a2E v B0]))] h:=by
 have s1:Sep [.hp (HP.of BL),a2E v B0] h:=s.turn1 [1] rfl (As:=[a2E v B0]) (λh' s'=>Sep.one ⟨(none,0),by
  refine⟨λ_=>0,λi A hA=>?_⟩
  match i,hA with
  | 0,hA=>simp at hA;subst hA;exact Atom.up (A:= .pt v 118 [.slice none 0 0,iI 0, .bool false, .bool false]) (λb o hb=>res_some.2 ⟨rfl,hb⟩) (s'.get (i:=0) rfl)
  | 1,hA=>simp at hA;subst hA;exact⟨rfl,rfl,rfl⟩
  | k+2,hA=>simp at hA⟩)
 exact Sep.hpOf.2 s1.flat
theorem a3a (d b p:Nat) (hg:m7 d b p=true):FP 34 [.agg #[iI d,iI b,iI p]] [] (λv As=>∃q,v=pp q/\As=[d8 q (Nand.new d b p)]):=by
 have hbd:(3<=d/\d<=6)/\(8<=b/\b<=16)/\(2<=p/\p<=8):=by simp[m7]at hg;omega
 refine FE [0] Tryz.func34 λX F hX=>?_;refine J.q λg1=>?_;refine J.cb (a0D d b p) [] ?_;refine cpq ⟨_,rfl,trivial,?_⟩;rw[hg];refine J.qF λ_=>?_;refine J.p (.take false 0 (.take true 3 (.take false 4 (.alt false 1 ((.alt false 2 ((.of [22,24,30,32])) (.alt false 5 ((.of [10,24,30,32])) .non))) (.alt false 2 ((.alt false 1 ((.of [22,24,30,32])) (.alt false 5 ((.of [6,24,30,32])) .non))) (.alt false 5 ((.alt false 1 ((.of [10,24,30,32])) (.alt false 2 ((.of [6,24,30,32])) .non))) .non)))))) [8] [1] λ_=>?_;refine J.join (α:=Nat×Nat×Nat×Nat) (λx=>[⟨3,pp x.1,3, .tt⟩,⟨1,pp (g1 0),2, .tt⟩]) (λx=>[.hp F, .pt (g1 0) 23 [iI d,iI b,iI p], .pt x.1 94 (b4x d b p x), .ob x.2.1 (.map #[] 0),H4 x.2.2.1 [], .pt x.2.2.2 4 (List.replicate d (.bool false))]) (λhj=>?_) (λx=>?_)
 ·refine J.qn 3 λ_=>?_;refine J.alts ?_ (J.alts ?_ ?_)
  ·skip
   refine J.qn 1 λmm=>?_;refine J.alts ?_ ?_
   ·skip
    refine J.qc (a4N) [] λ_=>?_;rintro v As ⟨q,rfl,rfl⟩;refine⟨_,rfl,⟨rfl,trivial⟩,?_⟩;refine J.makeSlice hX tk 5 rfl rfl rfl rfl rfl rfl rfl rfl rfl rfl ?_ ?_ (λ_=>rfl) (λ_=>rfl) λdd=>⟨⟨rfl,trivial⟩,?_⟩
    ·simp only[maxLen];omega
    ·omega
    refine J.qn 4 λnn=>?_;exact J.goto [0,1,5,2,3,4] (hj (nn 0,mm 0,q,dd)) ⟨rfl,rfl,trivial⟩ rfl rfl
   ·skip
    refine J.makeSlice hX tk 4 rfl rfl rfl rfl rfl rfl rfl rfl rfl rfl ?_ ?_ (λ_=>rfl) (λ_=>rfl) λdd=>⟨⟨rfl,trivial⟩,?_⟩
    ·simp only[maxLen];omega
    ·omega
    refine J.qc (a4N) [] λ_=>?_;rintro v As ⟨q,rfl,rfl⟩;refine⟨_,rfl,⟨rfl,trivial⟩,?_⟩;refine J.qn 4 λnn=>?_;exact J.goto [0,1,5,2,4,3] (hj (nn 0,mm 0,q,dd)) ⟨rfl,rfl,trivial⟩ rfl rfl
  ·skip
   refine J.qc (a4N) [] λ_=>?_;rintro v As ⟨q,rfl,rfl⟩;refine⟨_,rfl,⟨rfl,trivial⟩,?_⟩;refine J.alts ?_ ?_
   ·skip
    refine J.qn 1 λmm=>?_;refine J.makeSlice hX tk 5 rfl rfl rfl rfl rfl rfl rfl rfl rfl rfl ?_ ?_ (λ_=>rfl) (λ_=>rfl) λdd=>⟨⟨rfl,trivial⟩,?_⟩
    ·simp only[maxLen];omega
    ·omega
    refine J.qn 4 λnn=>?_;exact J.goto [0,1,5,3,2,4] (hj (nn 0,mm 0,q,dd)) ⟨rfl,rfl,trivial⟩ rfl rfl
   ·skip
    refine J.makeSlice hX tk 4 rfl rfl rfl rfl rfl rfl rfl rfl rfl rfl ?_ ?_ (λ_=>rfl) (λ_=>rfl) λdd=>⟨⟨rfl,trivial⟩,?_⟩
    ·simp only[maxLen];omega
    ·omega
    refine J.qn 1 λmm=>?_;refine J.qn 4 λnn=>?_;exact J.goto [0,1,5,4,2,3] (hj (nn 0,mm 0,q,dd)) ⟨rfl,rfl,trivial⟩ rfl rfl
  ·skip
   refine J.makeSlice hX tk 3 rfl rfl rfl rfl rfl rfl rfl rfl rfl rfl ?_ ?_ (λ_=>rfl) (λ_=>rfl) λdd=>⟨⟨rfl,trivial⟩,?_⟩
   ·simp only[maxLen];omega
   ·omega
   refine J.alts ?_ ?_
   ·skip
    refine J.qn 1 λmm=>?_;refine J.qc (a4N) [] λ_=>?_;rintro v As ⟨q,rfl,rfl⟩;refine⟨_,rfl,⟨rfl,trivial⟩,?_⟩;refine J.qn 4 λnn=>?_;exact J.goto [0,1,5,3,4,2] (hj (nn 0,mm 0,q,dd)) ⟨rfl,rfl,trivial⟩ rfl rfl
   ·skip
    refine J.qc (a4N) [] λ_=>?_;rintro v As ⟨q,rfl,rfl⟩;refine⟨_,rfl,⟨rfl,trivial⟩,?_⟩;refine J.qn 1 λmm=>?_;refine J.qn 4 λnn=>?_;exact J.goto [0,1,5,4,3,2] (hj (nn 0,mm 0,q,dd)) ⟨rfl,rfl,trivial⟩ rfl rfl
 obtain⟨q0,r,q,dd⟩:=x;refine J.turn1 [3] rfl (As:=[s7 r a3v (U0 b (0*b) λ_=>0), .hp (HP.of (B8 b (0*b) (λ_=>0) λ_ _=>B0))]) (λh s=>?_) rfl ?_
 ·rw[Nat.zero_mul];refine⟨λ_=>0,λi A hA=>?_⟩
  match i,hA with
  | 0,hA=>simp at hA;subst hA;exact⟨#[],0,res_some.2 ⟨rfl,s.get (i:=0) rfl⟩,rfl,by simp,by simp⟩
  | 1,hA=>simp at hA;subst hA;exact Sep.nil _
  | k+2,hA=>simp at hA
 refine J.q λ_=>?_;refine J.l (α:=(Nat×(Nat->Nat))) (λx=>x.1<=d) (λx=>[si 19 x.1,si 18 d,⟨3,pp q0,3, .tt⟩,⟨1,pp (g1 0),2, .tt⟩]) [3,6] (λx=>[s7 r a3v (U0 b (x.1*b) x.2), .hp (HP.of (B8 b (x.1*b) x.2 λ_ _=>B0))]) (λx=>d-x.1) ((0,λ_=>0)) (Nat.zero_le _) λx hI=>?_;obtain⟨i,bp⟩:=x;dsimp only at hI ⊢;refine J.qd (λ_ h1=>?_) λ_ h1=>?_
 ·simp only[decide_eq_true_eq,Int.ofNat_lt]at h1;refine J.q λ_=>?_;refine J.l (α:=(Nat×(Nat->Nat))) (λy=>y.1<=b) (λy=>[si 24 y.1,si 23 b,si 4 i,si 19 i,si 18 d,⟨3,pp q0,3, .tt⟩,⟨1,pp (g1 0),2, .tt⟩]) [3,6] (λy=>[s7 r a3v (U0 b (i*b+y.1) y.2), .hp (HP.of (B8 b (i*b+y.1) y.2 λ_ _=>B0))]) (λy=>b-y.1) ((0,bp)) (Nat.zero_le _) λy hI=>?_;obtain⟨j,bp'⟩:=y;dsimp only at hI ⊢;refine J.qd (λ_ h2=>?_) λ_ h2=>?_
  ·simp only[decide_eq_true_eq,Int.ofNat_lt]at h2;refine J.pq (.take true 0 (.take true 1 (.take true 2 (.take false 3 (.take true 4 (.take true 5 (.take true 7 (.alt false 6 ((.of [34,39])) (.alt false 8 ((.of [26,39])) .non))))))))) [9] [1,2] λ_ _=>?_;refine J.alts ?_ ?_
   ·refine J.qp (M3 i j) [] λ_=>?_;refine J.q λbb=>?_;refine J.mapUpdate hX C7 Q1 ((i:Int),(j:Int),0) 3 rfl rfl rfl rfl rfl rfl rfl rfl rfl rfl rfl rfl (λ_=>rfl) (by rw[a3D i h2];rfl) ⟨trivial,?_⟩;refine J.turn1 [6,7] rfl (As:=[.hp (HP.of (B8 b (i*b+j+1) (upd bp' (i*b+j) (bb 0)) λ_ _=>B0))]) (λh s=>by rw[a2l];exact a5M s) rfl ?_;refine J.q λ_=>?_;refine J.n ((j+1,upd bp' (i*b+j) (bb 0))) (by dsimp only;omega) (by dsimp only;omega) [0,1,2,3,4,5,6]
   ·refine J.q λbb=>?_;refine J.cb (M3 i j) [] ?_;refine cpq ⟨_,rfl,⟨rfl,rfl,trivial⟩,?_⟩;refine J.mapUpdate hX C7 Q1 ((i:Int),(j:Int),0) 3 rfl rfl rfl rfl rfl rfl rfl rfl rfl rfl rfl rfl (λ_=>rfl) (by rw[a3D i h2];rfl) ⟨trivial,?_⟩;refine J.turn1 [6,7] rfl (As:=[.hp (HP.of (B8 b (i*b+j+1) (upd bp' (i*b+j) (bb 0)) λ_ _=>B0))]) (λh s=>by rw[a2l];exact a5M s) rfl ?_;refine J.q λ_=>?_;refine J.n ((j+1,upd bp' (i*b+j) (bb 0))) (by dsimp only;omega) (by dsimp only;omega) [0,1,2,3,4,5,6]
  ·simp only[decide_eq_false_iff_not,Int.ofNat_lt]at h2;obtain rfl:j=b:=by omega
   rw[show i*j+j=(i+1)*j from(Nat.succ_mul i j).symm];refine J.q λ_=>?_;refine J.n ((i+1,bp')) (by dsimp only;omega) (by dsimp only;omega) [0,1,2,3,4,5,6]
 ·simp only[decide_eq_false_iff_not,Int.ofNat_lt]at h1;obtain rfl:i=d:=by omega
  refine J.close (f:=B1 q0 (Nand.new i b p)) ⟨r,q,dd,bp⟩ [2,3,4,5,6] rfl (by simp only[B1,Nand.new,List.map_replicate];rfl) rfl ?_;refine J.qr [2] λ_=>?_;exact⟨q0,rfl,rfl⟩
def s4 (x y:Int):Int:=if x<y then-1 else if x>y then 1 else 0
theorem a4v (x:Int):FP 145 [iI x] [] (λv As=>v= .bool false/\As=[]):=by
 refine FE [] Tryz.func145 λX F hX=>?_;refine J.qr [] λ_=>?_;exact⟨by simp,rfl⟩
theorem D5 (x y:Int):FP 94 [iI x,iI y] [] (λv As=>v=iI (s4 x y)/\As=[]):=by
 refine FE [] Tryz.func94 λX F hX=>?_;refine J.qp (a4v x) [] λ_=>?_;refine J.qp (a4v y) [] λ_=>?_;refine J.qF λ_=>?_;refine J.qF λ_=>?_;refine J.qd (λ_ h1=>?_) λ_ h1=>?_
 ·refine J.qr [] λ_=>?_;simp only[decide_eq_true_eq]at h1;exact⟨by simp[s4,h1],rfl⟩
 simp only[decide_eq_false_iff_not]at h1;refine J.qd (λ_ h2=>?_) λ_ h2=>?_
 ·refine J.qr [] λ_=>?_;simp only[decide_eq_true_eq]at h2;exact⟨by rw[s4,if_neg h1,if_pos h2],rfl⟩
 refine J.qr [] λ_=>?_;simp only[decide_eq_false_iff_not]at h2;exact⟨by rw[s4,if_neg h1,if_neg h2],rfl⟩
def orI (l:List Int):Int:=match l with
 | []=>0
 | x::r=>if x≠0 then x else orI r
theorem b5o (b:Nat) (x y z:Int):FP 189 [.slice (some ⟨b,0,none⟩) 3 3] [.pt b 3 [iI x,iI y,iI z]] (λv As=>v=iI (orI [x,y,z])/\As=[.pt b 3 [iI x,iI y,iI z]]):=by
 refine FE [2] Tryz.func189 λX F hX=>?_;refine J.q λ_=>?_;refine J.l (α:=Nat) (λk=>k<=3/\orI ([x,y,z].drop k)=orI [x,y,z]) (λk=>[si 8 k,si 7 3,⟨6, .slice (some ⟨b,0,none⟩) 3 3,2, .tt⟩,si 3 0]) [] (λk=>[]) (λk=>3-k) (0) (⟨by omega,rfl⟩) λk hI=>?_;refine J.qd (λ_ h1=>?_) λ_ h1=>?_
 ·simp only[decide_eq_true_eq]at h1;obtain⟨v,hv⟩:∃v,([x,y,z]:List Int)[k]? =some v:=⟨_,List.getElem?_eq_getElem (by simp;omega)⟩;have hd:([x,y,z]:List Int).drop k=v::([x,y,z]:List Int).drop (k+1):=by
   obtain⟨h2,h3⟩:=List.getElem?_eq_some_iff.1 hv;rw[List.drop_eq_getElem_cons h2,h3]
  refine J.q λ_=>?_;refine J.v (iI v) rfl rfl (λhg a w he hs=>?_) ?_
  ·exact f9 tk rfl rfl he rfl rfl rfl (hs.get (i:=1) rfl) (by
    rw[show 0+(k:Int).toNat*1=k from by omega,show([iI x,iI y,iI z]:List Value)=([x,y,z]:List Int).map (.int .i64)from rfl,List.getElem?_map,hv];rfl)
  refine J.qd (λ_ h2=>?_) λ_ h2=>?_
  ·simp only[bne_iff_ne,ne_eq]at h2;refine J.qr [1] λ_=>?_;refine⟨?_,rfl⟩;rw[<- hI.2,hd];simp[orI,h2]
  ·simp only[bne_eq_false_iff_eq]at h2;refine J.q λ_=>?_;refine J.nx (k+1) (⟨by omega,by rw[<- hI.2,hd,orI,if_neg (by simp[h2])]⟩) (by omega) (λ_ s=>s)
 ·simp only[decide_eq_false_iff_not]at h1;refine J.qr [1] λ_=>?_;refine⟨?_,rfl⟩;rw[<- hI.2,List.drop_of_length_le (by simp;omega)];rfl
abbrev H3 (x:A3):Value:= .agg #[iI x.1,iI x.2.1,iI x.2.2]
def a0N (x y:A3):Int:=orI [s4 x.1 y.1,s4 x.2.1 y.2.1,s4 x.2.2 y.2.2]
theorem a6O (x y:A3):FP 269 [H3 x,H3 y] [] (λv As=>v=iI (a0N x y)/\As=[]):=by
 refine FE [0,0] Tryz.func269 λX F hX=>?_;refine J.p (.of [0,5,8,13,20,25,28,33,40,45,48,53,18,38,58,62,66,68]) [17] [1,2] λ_=>?_;refine J.qp (D5 x.1 y.1) [] λ_=>?_;refine J.qp (D5 x.2.1 y.2.1) [] λ_=>?_;refine J.qp (D5 x.2.2 y.2.2) [] λ_=>?_;refine J.q λbb=>?_;refine J.cb (b5o (bb 0) (s4 x.1 y.1) (s4 x.2.1 y.2.1) (s4 x.2.2 y.2.2)) [3] ?_;refine cpq ⟨_,rfl,⟨rfl,rfl,trivial⟩,?_⟩;exact J.qx []
def d3:A3:=(0,0,0)
def g6 (l:List A3):List Value:=l.flatMap λx=>[iI x.1,iI x.2.1,iI x.2.2]
theorem l7 (l:List A3):(g6 l).length=l.length*3:=by
 induction l with
 | nil=>rfl
 | cons x l ih=>simp only[g6,List.flatMap_cons,List.length_append,List.length_cons]at ih ⊢;rw[ih];simp;omega
theorem w6:∀(l:List A3) (r:List Value) (k:Nat) (x:A3),l[k]? =some x->((g6 l++r).drop (k*3)).take 3=[iI x.1,iI x.2.1,iI x.2.2]
 | [],_,_,_,h=>by simp at h
 | y::l,r,0,x,h=>by simp at h;subst h;simp[g6]
 | y::l,r,k+1,x,h=>by
  have:=w6 l r k x (by simpa using h);rw[show(k+1)*3=3+k*3 from by omega,<- List.drop_drop];simpa[g6]using this
theorem D4:∀(l:List A3) (r:List Value) (k:Nat) (x:A3),k<l.length->(g6 l++r).take (k*3)++[iI x.1,iI x.2.1,iI x.2.2]++(g6 l++r).drop (k*3+3)=g6 (l.set k x)++r
 | [],_,_,_,h=>by simp at h
 | y::l,r,0,x,h=>by simp[g6]
 | y::l,r,k+1,x,h=>by
  have:=D4 l r k x (by simpa using h);rw[show(k+1)*3=3+k*3 from by omega];simp only[g6,List.flatMap_cons,List.set_cons_succ,List.append_assoc,List.cons_append,List.nil_append]at this ⊢;rw[show 3+k*3=k*3+1+1+1 from by omega,show k*3+1+1+1+3=(k*3+3)+1+1+1 from by omega];simp only[List.take_succ_cons,List.drop_succ_cons,List.cons_append,this]
def swp (l:List A3) (j:Nat):List A3:=(l.set j (l.getD (j-1) d3)).set (j-1) (l.getD j d3)
def a5W (f:A3->A3->Int):Nat->List A3->List A3
 | 0,l=>l
 | j+1,l=>if f (l.getD (j+1) d3) (l.getD j d3)<0 then a5W f j (swp l (j+1))else l
def D2 (f:A3->A3->Int) (l:List A3):Nat->List A3
 | 0=>l
 | k+1=>a5W f (k+1) (D2 f l k)
def S8 (f:A3->A3->Int) (l:List A3):List A3:=D2 f l (l.length-1)
theorem a0S (l:List A3) (j:Nat):(swp l j).length=l.length:=by simp[swp]
theorem a9j (l:List A3) (j:Nat) (h:j+1<l.length):(swp l (j+1)).Perm l:=by
 induction l generalizing j with
 | nil=>simp at h
 | cons x l ih=>
  cases j with
  | zero=>
   cases l with
   | nil=>simp at h
   | cons y l=>simp only[swp,List.set_cons_succ,List.set_cons_zero,Nat.add_sub_cancel,Nat.zero_add,List.getD_cons_zero,List.getD_cons_succ];exact List.Perm.swap _ _ _
  | succ j=>
   have:=ih j (by simpa using h);simp only[swp,Nat.add_sub_cancel,List.set_cons_succ,List.getD_cons_succ]at this ⊢;exact this.cons x
theorem Z9 (f:A3->A3->Int):∀(j:Nat) (l:List A3),j<l.length->(a5W f j l).Perm l
 | 0,l,_=>List.Perm.refl _
 | j+1,l,h=>by
  unfold a5W;split
  ·exact(Z9 f j _ (by rw[a0S];omega)).trans (a9j l j h)
  ·exact List.Perm.refl _
theorem a0w (f:A3->A3->Int) (l:List A3):∀k,k<l.length->(D2 f l k).Perm l/\(D2 f l k).length=l.length
 | 0,_=>⟨List.Perm.refl _,rfl⟩
 | k+1,h=>by
  obtain⟨h1,h2⟩:=a0w f l k (by omega);exact⟨(Z9 f (k+1) _ (by omega)).trans h1,by rw[D2,(Z9 f (k+1) _ (by omega)).length_eq,h2]⟩
theorem D1 (f:A3->A3->Int) (l:List A3):(S8 f l).Perm l:=by
 cases l with
 | nil=>exact List.Perm.refl _
 | cons x l=>exact(a0w f (x::l) _ (by simp)).1
theorem a4K (f:A3->A3->Int):∀(j:Nat) (l:List A3),(a5W f j l).length=l.length
  | 0,l=>rfl
  | j + 1, l => by unfold a5W; split
                   · rw[a4K f j,a0S]
                   · rfl
theorem a1V (f:A3->A3->Int) (l:List A3):∀k,(D2 f l k).length=l.length
 | 0=>rfl
 | k+1=>by rw[D2,a4K,a1V f l k]
def fnV (c:Nat):Value:= .func (.func c) #[] #[]
theorem b3W (c:Nat) (f:A3->A3->Int) (hcal:j7 Tryz.prog c=true) (hf:∀x y,Fn Tryz.prog c [H3 x,H3 y] [] (Ps (iI (f x y)) []))
  (g n cap:Nat) (l:List A3) (hl:l.length=n) (hn:n<=4611686018427387904) (r:List Value):FP 276 [.slice (some ⟨g,0,none⟩) n cap,iI 0,iI n,fnV c] [.pt g 33 (g6 l++r)]
  (Ps (.tuple #[]) [.pt g 33 (g6 (S8 f l)++r)]):=by
 refine FE [2,0,0,0] Tryz.func276 λX F hX=>?_;refine J.q λ_=>?_;refine J.l (α:=Nat) (λi=>1<=i/\i<=max 1 n) (λi=>[si 8 i,⟨0, .slice (some ⟨g,0,none⟩) n cap,2, .tt⟩,si 1 0,si 2 n,⟨3,fnV c,0, .tt⟩]) [1] (λi=>[.pt g 33 (g6 (D2 f l (i-1))++r)]) (λi=>n-i) (1) (⟨by omega,by omega⟩) λi hI=>?_;refine J.qd (λ_ h1=>?_) λ_ h1=>?_
 ·simp only[decide_eq_true_eq,Int.ofNat_lt]at h1;refine J.q λ_=>?_;refine J.l (α:=(Nat×List A3)) (λy=>y.1<=i/\y.2.length=n/\a5W f y.1 y.2=D2 f l i) (λy=>[si 9 y.1,si 8 i,⟨0, .slice (some ⟨g,0,none⟩) n cap,2, .tt⟩,si 1 0,si 2 n,⟨3,fnV c,0, .tt⟩]) [1] (λy=>[.pt g 33 (g6 y.2++r)]) (λy=>y.1) ((i,D2 f l (i-1))) (⟨Nat.le_refl _,by rw[a1V,hl],by obtain⟨k,rfl⟩:∃k,i=k+1:=⟨i-1,by omega⟩;rfl⟩) λy hI=>?_;obtain⟨j,m⟩:=y;dsimp only at hI ⊢;have hget:∀e,e<n->m[e]? =some (m.getD e d3):=λe he=>by rw[List.getD_eq_getElem?_getD,List.getElem?_eq_getElem (by omega),Option.getD_some]
  rcases Nat.eq_zero_or_pos j with h2 | h2
  ·subst h2;refine J.pn 4 (.of [0,4,8,12,16,20,24,28,33,36,40,44,48,53,58,60,64]) [] [1] λ_ _=>?_;rw[show decide (((0:Nat):Int)>0)=false from rfl];refine J.q λ_=>?_;refine J.vT (H3 d3) rfl rfl (λhg a w he hC=>by simp[G.on]at hg) ?_;refine J.q λ_=>?_;refine J.vT (H3 d3) rfl rfl (λhg a w he hC=>by simp[G.on]at hg) ?_;refine J.q λ_=>?_;refine J.gcase hX rfl rfl rfl ⟨rfl,trivial⟩ (λh=>by cases h) (λ_=>?_);refine J.vT (.bool false) rfl rfl (λhg a w he hC=>by simp[G.on]at hg) ?_;refine J.qF λ_=>?_;have hm:m=D2 f l (i+1-1):=hI.2.2;rw[hm];refine J.q λ_=>?_;refine J.n (i+1) (⟨by omega,by omega⟩) (by omega) [0,1]
  ·obtain⟨j,rfl⟩:∃k,j=k+1:=⟨j-1,by omega⟩;refine J.pn 4 (.of [0,4,8,12,16,20,24,28,33,36,40,44,48,53,58,60,64]) [] [1] λ_ _=>?_;rw[show decide (((j+1:Nat):Int)>0)=true from decide_eq_true (by omega)];refine J.q λ_=>?_;refine J.vT (H3 (m.getD (j+1) d3)) rfl rfl (λhg a w he hC=>?_) ?_
   ·exact i4 tk rfl rfl he hg rfl rfl (hC rfl _ (f0 (i:=1) rfl)) (by rw[show 0+((j+1:Nat):Int).toNat*3=(j+1)*3 from by omega];exact w6 m r _ _ (hget _ (by omega))) rfl
   refine J.q λ_=>?_;refine J.vT (H3 (m.getD j d3)) rfl rfl (λhg a w he hC=>?_) ?_
   ·exact i4 tk rfl rfl he hg rfl rfl (hC rfl _ (f0 (i:=1) rfl)) (by rw[show 0+(((j+1:Nat):Int)-1).toNat*3=j*3 from by omega];exact w6 m r _ _ (hget _ (by omega))) rfl
   refine J.q λ_=>?_;refine J.call hX hcal (hf (m.getD (j+1) d3) (m.getD j d3)) [] 0 rfl rfl rfl rfl (by(repeat' (first | exact Conj.nil | refine Conj.cons ?_ ?_ | omega | exact hq0 | (simpa using hq0) | (exactλh=>h) | exact rfl | (intro hq;have hq0:=hq;try simp only[Bool.and_eq_true,Bool.or_eq_true,decide_eq_true_eq,Bool.not_eq_true',decide_eq_false_iff_not]at hq) | (simp;done) | (simp;omega) | decide))) rfl rfl (λ_=>rfl) ?_;refine cpq ⟨_,rfl,⟨rfl,trivial⟩,?_⟩;refine J.qd (λ_ h3=>?_) λ_ h3=>?_
   ·simp only[Bool.true_and,decide_eq_true_eq]at h3;refine J.pq (.take true 0 (.take true 1 (.take true 2 (.take true 3 (.take true 4 (.take true 5 (.take true 6 (.take true 7 (.take true 8 (.take true 10 (.take true 11 (.take true 12 (.alt false 9 ((.of [54,56,62,64,71])) (.alt false 13 ((.of [38,56,62,64,71])) .non)))))))))))))) [16,17] [] λ_ _=>?_;refine J.alts ?_ ?_
    ·refine J.v (H3 (m.getD j d3)) rfl rfl (λhg a w he hs=>?_) ?_
     ·exact i4 tk rfl rfl he hg rfl rfl (hs.get (i:=1) rfl) (by rw[show 0+(((j+1:Nat):Int)-1).toNat*3=j*3 from by omega];exact w6 m r _ _ (hget _ (by omega))) rfl
     refine J.q λ_=>?_;refine J.v (H3 (m.getD (j+1) d3)) rfl rfl (λhg a w he hs=>?_) ?_
     ·exact i4 tk rfl rfl he hg rfl rfl (hs.get (i:=1) rfl) (by rw[show 0+((j+1:Nat):Int).toNat*3=(j+1)*3 from by omega];exact w6 m r _ _ (hget _ (by omega))) rfl
     refine J.q λ_=>?_;refine J.storeN hX tk 1 rfl rfl rfl rfl rfl rfl rfl rfl rfl rfl rfl rfl rfl ?_ (g6 (m.set (j+1) (m.getD j d3))++r) ?_ rfl (λ_=>rfl) ⟨trivial,?_⟩
     ·rw[List.length_append,l7];show 0+((j+1:Nat):Int).toNat*3+3<=_;omega
     ·rw[show 0+((j+1:Nat):Int).toNat*3=(j+1)*3 from by omega];exact D4 m r (j+1) _ (by omega)
     refine J.q λ_=>?_;refine J.storeN hX tk 1 rfl rfl rfl rfl rfl rfl rfl rfl rfl rfl rfl rfl rfl ?_ (g6 (swp m (j+1))++r) ?_ rfl (λ_=>rfl) ⟨trivial,?_⟩
     ·rw[List.length_append,l7,List.length_set];show 0+(((j+1:Nat):Int)-1).toNat*3+3<=_;omega
     ·rw[show 0+(((j+1:Nat):Int)-1).toNat*3=j*3 from by omega];exact D4 _ r j _ (by rw[List.length_set];omega)
     refine J.q λ_=>?_;rw[show((j+1:Nat):Int)-1=(j:Int)from by omega];refine J.q λ_=>?_;refine J.n ((j,swp m (j+1))) (⟨by dsimp only;omega,by rw[a0S];exact hI.2.1,by rw[<- hI.2.2];exact(if_pos h3).symm⟩) (by dsimp only;omega) [0,1]
    ·refine J.v (H3 (m.getD (j+1) d3)) rfl rfl (λhg a w he hs=>?_) ?_
     ·exact i4 tk rfl rfl he hg rfl rfl (hs.get (i:=1) rfl) (by rw[show 0+((j+1:Nat):Int).toNat*3=(j+1)*3 from by omega];exact w6 m r _ _ (hget _ (by omega))) rfl
     refine J.q λ_=>?_;refine J.v (H3 (m.getD j d3)) rfl rfl (λhg a w he hs=>?_) ?_
     ·exact i4 tk rfl rfl he hg rfl rfl (hs.get (i:=1) rfl) (by rw[show 0+(((j+1:Nat):Int)-1).toNat*3=j*3 from by omega];exact w6 m r _ _ (hget _ (by omega))) rfl
     refine J.q λ_=>?_;refine J.storeN hX tk 1 rfl rfl rfl rfl rfl rfl rfl rfl rfl rfl rfl rfl rfl ?_ (g6 (m.set (j+1) (m.getD j d3))++r) ?_ rfl (λ_=>rfl) ⟨trivial,?_⟩
     ·rw[List.length_append,l7];show 0+((j+1:Nat):Int).toNat*3+3<=_;omega
     ·rw[show 0+((j+1:Nat):Int).toNat*3=(j+1)*3 from by omega];exact D4 m r (j+1) _ (by omega)
     refine J.q λ_=>?_;refine J.storeN hX tk 1 rfl rfl rfl rfl rfl rfl rfl rfl rfl rfl rfl rfl rfl ?_ (g6 (swp m (j+1))++r) ?_ rfl (λ_=>rfl) ⟨trivial,?_⟩
     ·rw[List.length_append,l7,List.length_set];show 0+(((j+1:Nat):Int)-1).toNat*3+3<=_;omega
     ·rw[show 0+(((j+1:Nat):Int)-1).toNat*3=j*3 from by omega];exact D4 _ r j _ (by rw[List.length_set];omega)
     refine J.q λ_=>?_;rw[show((j+1:Nat):Int)-1=(j:Int)from by omega];refine J.q λ_=>?_;refine J.n ((j,swp m (j+1))) (⟨by dsimp only;omega,by rw[a0S];exact hI.2.1,by rw[<- hI.2.2];exact(if_pos h3).symm⟩) (by dsimp only;omega) [0,1]
   ·simp only[Bool.true_and,decide_eq_false_iff_not]at h3;have hm:m=D2 f l (i+1-1):=by rw[show i+1-1=i from rfl,<- hI.2.2];exact(if_neg h3).symm
    rw[hm];refine J.q λ_=>?_;refine J.n (i+1) (⟨by omega,by omega⟩) (by omega) [0,1]
 ·simp only[decide_eq_false_iff_not,Int.ofNat_lt]at h1;have hi:D2 f l (i-1)=S8 f l:=by
   rw[S8,hl,show i-1=n-1 from by omega]
  rw[hi];refine J.q λ_=>?_;refine J.f [1] ?_;exact⟨rfl,rfl⟩
structure Fl where
 at_:Int
 kind:Int
 x:Int
 y:Int
 z:Int
 n:Int
 xx:Int
deriving DecidableEq
def dF:Fl:=⟨0,0,0,0,0,0,0⟩
def flC (f:Fl):List Value:=[iI f.at_,iI f.kind,iI f.x,iI f.y,iI f.z,iI f.n,iI f.xx]
def flV (f:Fl):Value:= .agg #[iI f.at_,iI f.kind,iI f.x,iI f.y,iI f.z,iI f.n,iI f.xx]
def d5 (l:List Fl):List Value:=l.flatMap flC
theorem u9 (l:List Fl):(d5 l).length=l.length*7:=by
 induction l with
 | nil=>rfl
 | cons x l ih=>simp only[d5,List.flatMap_cons,List.length_append,List.length_cons]at ih ⊢;rw[ih,show(flC x).length=7 from rfl];omega
theorem x9:∀(l:List Fl) (r:List Value) (k:Nat) (x:Fl),l[k]? =some x->((d5 l++r).drop (k*7)).take 7=flC x
 | [],_,_,_,h=>by simp at h
 | y::l,r,0,x,h=>by simp at h;subst h;simp[d5,flC]
 | y::l,r,k+1,x,h=>by
  have:=x9 l r k x (by simpa using h);rw[show(k+1)*7=7+k*7 from by omega,<- List.drop_drop,show(d5 (y::l)++r).drop 7=d5 l++r from rfl];exact this
theorem E9:∀(l:List Fl) (r:List Value) (k:Nat) (x:Fl),k<l.length->(d5 l++r).take (k*7)++flC x++(d5 l++r).drop (k*7+7)=d5 (l.set k x)++r
 | [],_,_,_,h=>by simp at h
 | y::l,r,0,x,h=>by rw[Nat.zero_mul,List.take_zero];rfl
 | y::l,r,k+1,x,h=>by
  have:=E9 l r k x (by simpa using h);rw[List.set_cons_succ,show d5 (y::l)++r=flC y++(d5 l++r)from by simp[d5],show(k+1)*7=(flC y).length+k*7 from by show _=7+k*7;omega,List.take_length_add_append,show(flC y).length+k*7+7=(flC y).length+(k*7+7)from by omega,List.drop_length_add_append,List.append_assoc,List.append_assoc,<- List.append_assoc (List.take _ _),this];simp[d5]
def a2v (l:List Fl) (j:Nat):List Fl:=(l.set j (l.getD (j-1) dF)).set (j-1) (l.getD j dF)
def a1q (f:Fl->Fl->Int):Nat->List Fl->List Fl
 | 0,l=>l
 | j+1,l=>if f (l.getD (j+1) dF) (l.getD j dF)<0 then a1q f j (a2v l (j+1))else l
def y8 (f:Fl->Fl->Int) (l:List Fl):Nat->List Fl
 | 0=>l
 | k+1=>a1q f (k+1) (y8 f l k)
def s6 (f:Fl->Fl->Int) (l:List Fl):List Fl:=y8 f l (l.length-1)
theorem X0 (l:List Fl) (j:Nat):(a2v l j).length=l.length:=by simp[a2v]
theorem a7C (l:List Fl) (j:Nat) (h:j+1<l.length):(a2v l (j+1)).Perm l:=by
 induction l generalizing j with
 | nil=>simp at h
 | cons x l ih=>
  cases j with
  | zero=>
   cases l with
   | nil=>simp at h
   | cons y l=>simp only[a2v,List.set_cons_succ,List.set_cons_zero,Nat.add_sub_cancel,Nat.zero_add,List.getD_cons_zero,List.getD_cons_succ];exact List.Perm.swap _ _ _
  | succ j=>
   have:=ih j (by simpa using h);simp only[a2v,Nat.add_sub_cancel,List.set_cons_succ,List.getD_cons_succ]at this ⊢;exact this.cons x
theorem V6 (f:Fl->Fl->Int):∀(j:Nat) (l:List Fl),j<l.length->(a1q f j l).Perm l
 | 0,l,_=>List.Perm.refl _
 | j+1,l,h=>by
  unfold a1q;split
  ·exact(V6 f j _ (by rw[X0];omega)).trans (a7C l j h)
  ·exact List.Perm.refl _
theorem X7 (f:Fl->Fl->Int) (l:List Fl):∀k,k<l.length->(y8 f l k).Perm l/\(y8 f l k).length=l.length
 | 0,_=>⟨List.Perm.refl _,rfl⟩
 | k+1,h=>by
  obtain⟨h1,h2⟩:=X7 f l k (by omega);exact⟨(V6 f (k+1) _ (by omega)).trans h1,by rw[y8,(V6 f (k+1) _ (by omega)).length_eq,h2]⟩
theorem R9 (f:Fl->Fl->Int) (l:List Fl):(s6 f l).Perm l:=by
 cases l with
 | nil=>exact List.Perm.refl _
 | cons x l=>exact(X7 f (x::l) _ (by simp)).1
theorem a2M (f:Fl->Fl->Int):∀(j:Nat) (l:List Fl),(a1q f j l).length=l.length
  | 0,l=>rfl
  | j + 1, l => by unfold a1q; split
                   · rw[a2M f j,X0]
                   · rfl
theorem a0x (f:Fl->Fl->Int) (l:List Fl):∀k,(y8 f l k).length=l.length
 | 0=>rfl
 | k+1=>by rw[y8,a2M,a0x f l k]
theorem b2H (c:Nat) (f:Fl->Fl->Int) (hcal:j7 Tryz.prog c=true) (hf:∀x y,Fn Tryz.prog c [flV x,flV y] [] (Ps (iI (f x y)) []))
  (g n cap:Nat) (l:List Fl) (hl:l.length=n) (hn:n<=4611686018427387904) (r:List Value):FP 199 [.slice (some ⟨g,0,none⟩) n cap,iI 0,iI n,fnV c] [.pt g 35 (d5 l++r)]
  (Ps (.tuple #[]) [.pt g 35 (d5 (s6 f l)++r)]):=by
 refine FE [2,0,0,0] Tryz.func199 λX F hX=>?_;refine J.q λ_=>?_;refine J.l (α:=Nat) (λi=>1<=i/\i<=max 1 n) (λi=>[si 8 i,⟨0, .slice (some ⟨g,0,none⟩) n cap,2, .tt⟩,si 1 0,si 2 n,⟨3,fnV c,0, .tt⟩]) [1] (λi=>[.pt g 35 (d5 (y8 f l (i-1))++r)]) (λi=>n-i) (1) (⟨by omega,by omega⟩) λi hI=>?_;refine J.qd (λ_ h1=>?_) λ_ h1=>?_
 ·simp only[decide_eq_true_eq,Int.ofNat_lt]at h1;refine J.q λ_=>?_;refine J.l (α:=(Nat×List Fl)) (λy=>y.1<=i/\y.2.length=n/\a1q f y.1 y.2=y8 f l i) (λy=>[si 9 y.1,si 8 i,⟨0, .slice (some ⟨g,0,none⟩) n cap,2, .tt⟩,si 1 0,si 2 n,⟨3,fnV c,0, .tt⟩]) [1] (λy=>[.pt g 35 (d5 y.2++r)]) (λy=>y.1) ((i,y8 f l (i-1))) (⟨Nat.le_refl _,by rw[a0x,hl],by obtain⟨k,rfl⟩:∃k,i=k+1:=⟨i-1,by omega⟩;rfl⟩) λy hI=>?_;obtain⟨j,m⟩:=y;dsimp only at hI ⊢;have hget:∀e,e<n->m[e]? =some (m.getD e dF):=λe he=>by rw[List.getD_eq_getElem?_getD,List.getElem?_eq_getElem (by omega),Option.getD_some]
  rcases Nat.eq_zero_or_pos j with h2 | h2
  ·subst h2;refine J.pn 4 (.of [0,4,8,12,16,20,24,28,33,36,40,44,48,53,58,60,64]) [] [1] λ_ _=>?_;rw[show decide (((0:Nat):Int)>0)=false from rfl];refine J.q λ_=>?_;refine J.vT (flV dF) rfl rfl (λhg a w he hC=>by simp[G.on]at hg) ?_;refine J.q λ_=>?_;refine J.vT (flV dF) rfl rfl (λhg a w he hC=>by simp[G.on]at hg) ?_;refine J.q λ_=>?_;refine J.gcase hX rfl rfl rfl ⟨rfl,trivial⟩ (λh=>by cases h) (λ_=>?_);refine J.vT (.bool false) rfl rfl (λhg a w he hC=>by simp[G.on]at hg) ?_;refine J.qF λ_=>?_;have hm:m=y8 f l (i+1-1):=hI.2.2;rw[hm];refine J.q λ_=>?_;refine J.n (i+1) (⟨by omega,by omega⟩) (by omega) [0,1]
  ·obtain⟨j,rfl⟩:∃k,j=k+1:=⟨j-1,by omega⟩;refine J.pn 4 (.of [0,4,8,12,16,20,24,28,33,36,40,44,48,53,58,60,64]) [] [1] λ_ _=>?_;rw[show decide (((j+1:Nat):Int)>0)=true from decide_eq_true (by omega)];refine J.q λ_=>?_;refine J.vT (flV (m.getD (j+1) dF)) rfl rfl (λhg a w he hC=>?_) ?_
   ·exact i4 tk rfl rfl he hg rfl rfl (hC rfl _ (f0 (i:=1) rfl)) (by rw[show 0+((j+1:Nat):Int).toNat*7=(j+1)*7 from by omega];exact x9 m r _ _ (hget _ (by omega))) rfl
   refine J.q λ_=>?_;refine J.vT (flV (m.getD j dF)) rfl rfl (λhg a w he hC=>?_) ?_
   ·exact i4 tk rfl rfl he hg rfl rfl (hC rfl _ (f0 (i:=1) rfl)) (by rw[show 0+(((j+1:Nat):Int)-1).toNat*7=j*7 from by omega];exact x9 m r _ _ (hget _ (by omega))) rfl
   refine J.q λ_=>?_;refine J.call hX hcal (hf (m.getD (j+1) dF) (m.getD j dF)) [] 0 rfl rfl rfl rfl (by(repeat' (first | exact Conj.nil | refine Conj.cons ?_ ?_ | omega | exact hq0 | (simpa using hq0) | (exactλh=>h) | exact rfl | (intro hq;have hq0:=hq;try simp only[Bool.and_eq_true,Bool.or_eq_true,decide_eq_true_eq,Bool.not_eq_true',decide_eq_false_iff_not]at hq) | (simp;done) | (simp;omega) | decide))) rfl rfl (λ_=>rfl) ?_;refine cpq ⟨_,rfl,⟨rfl,trivial⟩,?_⟩;refine J.qd (λ_ h3=>?_) λ_ h3=>?_
   ·simp only[Bool.true_and,decide_eq_true_eq]at h3;refine J.pq (.take true 0 (.take true 1 (.take true 2 (.take true 3 (.take true 4 (.take true 5 (.take true 6 (.take true 7 (.take true 8 (.take true 10 (.take true 11 (.take true 12 (.alt false 9 ((.of [54,56,62,64,71])) (.alt false 13 ((.of [38,56,62,64,71])) .non)))))))))))))) [16,17] [] λ_ _=>?_;refine J.alts ?_ ?_
    ·refine J.v (flV (m.getD j dF)) rfl rfl (λhg a w he hs=>?_) ?_
     ·exact i4 tk rfl rfl he hg rfl rfl (hs.get (i:=1) rfl) (by rw[show 0+(((j+1:Nat):Int)-1).toNat*7=j*7 from by omega];exact x9 m r _ _ (hget _ (by omega))) rfl
     refine J.q λ_=>?_;refine J.v (flV (m.getD (j+1) dF)) rfl rfl (λhg a w he hs=>?_) ?_
     ·exact i4 tk rfl rfl he hg rfl rfl (hs.get (i:=1) rfl) (by rw[show 0+((j+1:Nat):Int).toNat*7=(j+1)*7 from by omega];exact x9 m r _ _ (hget _ (by omega))) rfl
     refine J.q λ_=>?_;refine J.storeN hX tk 1 rfl rfl rfl rfl rfl rfl rfl rfl rfl rfl rfl rfl rfl ?_ (d5 (m.set (j+1) (m.getD j dF))++r) ?_ rfl (λ_=>rfl) ⟨trivial,?_⟩
     ·rw[List.length_append,u9];show 0+((j+1:Nat):Int).toNat*7+7<=_;omega
     ·rw[show 0+((j+1:Nat):Int).toNat*7=(j+1)*7 from by omega];exact E9 m r (j+1) _ (by omega)
     refine J.q λ_=>?_;refine J.storeN hX tk 1 rfl rfl rfl rfl rfl rfl rfl rfl rfl rfl rfl rfl rfl ?_ (d5 (a2v m (j+1))++r) ?_ rfl (λ_=>rfl) ⟨trivial,?_⟩
     ·rw[List.length_append,u9,List.length_set];show 0+(((j+1:Nat):Int)-1).toNat*7+7<=_;omega
     ·rw[show 0+(((j+1:Nat):Int)-1).toNat*7=j*7 from by omega];exact E9 _ r j _ (by rw[List.length_set];omega)
     refine J.q λ_=>?_;rw[show((j+1:Nat):Int)-1=(j:Int)from by omega];refine J.q λ_=>?_;refine J.n ((j,a2v m (j+1))) (⟨by dsimp only;omega,by rw[X0];exact hI.2.1,by rw[<- hI.2.2];exact(if_pos h3).symm⟩) (by dsimp only;omega) [0,1]
    ·refine J.v (flV (m.getD (j+1) dF)) rfl rfl (λhg a w he hs=>?_) ?_
     ·exact i4 tk rfl rfl he hg rfl rfl (hs.get (i:=1) rfl) (by rw[show 0+((j+1:Nat):Int).toNat*7=(j+1)*7 from by omega];exact x9 m r _ _ (hget _ (by omega))) rfl
     refine J.q λ_=>?_;refine J.v (flV (m.getD j dF)) rfl rfl (λhg a w he hs=>?_) ?_
     ·exact i4 tk rfl rfl he hg rfl rfl (hs.get (i:=1) rfl) (by rw[show 0+(((j+1:Nat):Int)-1).toNat*7=j*7 from by omega];exact x9 m r _ _ (hget _ (by omega))) rfl
     refine J.q λ_=>?_;refine J.storeN hX tk 1 rfl rfl rfl rfl rfl rfl rfl rfl rfl rfl rfl rfl rfl ?_ (d5 (m.set (j+1) (m.getD j dF))++r) ?_ rfl (λ_=>rfl) ⟨trivial,?_⟩
     ·rw[List.length_append,u9];show 0+((j+1:Nat):Int).toNat*7+7<=_;omega
     ·rw[show 0+((j+1:Nat):Int).toNat*7=(j+1)*7 from by omega];exact E9 m r (j+1) _ (by omega)
     refine J.q λ_=>?_;refine J.storeN hX tk 1 rfl rfl rfl rfl rfl rfl rfl rfl rfl rfl rfl rfl rfl ?_ (d5 (a2v m (j+1))++r) ?_ rfl (λ_=>rfl) ⟨trivial,?_⟩
     ·rw[List.length_append,u9,List.length_set];show 0+(((j+1:Nat):Int)-1).toNat*7+7<=_;omega
     ·rw[show 0+(((j+1:Nat):Int)-1).toNat*7=j*7 from by omega];exact E9 _ r j _ (by rw[List.length_set];omega)
     refine J.q λ_=>?_;rw[show((j+1:Nat):Int)-1=(j:Int)from by omega];refine J.q λ_=>?_;refine J.n ((j,a2v m (j+1))) (⟨by dsimp only;omega,by rw[X0];exact hI.2.1,by rw[<- hI.2.2];exact(if_pos h3).symm⟩) (by dsimp only;omega) [0,1]
   ·simp only[Bool.true_and,decide_eq_false_iff_not]at h3;have hm:m=y8 f l (i+1-1):=by rw[show i+1-1=i from rfl,<- hI.2.2];exact(if_neg h3).symm
    rw[hm];refine J.q λ_=>?_;refine J.n (i+1) (⟨by omega,by omega⟩) (by omega) [0,1]
 ·simp only[decide_eq_false_iff_not,Int.ofNat_lt]at h1;have hi:y8 f l (i-1)=s6 f l:=by
   rw[s6,hl,show i-1=n-1 from by omega]
  rw[hi];refine J.q λ_=>?_;refine J.f [1] ?_;exact⟨rfl,rfl⟩
end Go.Proofs.YtpohajhbfllbbaaGreat
