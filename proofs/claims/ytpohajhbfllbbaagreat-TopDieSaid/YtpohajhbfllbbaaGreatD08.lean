/- Helpers. No condition. -/
import Derived.Test.YtpohajhbfllbbaaGreatD04
import Derived.Test.YtpohajhbfllbbaaGreatD05
import Derived.Test.YtpohajhbfllbbaaGreatD06
import Derived.Test.YtpohajhbfllbbaaGreatD07
set_option maxRecDepth 20000
set_option linter.all false
namespace Go.Proofs.YtpohajhbfllbbaaGreat
open Go Go.RowKit
theorem O7:∀(l:List NCell) (k i:Nat) (v:Value) (f:NCell->NCell) (c:NCell),l[k]? =some c->i<34->c.vals.set i v=(f c).vals->(q9 l).set (k*34+i) v=q9 (l.modify k f)
 | [],k,i,v,f,c,h,_,_=>by simp at h
 | x::l,0,i,v,f,c,h,hi,hv=>by
  simp at h;subst h;simp only[q9,List.flatMap_cons,List.modify_cons,Nat.zero_mul,Nat.zero_add,if_true];rw[List.set_append_left _ _ (by simpa[NCell.vals]using hi),hv]
 | x::l,k+1,i,v,f,c,h,hi,hv=>by
  have:=O7 l k i v f c (by simpa using h) hi hv;simp only[q9,List.flatMap_cons,List.modify_cons]at this ⊢;rw[List.set_append_right _ _ (by simp[NCell.vals];omega),show(k+1)*34+i-x.vals.length=k*34+i from by simp[NCell.vals];omega,this];simp
theorem b4s {N:Nand} {x y z n xx:Int} (h:B1 N.dies N.blocks N.pages x y z=true):N.fault 1 x y z n xx=(true,{N with plan:=b0p N.plan (x,y,z)}):=by
 unfold Nand.fault;rw[if_neg (by simp[h]),if_pos rfl];rfl
theorem b4r {N:Nand} {x y z n xx:Int} (h:B1 N.dies N.blocks N.pages x y z=true):N.fault 2 x y z n xx=(true,N.setBlk x.toNat y.toNat {N.blk x.toNat y.toNat with fails:=true}):=by
 unfold Nand.fault;rw[if_neg (by simp[h]),if_neg (by decide),if_pos rfl]
theorem a8J {N:Nand} {x y z n xx:Int} (h:B1 N.dies N.blocks N.pages x y z=true):N.fault 3 x y z n xx=(true,N.setCell x y z λc=>{c with lost:=true}):=by
 unfold Nand.fault;rw[if_neg (by simp[h]),if_neg (by decide),if_neg (by decide),if_pos rfl]
theorem b4q {N:Nand} {x y z n xx:Int} (h:B1 N.dies N.blocks N.pages x y z=true):N.fault 4 x y z n xx=(true,{N with dead:=N.dead.set x.toNat true}):=by
 unfold Nand.fault;rw[if_neg (by simp[h]),if_neg (by decide),if_neg (by decide),if_neg (by decide),if_pos rfl]
theorem b2H {N:Nand} {k x y z n xx:Int} (h1:k≠1) (h2:k≠2) (h3:k≠3) (h4:k≠4) (h5:k≠5):N.fault k x y z n xx=(false,N):=by
 unfold Nand.fault;split<;>simp_all
theorem a6z {l:List NCell} {k:Nat} {f:NCell->NCell} (h:l.length<=k):l.modify k f=l:=by
 apply List.ext_getElem?;intro j;rw[List.getElem?_modify]
 by_cases e:k=j
 ·subst e;rw[List.getElem?_eq_none h];rfl
 ·simp[e]
theorem a2f {N:Nand} {x y z n xx:Int} (h:B1 N.dies N.blocks N.pages x y z=true):N.fault 5 x y z n xx=if n<0\/32<=n then(false,N)else
  match N.pageAt x y z with
  | none=>(true,N)
  | some c=>if c.turned then(false,N)else if c.lost then(true,N)else
   (true,N.setCell x y z λc=>{c with p:=Nand.xorAt c.p n.toNat (UInt8.ofNat (xx % 256).toNat),turned:=true}):=by
 unfold Nand.fault;rw[if_neg (by simp[h]),if_neg (by decide),if_neg (by decide),if_neg (by decide),if_neg (by decide),if_pos rfl]
 try rfl
theorem a1G {N:Nand} {x y z n xx:Int} (h:B1 N.dies N.blocks N.pages x y z=true) (h2:N.pageAt x y z=none) {b:Bool} (hb:(decide (n<0)||decide (n>=32))=b):N.fault 5 x y z n xx=(!b,N):=by
 subst hb;rw[a2f h,h2]
 by_cases h3:n<0\/32<=n
 ·rw[if_pos h3];simp;omega
 ·rw[if_neg h3];simp;omega
theorem a3Q {N:Nand} {x y z n xx:Int} {c:NCell} (h:B1 N.dies N.blocks N.pages x y z=true) (h2:N.pageAt x y z=some c) (hb:(decide (n<0)||decide (n>=32)||(true&&c.turned))=true):N.fault 5 x y z n xx=(false,N):=by
 rw[a2f h,h2]
 by_cases h3:n<0\/32<=n
 ·rw[if_pos h3]
 ·rw[if_neg h3];simp only[Bool.or_eq_true,decide_eq_true_eq,Bool.true_and]at hb;rcases hb with hb | hb
  ·omega
  ·simp only;rw[if_pos hb]
theorem a4W {c:NCell} (h:c.p.length=32):c.vals=c.p.map bv++[.bool c.lost, .bool c.turned]:=by
 rw[<- B2 c.p h];rfl
theorem b0C {c:NCell} (h:c.p.length=32) {e:Nat} (he:e<32):c.vals[e]? =some (bv (c.p.getD e 0)):=by
 rw[a4W h,List.getElem?_append_left (by simpa[h]using he)];simp[h,he]
theorem b0s (b:UInt8) (xx:Int):IntKind.u8.wrap ((BitVec.ofInt IntKind.u8.bits (b.toNat:Int) ^^^ BitVec.ofInt IntKind.u8.bits (IntKind.u8.wrap xx)).toNat:Int)=((b ^^^ UInt8.ofNat (xx % 256).toNat).toNat:Int):=by
 have h0:IntKind.u8.wrap xx=xx % 256:=by simp[IntKind.wrap,IntKind.bits,IntKind.signed]
 obtain⟨m,hm⟩:∃m:Nat,xx % 256=m:=⟨(xx % 256).toNat,by omega⟩;have hm2:m<256:=by omega
 rw[h0,hm];simp only[Int.toNat_natCast];have e1:(BitVec.ofInt IntKind.u8.bits (b.toNat:Int) ^^^ BitVec.ofInt IntKind.u8.bits (m:Int)).toNat=b.toNat ^^^ m:=by
  rw[BitVec.toNat_xor];have:=b.toNat_lt;show(BitVec.ofInt 8 (b.toNat:Int)).toNat ^^^ (BitVec.ofInt 8 (m:Int)).toNat=_;rw[BitVec.ofInt_natCast,BitVec.ofInt_natCast,BitVec.toNat_ofNat,BitVec.toNat_ofNat,Nat.mod_eq_of_lt this,Nat.mod_eq_of_lt hm2]
 have e2:(b ^^^ UInt8.ofNat m).toNat=b.toNat ^^^ m:=by
  rw[UInt8.toNat_xor,UInt8.toNat_ofNat',Nat.mod_eq_of_lt hm2]
 rw[e1,e2];have hx:b.toNat ^^^ m<256:=Nat.xor_lt_two_pow (n:=8) b.toNat_lt hm2;have:IntKind.u8.wrap ((b.toNat ^^^ m:Nat):Int)=((b.toNat ^^^ m:Nat):Int) % 256:=by simp[IntKind.wrap,IntKind.bits,IntKind.signed]
 rw[this];omega
theorem T7 (p:Nat) (N:Nand) (hN:N.Ok) (at_ kind x y z n xx:Int):FP 72 [pp p, .agg #[iI at_,iI kind,iI x,iI y,iI z,iI n,iI xx]] [i5 p N]
  (λv As=>v= .bool (N.fault kind x y z n xx).1/\As=[i5 p (N.fault kind x y z n xx).2]):=by
 have hbd:=hN.bd;refine FE [2,0] Tryz.func72 λX F hX=>?_;refine J.o (α:=NLoc) 1 λY=>?_;refine J.pq (.of [0,4,8,12,16,20,25,28,33,38,40,44]) [] [1,2,3,4,5,6] λ_ _=>?_;refine J.ca hX (by kernel_rfl) (a6S _ _ _ x y z (by omega) (by omega) (by omega)) [] 0 rfl rfl rfl rfl rfl rfl (λ_=>rfl) ?_;refine cpq ⟨_,rfl,⟨rfl,rfl,rfl,rfl,rfl,rfl,trivial⟩,?_⟩;refine J.qd (λ_ h=>?_) λ_ h=>?_
 ·simp only[Bool.false_or,Bool.not_eq_true']at h;refine J.q λ_=>?_;refine J.cl (H2 p N) (Y) [1,2,3,4,5] ?_;refine J.qr [1] λ_=>?_;exact⟨by simp[Nand.fault,h],by simp[Nand.fault,h];rfl⟩
 simp only[Bool.false_or,Bool.not_eq_false']at h;have hr:0<=x/\x<N.dies/\0<=y/\y<N.blocks/\0<=z/\z<N.pages:=by simp[B1]at h;omega
 obtain⟨i,rfl⟩:=Int.eq_ofNat_of_zero_le hr.1;obtain⟨j,rfl⟩:=Int.eq_ofNat_of_zero_le hr.2.2.1;obtain⟨k,rfl⟩:=Int.eq_ofNat_of_zero_le hr.2.2.2.2.1;have hi:i<N.dies:=by omega
 have hj:j<N.blocks:=by omega
 have hlen:=(hN.cells i j hi hj).1;refine J.openAt 5 (i*N.blocks+j) rfl rfl (J4 _ _ _ _ _ (a2V hi hj)) rfl ?_;rw[(D9 hj).1,(D9 hj).2];refine J.o (α:=(Option Nat×Nat)) 7 λc=>?_;refine J.p (.of [0,4,8,13,16,20,25,28,32,37,42,45,48]) [12] [1,2,3,4,5,6,7,8] λ_=>?_;refine J.qp (R2 i j) [] λ_=>?_;refine J.valT hX (pp (Y.bp (i*N.blocks+j))) 8 rfl rfl (λ_ a w he hC=>?_) rfl ?_
 ·refine(l8 (key:=((i:Int),(j:Int),0)) I6 V0 (z:= .pointer none) (λw=>by kernel_rfl) rfl rfl rfl rfl he rfl rfl (hC rfl _ (i7 (i:=2) rfl))).trans ?_;simp only[K7 hi hj];rfl
 refine J.p (.of [0,4,9,12,16,20,25,28,32,36]) [9] [1,2,3,4,5,6,7,8] λ_=>?_;refine J.qd (λ_ h1=>?_) λ_ h1=>?_
 ·simp only[beq_iff_eq]at h1;subst h1;refine J.p (.of [0,4,8,13,16,21,26]) [] [1,2,4,5,6,7,8] λ_=>?_;refine J.qp (b6m Y.q N.plan i j k) [3] λ_=>?_;refine J.q λ_=>?_;refine J.closeN p N ({N with plan:=b0p N.plan ((i:Int),(j:Int),(k:Int))}) Y i j hj (N.blk i j) _ [1,2,3,4,5,7,8] rfl rfl rfl rfl (B5 _ _ _) rfl ?_;refine J.qr [1] λ_=>?_;rw[b4s h];exact⟨rfl,rfl⟩
 simp only[beq_eq_false_iff_ne,ne_eq]at h1;refine J.qd (λ_ h2=>?_) λ_ h2=>?_
 ·simp only[beq_iff_eq]at h2;subst h2;refine J.q λ_=>?_;refine J.closeN p N (N.setBlk i j {N.blk i j with fails:=true}) Y i j hj ({N.blk i j with fails:=true}) _ [1,2,3,4,5,7,8] rfl rfl rfl rfl (rfl) rfl ?_;refine J.qr [1] λ_=>?_;rw[b4r h];exact⟨rfl,rfl⟩
 simp only[beq_eq_false_iff_ne,ne_eq]at h2;refine J.qd (λ_ h3=>?_) λ_ h3=>?_
 ·simp only[beq_iff_eq]at h3;subst h3;refine J.qd (λ_ h5=>?_) λ_ h5=>?_
  ·simp only[decide_eq_true_eq,Int.ofNat_lt]at h5;refine J.know (λh' s=>i9 (by omega) (s.get (i:=8) rfl)) λhg=>?_;obtain⟨g,hg⟩:=hg;obtain⟨c1,c2⟩:=c;simp only at hg;subst hg;refine J.openOwn 8 rfl rfl (λ_=>rfl) λr q1 q2 q3 q4=>?_;obtain⟨cl,hcl⟩:∃cl,(N.blk i j).cells[k]? =some cl:=⟨_,List.getElem?_eq_getElem h5⟩;refine J.pq (.of [0,4,8,13,16,20,25,28,32,39]) [7,8,9] [1,2,3,4,5,6,7] λ_ _=>?_;refine J.s1 8 (q9 ((N.blk i j).cells.modify k λc=>{c with lost:=true})++r) ?_ ?_ ?_
   ·rw[List.length_append,l9];show 0+(k:Int).toNat*34+32<_;simp only[Int.toNat_natCast];omega
   ·rw[show 0+(k:Int).toNat*34+32=k*34+32 from by simp,List.set_append_left _ _ (by rw[l9];omega)];rw[O7 _ k 32 _ (λc=>{c with lost:=true}) cl hcl (by omega) rfl]
   refine J.closeOwn (e:=178) (size:=34) (n:=(N.blk i j).cells.length) (cap:=c2) (xs:=q9 ((N.blk i j).cells.modify k λc=>{c with lost:=true})) 8 rfl rfl (by rw[l9,List.length_modify]) q2 q3 (by rw[List.length_append,l9,List.length_modify];rw[l9]at q4;exact q4) (by rw[List.take_left' (by rw[l9,List.length_modify])]) rfl ?_;rw[show(N.blk i j).cells.length=((N.blk i j).cells.modify k λc=>{c with lost:=true}).length from by rw[List.length_modify]];refine J.q λ_=>?_;refine J.closeN p N (N.setCell i j k λc=>{c with lost:=true}) Y i j hj ({N.blk i j with cells:=(N.blk i j).cells.modify k λc=>{c with lost:=true}}) (some g,c2) [1,2,3,4,5,7,8] rfl rfl rfl rfl (rfl) rfl ?_;refine J.qr [1] λ_=>?_;rw[a8J h];exact⟨rfl,rfl⟩
  ·simp only[decide_eq_false_iff_not,Int.ofNat_lt,Nat.not_lt]at h5;refine J.q λ_=>?_;refine J.closeN p N (N.setCell i j k λc=>{c with lost:=true}) Y i j hj (N.blk i j) _ [1,2,3,4,5,7,8] rfl rfl rfl rfl ((by simp only[Nand.setCell,Nand.setBlk,Int.toNat_natCast];rw[a6z h5])) rfl ?_;refine J.qr [1] λ_=>?_;rw[a8J h];exact⟨rfl,rfl⟩
 simp only[beq_eq_false_iff_ne,ne_eq]at h3;refine J.qd (λ_ h4=>?_) λ_ h4=>?_
 ·simp only[beq_iff_eq]at h4;subst h4;refine J.pq (.of [0,4,8,13,16,20,25,28,35]) [7,8] [1,2,3,5,6,7,8] λ_ _=>?_;refine J.s1 4 ((N.dead.set i true).map Value.bool) ?_ ?_ ?_
  ·rw[List.length_map,hN.dead];show 0+(i:Int).toNat*1<_;omega
  ·rw[show 0+(i:Int).toNat*1=i from by omega,List.map_set]
  refine J.q λ_=>?_;refine J.closeN p N ({N with dead:=N.dead.set i true}) Y i j hj (N.blk i j) _ [1,2,3,4,5,7,8] rfl rfl rfl rfl (B5 _ _ _) rfl ?_;refine J.qr [1] λ_=>?_;rw[b4q h];exact⟨rfl,rfl⟩
 simp only[beq_eq_false_iff_ne,ne_eq]at h4;refine J.qd (λ_ h6=>?_) λ_ h6=>?_
 ·simp only[beq_iff_eq]at h6;subst h6
  by_cases h5:k<(N.blk i j).cells.length
  ·rw[show decide ((k:Int)<((N.blk i j).cells.length:Int))=true from decide_eq_true (by omega)];refine J.know (λh' s=>i9 (by omega) (s.get (i:=8) rfl)) λhg=>?_;obtain⟨g,hg⟩:=hg;obtain⟨c1,c2⟩:=c;simp only at hg;subst hg;refine J.openOwn 8 rfl rfl (λ_=>rfl) λr q1 q2 q3 q4=>?_;obtain⟨cl,hcl⟩:∃cl,(N.blk i j).cells[k]? =some cl:=⟨_,List.getElem?_eq_getElem h5⟩;refine J.pq (.of [0,5,8,12,16,21,24,28,32,36,40,44,48,52,57,60,64,69,72,76,81,84,88]) [] [1,2,3,4,5,6,7,8] λ_ _=>?_;have hpa:N.pageAt i j k=some cl:=by simp only[Nand.pageAt,Int.toNat_natCast];exact hcl
   have hoff:∀e,e<34->(q9 (N.blk i j).cells++r)[k*34+e]? =cl.vals[e]?:=λe he=>by
    rw[List.getElem?_append_left (by rw[l9];omega)];exact a1K hcl he
   refine J.vT (.bool cl.turned) rfl rfl (λhg a w he hC=>?_) ?_
   ·exact j3 tk rfl rfl he hg rfl rfl (hC rfl _ (i7 (i:=8) rfl)) (by rw[show 0+((k:Int)).toNat*34+33=k*34+33 from by simp];exact hoff 33 (by omega))
   refine J.qd (λ_ h7=>?_) λ_ h7=>?_
   ·refine J.closeOwn (e:=178) (size:=34) (n:=(N.blk i j).cells.length) (cap:=c2) (xs:=q9 (N.blk i j).cells) 8 rfl rfl q1 q2 q3 (by rw[List.length_append];exact q4) (by rw[List.take_left' q1]) rfl ?_;refine J.q λ_=>?_;refine J.closeN p N (N) Y i j hj (N.blk i j) (some g,c2) [1,2,3,4,5,7,8] rfl rfl rfl rfl (B5 _ _ _) rfl ?_;refine J.qr [1] λ_=>?_;rw[a3Q h hpa h7];exact⟨rfl,rfl⟩
   refine J.pq (.of [0,4,8,12,16,21,24,28,33,36,40,45,48,52]) [] [1,2,3,4,5,6,7,8] λ_ _=>?_;refine J.vT (.bool cl.lost) rfl rfl (λhg a w he hC=>?_) ?_
   ·exact j3 tk rfl rfl he hg rfl rfl (hC rfl _ (i7 (i:=8) rfl)) (by rw[show 0+((k:Int)).toNat*34+32=k*34+32 from by simp];exact hoff 32 (by omega))
   refine J.qd (λ_ h8=>?_) λ_ h8=>?_
   ·have hn:0<=n/\n<32:=by
     simp only[Bool.or_eq_false_iff,decide_eq_false_iff_not]at h7;omega
    obtain⟨e,rfl⟩:=Int.eq_ofNat_of_zero_le hn.1;have he32:e<32:=by omega
    have hp32:cl.p.length=32:=(hN.cells i j hi hj).2 cl (List.mem_of_getElem? hcl);refine J.pn 14 (.of [0,4,8,13,16,20,25,28,33,36,40,44,52,57,60,68,72,50,64,76,82]) [] [1,2,3,4,5,6,7] λ_ _=>?_;refine J.vT (.int .u8 (IntKind.u8.wrap xx)) rfl rfl (λhg a w he hC=>?_) ?_
    ·exact C9 tk rfl rfl he rfl rfl rfl
    refine J.q λ_=>?_;refine J.val hX (bv (cl.p.getD e 0)) 0 rfl rfl (λhg a w he hs=>?_) rfl ⟨rfl,rfl,rfl,rfl,rfl,rfl,rfl,trivial⟩ ?_
    ·exact j3 tk rfl rfl he hg rfl rfl (hs.get (i:=8) rfl) (by rw[show 0+((k:Int)).toNat*34+0+((e:Int)).toNat*1=k*34+e from by simp,hoff e (by omega)];exact b0C hp32 he32)
    refine J.q λ_=>?_;have hlen':(q9 (N.blk i j).cells++r).length=c2*34:=by rw[List.length_append];exact q4
    have hnl:k*34+34<=(N.blk i j).cells.length*34:=by omega
    refine J.s1 8 (q9 ((N.blk i j).cells.modify k λc=>{c with p:=Nand.xorAt c.p e (UInt8.ofNat (xx % 256).toNat)})++r) ?_ ?_ ?_
    ·rw[List.length_append,l9];show 0+(k:Int).toNat*34+0+(e:Int).toNat*1<_;simp only[Int.toNat_natCast];omega
    ·rw[show 0+(k:Int).toNat*34+0+(e:Int).toNat*1=k*34+e from by simp,List.set_append_left _ _ (by rw[l9];omega)];rw[O7 _ k e _ (λc=>{c with p:=Nand.xorAt c.p e (UInt8.ofNat (xx % 256).toNat)}) cl hcl (by omega) ?_];rw[b0s,a4W hp32,a4W (by simp[Nand.xorAt,hp32]),List.set_append_left _ _ (by simpa[hp32]using he32)];congr 1;exact(List.map_set (f:=bv)).symm
    refine J.pq (.of [0,4,8,13,16,20,25,28,32,39]) [7,8,9] [1,2,3,4,5,6,7] λ_ _=>?_;refine J.s1 8 (q9 ((N.blk i j).cells.modify k λc=>{c with p:=Nand.xorAt c.p e (UInt8.ofNat (xx % 256).toNat),turned:=true})++r) ?_ ?_ ?_
    ·rw[List.length_append,l9,List.length_modify];show 0+(k:Int).toNat*34+33<_;simp only[Int.toNat_natCast];omega
    ·rw[show 0+(k:Int).toNat*34+33=k*34+33 from by simp,List.set_append_left _ _ (by rw[l9,List.length_modify];omega)];rw[O7 _ k 33 _ (λc=>{c with turned:=true}) _ (by rw[List.getElem?_modify_eq,hcl];rfl) (by omega) rfl,List.modify_modify_eq];rfl
    refine J.closeOwn (e:=178) (size:=34) (n:=(N.blk i j).cells.length) (cap:=c2) (xs:=q9 ((N.blk i j).cells.modify k λc=>{c with p:=Nand.xorAt c.p e (UInt8.ofNat (xx % 256).toNat),turned:=true})) 8 rfl rfl (by rw[l9,List.length_modify]) q2 q3 (by rw[List.length_append,l9,List.length_modify];rw[l9]at q4;exact q4) (by rw[List.take_left' (by rw[l9,List.length_modify])]) rfl ?_;rw[show(N.blk i j).cells.length=((N.blk i j).cells.modify k λc=>{c with p:=Nand.xorAt c.p e (UInt8.ofNat (xx % 256).toNat),turned:=true}).length from by rw[List.length_modify]];refine J.q λ_=>?_;refine J.closeN p N (N.setCell i j k λc=>{c with p:=Nand.xorAt c.p e (UInt8.ofNat (xx % 256).toNat),turned:=true}) Y i j hj ({N.blk i j with cells:=(N.blk i j).cells.modify k λc=>{c with p:=Nand.xorAt c.p e (UInt8.ofNat (xx % 256).toNat),turned:=true}}) (some g,c2) [1,2,3,4,5,7,8] rfl rfl rfl rfl (rfl) rfl ?_;refine J.qr [1] λ_=>?_;rw[a2f h,hpa];simp only[Bool.or_eq_false_iff,Bool.true_and]at h7;simp only[Bool.true_and,Bool.not_eq_true']at h8;rw[if_neg (by omega)];simp only[h7.2,h8,Bool.false_eq_true,if_false];exact⟨trivial,rfl⟩
   ·refine J.closeOwn (e:=178) (size:=34) (n:=(N.blk i j).cells.length) (cap:=c2) (xs:=q9 (N.blk i j).cells) 8 rfl rfl q1 q2 q3 (by rw[List.length_append];exact q4) (by rw[List.take_left' q1]) rfl ?_;refine J.q λ_=>?_;refine J.closeN p N (N) Y i j hj (N.blk i j) (some g,c2) [1,2,3,4,5,7,8] rfl rfl rfl rfl (B5 _ _ _) rfl ?_;refine J.qr [1] λ_=>?_;rw[a2f h,hpa];simp only[Bool.or_eq_false_iff,Bool.true_and,decide_eq_false_iff_not]at h7;simp only[Bool.true_and,Bool.not_eq_false']at h8;rw[if_neg (by omega)];simp only[h7.2,h8,Bool.false_eq_true,if_false,if_true];exact⟨trivial,rfl⟩
  ·rw[show decide ((k:Int)<((N.blk i j).cells.length:Int))=false from decide_eq_false (by omega)];refine J.pn 18 (.of [0,5,8,12,16,21,24,28,32,36,40,44,48,52,57,60,64,69,72,76,81,84,88]) [] [1,2,3,4,5,6,7,8] λ_ _=>?_;have hpa:N.pageAt i j k=none:=by simp only[Nand.pageAt,Int.toNat_natCast];exact List.getElem?_eq_none (by omega)
   refine J.vT (pp 0) rfl rfl (λhg a w he hC=>by simp[G.on]at hg) ?_;refine J.q λ_=>?_;refine J.vT (.bool false) rfl rfl (λhg a w he hC=>by simp[G.on]at hg) ?_;refine J.qd (λ_ h7=>?_) λ_ h7=>?_
   ·refine J.q λ_=>?_;refine J.closeN p N (N) Y i j hj (N.blk i j) _ [1,2,3,4,5,7,8] rfl rfl rfl rfl (B5 _ _ _) rfl ?_;refine J.qr [1] λ_=>?_;rw[a1G h hpa (b:=true) (by simpa using h7)];exact⟨rfl,rfl⟩
   refine J.pn 9 (.of [0,4,8,12,16,21,24,28,33,36,40,45,48,52]) [] [1,2,3,4,5,6,7,8] λ_ _=>?_;refine J.vT (pp 0) rfl rfl (λhg a w he hC=>by simp[G.on]at hg) ?_;refine J.q λ_=>?_;refine J.vT (.bool false) rfl rfl (λhg a w he hC=>by simp[G.on]at hg) ?_;refine J.qF λ_=>?_;refine J.q λ_=>?_;refine J.closeN p N (N) Y i j hj (N.blk i j) _ [1,2,3,4,5,7,8] rfl rfl rfl rfl (B5 _ _ _) rfl ?_;refine J.qr [1] λ_=>?_;rw[a1G h hpa (b:=false) (by simpa using h7)];exact⟨rfl,rfl⟩
 simp only[beq_eq_false_iff_ne,ne_eq]at h6;refine J.q λ_=>?_;refine J.closeN p N (N) Y i j hj (N.blk i j) _ [1,2,3,4,5,7,8] rfl rfl rfl rfl (B5 _ _ _) rfl ?_;refine J.qr [1] λ_=>?_;rw[b2H h1 h2 h3 h4 h6];exact⟨rfl,rfl⟩
def B0:NBlock:=⟨[],0,false,false⟩
def b6b (d b p:Nat) (x:Nat×Nat×Nat×Nat):List Value:=
 [iI d,iI b,iI p, .map (some x.2.1),pp x.2.2.1, .slice (some ⟨x.2.2.2,0,none⟩) d d, .bool false,iI 0,iI 0, .bool false,iI 0,iI 0]
theorem a4S {k:A3} {v:Value}:∀{l:List (A3×Value)},(∀x∈l,x.1≠k)->L5 l k v=l++[(k,v)]
 | [],_=>rfl
 | x::l,h=>by
  have h1:=h x (by simp);simp only[L5,if_neg (Ne.symm h1),a4S (l:=l) (λy hy=>h y (by simp[hy])),List.cons_append]
def upd (bp:Nat->Nat) (n v:Nat):Nat->Nat:=λk=>if k=n then v else bp k
theorem b0k (nb n:Nat) (bp:Nat->Nat) (v:Nat):X7 nb (n+1) (upd bp n v)=X7 nb n bp++[((((n/nb:Nat):Int),((n % nb:Nat):Int),0),pp v)]:=by
 unfold X7;rw[List.range_succ,List.map_append];congr 1
 ·apply List.map_congr_left;intro k hk;have:k≠n:=by have:=List.mem_range.1 hk;omega
  simp[upd,this]
 ·simp[upd]
theorem a3z (nb n:Nat) (bp:Nat->Nat) (v:Nat):H9 nb (n+1) (upd bp n v) (λ_ _=>B0)=H9 nb n bp (λ_ _=>B0)++[a3T v B0]:=by
 unfold H9;rw[List.range_succ,List.map_append];congr 1
 ·apply List.map_congr_left;intro k hk;have:k≠n:=by have:=List.mem_range.1 hk;omega
  simp[upd,this]
 ·simp[upd]
theorem a4R {nb j:Nat} (i:Nat) (hj:j<nb) (bp:Nat->Nat) (v:Nat):L5 (X7 nb (i*nb+j) bp) ((i:Int),(j:Int),0) (pp v)=X7 nb (i*nb+j+1) (upd bp (i*nb+j) v):=by
 rw[b0k,(D9 hj).1,(D9 hj).2,a4S];intro x hx;simp only[X7,List.mem_map,List.mem_range]at hx;obtain⟨k,hk,rfl⟩:=hx;intro e;simp only[Prod.mk.injEq,Int.natCast_inj,and_true]at e;have h1:=Nat.div_add_mod k nb;rw[e.1,e.2,Nat.mul_comm]at h1;omega
theorem a7f {BL:List Atom} {v:Nat} {h:Hl} (s:Sep [.hp (HP.of BL), .pt v 118 [.slice none 0 0,iI 0, .bool false, .bool false]] h):Sep [.hp (HP.of (BL++[a3T v B0]))] h:=by
 have s1:Sep [.hp (HP.of BL),a3T v B0] h:=s.turn1 [1] rfl (As:=[a3T v B0]) (λh' s'=>Sep.one ⟨(none,0),by
  refine⟨λ_=>0,λi A hA=>?_⟩
  match i,hA with
  | 0,hA=>simp at hA;subst hA;exact Atom.up (A:= .pt v 118 [.slice none 0 0,iI 0, .bool false, .bool false]) (λb o hb=>res_some.2 ⟨rfl,hb⟩) (s'.get (i:=0) rfl)
  | 1,hA=>simp at hA;subst hA;exact⟨rfl,rfl,rfl⟩
  | k+2,hA=>simp at hA⟩)
 exact Sep.hpOf.2 s1.flat
theorem a2P (d b p:Nat) (hg:t6 d b p=true):FP 34 [.agg #[iI d,iI b,iI p]] [] (λv As=>∃q,v=pp q/\As=[i5 q (Nand.new d b p)]):=by
 have hbd:(3<=d/\d<=6)/\(8<=b/\b<=16)/\(2<=p/\p<=8):=by simp[t6]at hg;omega
 refine FE [0] Tryz.func34 λX F hX=>?_;refine J.q λg1=>?_;refine J.cb (a1H d b p) [] ?_;refine cpq ⟨_,rfl,trivial,?_⟩;rw[hg];refine J.qF λ_=>?_;refine J.p (.take false 0 (.take true 3 (.take false 4 (.alt false 1 ((.alt false 2 ((.of [22,24,30,32])) (.alt false 5 ((.of [10,24,30,32])) .non))) (.alt false 2 ((.alt false 1 ((.of [22,24,30,32])) (.alt false 5 ((.of [6,24,30,32])) .non))) (.alt false 5 ((.alt false 1 ((.of [10,24,30,32])) (.alt false 2 ((.of [6,24,30,32])) .non))) .non)))))) [8] [1] λ_=>?_;refine J.join (α:=Nat×Nat×Nat×Nat) (λx=>[⟨3,pp x.1,3, .tt⟩,⟨1,pp (g1 0),2, .tt⟩]) (λx=>[.hp F, .pt (g1 0) 23 [iI d,iI b,iI p], .pt x.1 94 (b6b d b p x), .ob x.2.1 (.map #[] 0),L9 x.2.2.1 [], .pt x.2.2.2 4 (List.replicate d (.bool false))]) (λhj=>?_) (λx=>?_)
 ·refine J.qn 3 λ_=>?_;refine J.alts ?_ (J.alts ?_ ?_)
  ·skip
   refine J.qn 1 λmm=>?_;refine J.alts ?_ ?_
   ·skip
    refine J.qc (a6j) [] λ_=>?_;rintro v As ⟨q,rfl,rfl⟩;refine⟨_,rfl,⟨rfl,trivial⟩,?_⟩;refine J.makeSlice hX tk 5 rfl rfl rfl rfl rfl rfl rfl rfl rfl rfl ?_ ?_ (λ_=>rfl) (λ_=>rfl) λdd=>⟨⟨rfl,trivial⟩,?_⟩
    ·simp only[maxLen];omega
    ·omega
    refine J.qn 4 λnn=>?_;exact J.goto [0,1,5,2,3,4] (hj (nn 0,mm 0,q,dd)) ⟨rfl,rfl,trivial⟩ rfl rfl
   ·skip
    refine J.makeSlice hX tk 4 rfl rfl rfl rfl rfl rfl rfl rfl rfl rfl ?_ ?_ (λ_=>rfl) (λ_=>rfl) λdd=>⟨⟨rfl,trivial⟩,?_⟩
    ·simp only[maxLen];omega
    ·omega
    refine J.qc (a6j) [] λ_=>?_;rintro v As ⟨q,rfl,rfl⟩;refine⟨_,rfl,⟨rfl,trivial⟩,?_⟩;refine J.qn 4 λnn=>?_;exact J.goto [0,1,5,2,4,3] (hj (nn 0,mm 0,q,dd)) ⟨rfl,rfl,trivial⟩ rfl rfl
  ·skip
   refine J.qc (a6j) [] λ_=>?_;rintro v As ⟨q,rfl,rfl⟩;refine⟨_,rfl,⟨rfl,trivial⟩,?_⟩;refine J.alts ?_ ?_
   ·skip
    refine J.qn 1 λmm=>?_;refine J.makeSlice hX tk 5 rfl rfl rfl rfl rfl rfl rfl rfl rfl rfl ?_ ?_ (λ_=>rfl) (λ_=>rfl) λdd=>⟨⟨rfl,trivial⟩,?_⟩
    ·simp only[maxLen];omega
    ·omega
    refine J.qn 4 λnn=>?_;exact J.goto [0,1,5,3,2,4] (hj (nn 0,mm 0,q,dd)) ⟨rfl,rfl,trivial⟩ rfl rfl
   ·skip
    refine J.makeSlice hX tk 4 rfl rfl rfl rfl rfl rfl rfl rfl rfl rfl ?_ ?_ (λ_=>rfl) (λ_=>rfl) λdd=>⟨⟨rfl,trivial⟩,?_⟩
    ·simp only[maxLen];omega
    ·omega
    refine J.qn 1 λmm=>?_;refine J.qn 4 λnn=>?_;exact J.goto [0,1,5,4,2,3] (hj (nn 0,mm 0,q,dd)) ⟨rfl,rfl,trivial⟩ rfl rfl
  ·skip
   refine J.makeSlice hX tk 3 rfl rfl rfl rfl rfl rfl rfl rfl rfl rfl ?_ ?_ (λ_=>rfl) (λ_=>rfl) λdd=>⟨⟨rfl,trivial⟩,?_⟩
   ·simp only[maxLen];omega
   ·omega
   refine J.alts ?_ ?_
   ·skip
    refine J.qn 1 λmm=>?_;refine J.qc (a6j) [] λ_=>?_;rintro v As ⟨q,rfl,rfl⟩;refine⟨_,rfl,⟨rfl,trivial⟩,?_⟩;refine J.qn 4 λnn=>?_;exact J.goto [0,1,5,3,4,2] (hj (nn 0,mm 0,q,dd)) ⟨rfl,rfl,trivial⟩ rfl rfl
   ·skip
    refine J.qc (a6j) [] λ_=>?_;rintro v As ⟨q,rfl,rfl⟩;refine⟨_,rfl,⟨rfl,trivial⟩,?_⟩;refine J.qn 1 λmm=>?_;refine J.qn 4 λnn=>?_;exact J.goto [0,1,5,4,3,2] (hj (nn 0,mm 0,q,dd)) ⟨rfl,rfl,trivial⟩ rfl rfl
 obtain⟨q0,r,q,dd⟩:=x;refine J.turn1 [3] rfl (As:=[A8 r a3v (X7 b (0*b) λ_=>0), .hp (HP.of (H9 b (0*b) (λ_=>0) λ_ _=>B0))]) (λh s=>?_) rfl ?_
 ·rw[Nat.zero_mul];refine⟨λ_=>0,λi A hA=>?_⟩
  match i,hA with
  | 0,hA=>simp at hA;subst hA;exact⟨#[],0,res_some.2 ⟨rfl,s.get (i:=0) rfl⟩,rfl,by simp,by simp⟩
  | 1,hA=>simp at hA;subst hA;exact Sep.nil _
  | k+2,hA=>simp at hA
 refine J.q λ_=>?_;refine J.l (α:=(Nat×(Nat->Nat))) (λx=>x.1<=d) (λx=>[si 19 x.1,si 18 d,⟨3,pp q0,3, .tt⟩,⟨1,pp (g1 0),2, .tt⟩]) [3,6] (λx=>[A8 r a3v (X7 b (x.1*b) x.2), .hp (HP.of (H9 b (x.1*b) x.2 λ_ _=>B0))]) (λx=>d-x.1) ((0,λ_=>0)) (Nat.zero_le _) λx hI=>?_;obtain⟨i,bp⟩:=x;dsimp only at hI ⊢;refine J.qd (λ_ h1=>?_) λ_ h1=>?_
 ·simp only[decide_eq_true_eq,Int.ofNat_lt]at h1;refine J.q λ_=>?_;refine J.l (α:=(Nat×(Nat->Nat))) (λy=>y.1<=b) (λy=>[si 24 y.1,si 23 b,si 4 i,si 19 i,si 18 d,⟨3,pp q0,3, .tt⟩,⟨1,pp (g1 0),2, .tt⟩]) [3,6] (λy=>[A8 r a3v (X7 b (i*b+y.1) y.2), .hp (HP.of (H9 b (i*b+y.1) y.2 λ_ _=>B0))]) (λy=>b-y.1) ((0,bp)) (Nat.zero_le _) λy hI=>?_;obtain⟨j,bp'⟩:=y;dsimp only at hI ⊢;refine J.qd (λ_ h2=>?_) λ_ h2=>?_
  ·simp only[decide_eq_true_eq,Int.ofNat_lt]at h2;refine J.pq (.take true 0 (.take true 1 (.take true 2 (.take false 3 (.take true 4 (.take true 5 (.take true 7 (.alt false 6 ((.of [34,39])) (.alt false 8 ((.of [26,39])) .non))))))))) [9] [1,2] λ_ _=>?_;refine J.alts ?_ ?_
   ·refine J.qp (R2 i j) [] λ_=>?_;refine J.q λbb=>?_;refine J.mapUpdate hX I6 V0 ((i:Int),(j:Int),0) 3 rfl rfl rfl rfl rfl rfl rfl rfl rfl rfl rfl rfl (λ_=>rfl) (by rw[a4R i h2];rfl) ⟨trivial,?_⟩;refine J.turn1 [6,7] rfl (As:=[.hp (HP.of (H9 b (i*b+j+1) (upd bp' (i*b+j) (bb 0)) λ_ _=>B0))]) (λh s=>by rw[a3z];exact a7f s) rfl ?_;refine J.q λ_=>?_;refine J.n ((j+1,upd bp' (i*b+j) (bb 0))) (by dsimp only;omega) (by dsimp only;omega) [0,1,2,3,4,5,6]
   ·refine J.q λbb=>?_;refine J.cb (R2 i j) [] ?_;refine cpq ⟨_,rfl,⟨rfl,rfl,trivial⟩,?_⟩;refine J.mapUpdate hX I6 V0 ((i:Int),(j:Int),0) 3 rfl rfl rfl rfl rfl rfl rfl rfl rfl rfl rfl rfl (λ_=>rfl) (by rw[a4R i h2];rfl) ⟨trivial,?_⟩;refine J.turn1 [6,7] rfl (As:=[.hp (HP.of (H9 b (i*b+j+1) (upd bp' (i*b+j) (bb 0)) λ_ _=>B0))]) (λh s=>by rw[a3z];exact a7f s) rfl ?_;refine J.q λ_=>?_;refine J.n ((j+1,upd bp' (i*b+j) (bb 0))) (by dsimp only;omega) (by dsimp only;omega) [0,1,2,3,4,5,6]
  ·simp only[decide_eq_false_iff_not,Int.ofNat_lt]at h2;obtain rfl:j=b:=by omega
   rw[show i*j+j=(i+1)*j from(Nat.succ_mul i j).symm];refine J.q λ_=>?_;refine J.n ((i+1,bp')) (by dsimp only;omega) (by dsimp only;omega) [0,1,2,3,4,5,6]
 ·simp only[decide_eq_false_iff_not,Int.ofNat_lt]at h1;obtain rfl:i=d:=by omega
  refine J.close (f:=H2 q0 (Nand.new i b p)) ⟨r,q,dd,bp⟩ [2,3,4,5,6] rfl (by simp only[H2,Nand.new,List.map_replicate];rfl) rfl ?_;refine J.qr [2] λ_=>?_;exact⟨q0,rfl,rfl⟩
def B4 (x y:Int):Int:=if x<y then-1 else if x>y then 1 else 0
theorem a5O (x:Int):FP 145 [iI x] [] (λv As=>v= .bool false/\As=[]):=by
 refine FE [] Tryz.func145 λX F hX=>?_;refine J.qr [] λ_=>?_;exact⟨by simp,rfl⟩
theorem J3 (x y:Int):FP 94 [iI x,iI y] [] (λv As=>v=iI (B4 x y)/\As=[]):=by
 refine FE [] Tryz.func94 λX F hX=>?_;refine J.qp (a5O x) [] λ_=>?_;refine J.qp (a5O y) [] λ_=>?_;refine J.qF λ_=>?_;refine J.qF λ_=>?_;refine J.qd (λ_ h1=>?_) λ_ h1=>?_
 ·refine J.qr [] λ_=>?_;simp only[decide_eq_true_eq]at h1;exact⟨by simp[B4,h1],rfl⟩
 simp only[decide_eq_false_iff_not]at h1;refine J.qd (λ_ h2=>?_) λ_ h2=>?_
 ·refine J.qr [] λ_=>?_;simp only[decide_eq_true_eq]at h2;exact⟨by rw[B4,if_neg h1,if_pos h2],rfl⟩
 refine J.qr [] λ_=>?_;simp only[decide_eq_false_iff_not]at h2;exact⟨by rw[B4,if_neg h1,if_neg h2],rfl⟩
def orI (l:List Int):Int:=match l with
 | []=>0
 | x::r=>if x≠0 then x else orI r
theorem b6O (b:Nat) (x y z:Int):FP 189 [.slice (some ⟨b,0,none⟩) 3 3] [.pt b 3 [iI x,iI y,iI z]] (λv As=>v=iI (orI [x,y,z])/\As=[.pt b 3 [iI x,iI y,iI z]]):=by
 refine FE [2] Tryz.func189 λX F hX=>?_;refine J.q λ_=>?_;refine J.l (α:=Nat) (λk=>k<=3/\orI ([x,y,z].drop k)=orI [x,y,z]) (λk=>[si 8 k,si 7 3,⟨6, .slice (some ⟨b,0,none⟩) 3 3,2, .tt⟩,si 3 0]) [] (λk=>[]) (λk=>3-k) (0) (⟨by omega,rfl⟩) λk hI=>?_;refine J.qd (λ_ h1=>?_) λ_ h1=>?_
 ·simp only[decide_eq_true_eq]at h1;obtain⟨v,hv⟩:∃v,([x,y,z]:List Int)[k]? =some v:=⟨_,List.getElem?_eq_getElem (by simp;omega)⟩;have hd:([x,y,z]:List Int).drop k=v::([x,y,z]:List Int).drop (k+1):=by
   obtain⟨h2,h3⟩:=List.getElem?_eq_some_iff.1 hv;rw[List.drop_eq_getElem_cons h2,h3]
  refine J.q λ_=>?_;refine J.v (iI v) rfl rfl (λhg a w he hs=>?_) ?_
  ·exact j3 tk rfl rfl he rfl rfl rfl (hs.get (i:=1) rfl) (by
    rw[show 0+(k:Int).toNat*1=k from by omega,show([iI x,iI y,iI z]:List Value)=([x,y,z]:List Int).map (.int .i64)from rfl,List.getElem?_map,hv];rfl)
  refine J.qd (λ_ h2=>?_) λ_ h2=>?_
  ·simp only[bne_iff_ne,ne_eq]at h2;refine J.qr [1] λ_=>?_;refine⟨?_,rfl⟩;rw[<- hI.2,hd];simp[orI,h2]
  ·simp only[bne_eq_false_iff_eq]at h2;refine J.q λ_=>?_;refine J.nx (k+1) (⟨by omega,by rw[<- hI.2,hd,orI,if_neg (by simp[h2])]⟩) (by omega) (λ_ s=>s)
 ·simp only[decide_eq_false_iff_not]at h1;refine J.qr [1] λ_=>?_;refine⟨?_,rfl⟩;rw[<- hI.2,List.drop_of_length_le (by simp;omega)];rfl
abbrev L6 (x:A3):Value:= .agg #[iI x.1,iI x.2.1,iI x.2.2]
def a5p (x y:A3):Int:=orI [B4 x.1 y.1,B4 x.2.1 y.2.1,B4 x.2.2 y.2.2]
theorem a8j (x y:A3):FP 269 [L6 x,L6 y] [] (λv As=>v=iI (a5p x y)/\As=[]):=by
 refine FE [0,0] Tryz.func269 λX F hX=>?_;refine J.p (.of [0,5,8,13,20,25,28,33,40,45,48,53,18,38,58,62,66,68]) [17] [1,2] λ_=>?_;refine J.qp (J3 x.1 y.1) [] λ_=>?_;refine J.qp (J3 x.2.1 y.2.1) [] λ_=>?_;refine J.qp (J3 x.2.2 y.2.2) [] λ_=>?_;refine J.q λbb=>?_;refine J.cb (b6O (bb 0) (B4 x.1 y.1) (B4 x.2.1 y.2.1) (B4 x.2.2 y.2.2)) [3] ?_;refine cpq ⟨_,rfl,⟨rfl,rfl,trivial⟩,?_⟩;exact J.qx []
def d3:A3:=(0,0,0)
def j6 (l:List A3):List Value:=l.flatMap λx=>[iI x.1,iI x.2.1,iI x.2.2]
theorem s8 (l:List A3):(j6 l).length=l.length*3:=by
 induction l with
 | nil=>rfl
 | cons x l ih=>simp only[j6,List.flatMap_cons,List.length_append,List.length_cons]at ih ⊢;rw[ih];simp;omega
theorem D5:∀(l:List A3) (r:List Value) (k:Nat) (x:A3),l[k]? =some x->((j6 l++r).drop (k*3)).take 3=[iI x.1,iI x.2.1,iI x.2.2]
 | [],_,_,_,h=>by simp at h
 | y::l,r,0,x,h=>by simp at h;subst h;simp[j6]
 | y::l,r,k+1,x,h=>by
  have:=D5 l r k x (by simpa using h);rw[show(k+1)*3=3+k*3 from by omega,<- List.drop_drop];simpa[j6]using this
theorem J2:∀(l:List A3) (r:List Value) (k:Nat) (x:A3),k<l.length->(j6 l++r).take (k*3)++[iI x.1,iI x.2.1,iI x.2.2]++(j6 l++r).drop (k*3+3)=j6 (l.set k x)++r
 | [],_,_,_,h=>by simp at h
 | y::l,r,0,x,h=>by simp[j6]
 | y::l,r,k+1,x,h=>by
  have:=J2 l r k x (by simpa using h);rw[show(k+1)*3=3+k*3 from by omega];simp only[j6,List.flatMap_cons,List.set_cons_succ,List.append_assoc,List.cons_append,List.nil_append]at this ⊢;rw[show 3+k*3=k*3+1+1+1 from by omega,show k*3+1+1+1+3=(k*3+3)+1+1+1 from by omega];simp only[List.take_succ_cons,List.drop_succ_cons,List.cons_append,this]
def swp (l:List A3) (j:Nat):List A3:=(l.set j (l.getD (j-1) d3)).set (j-1) (l.getD j d3)
def a7p (f:A3->A3->Int):Nat->List A3->List A3
 | 0,l=>l
 | j+1,l=>if f (l.getD (j+1) d3) (l.getD j d3)<0 then a7p f j (swp l (j+1))else l
def J0 (f:A3->A3->Int) (l:List A3):Nat->List A3
 | 0=>l
 | k+1=>a7p f (k+1) (J0 f l k)
def R6 (f:A3->A3->Int) (l:List A3):List A3:=J0 f l (l.length-1)
theorem a1X (l:List A3) (j:Nat):(swp l j).length=l.length:=by simp[swp]
theorem b0W (l:List A3) (j:Nat) (h:j+1<l.length):(swp l (j+1)).Perm l:=by
 induction l generalizing j with
 | nil=>simp at h
 | cons x l ih=>
  cases j with
  | zero=>
   cases l with
   | nil=>simp at h
   | cons y l=>simp only[swp,List.set_cons_succ,List.set_cons_zero,Nat.add_sub_cancel,Nat.zero_add,List.getD_cons_zero,List.getD_cons_succ];exact List.Perm.swap _ _ _
  | succ j=>
   have:=ih j (by simpa using h);simp only[swp,Nat.add_sub_cancel,List.set_cons_succ,List.getD_cons_succ]at this ⊢;exact this.cons x
theorem a0W (f:A3->A3->Int):∀(j:Nat) (l:List A3),j<l.length->(a7p f j l).Perm l
 | 0,l,_=>List.Perm.refl _
 | j+1,l,h=>by
  unfold a7p;split
  ·exact(a0W f j _ (by rw[a1X];omega)).trans (b0W l j h)
  ·exact List.Perm.refl _
theorem a1z (f:A3->A3->Int) (l:List A3):∀k,k<l.length->(J0 f l k).Perm l/\(J0 f l k).length=l.length
 | 0,_=>⟨List.Perm.refl _,rfl⟩
 | k+1,h=>by
  obtain⟨h1,h2⟩:=a1z f l k (by omega);exact⟨(a0W f (k+1) _ (by omega)).trans h1,by rw[J0,(a0W f (k+1) _ (by omega)).length_eq,h2]⟩
theorem G9 (f:A3->A3->Int) (l:List A3):(R6 f l).Perm l:=by
 cases l with
 | nil=>exact List.Perm.refl _
 | cons x l=>exact(a1z f (x::l) _ (by simp)).1
theorem a6g (f:A3->A3->Int):∀(j:Nat) (l:List A3),(a7p f j l).length=l.length
  | 0,l=>rfl
  | j + 1, l => by unfold a7p; split
                   · rw[a6g f j,a1X]
                   · rfl
theorem a3f (f:A3->A3->Int) (l:List A3):∀k,(J0 f l k).length=l.length
 | 0=>rfl
 | k+1=>by rw[J0,a6g,a3f f l k]
def fnV (c:Nat):Value:= .func (.func c) #[] #[]
theorem b5E (c:Nat) (f:A3->A3->Int) (hcal:n5 Tryz.prog c=true) (hf:∀x y,Fn Tryz.prog c [L6 x,L6 y] [] (Ps (iI (f x y)) []))
  (g n cap:Nat) (l:List A3) (hl:l.length=n) (hn:n<=4611686018427387904) (r:List Value):FP 276 [.slice (some ⟨g,0,none⟩) n cap,iI 0,iI n,fnV c] [.pt g 33 (j6 l++r)]
  (Ps (.tuple #[]) [.pt g 33 (j6 (R6 f l)++r)]):=by
 refine FE [2,0,0,0] Tryz.func276 λX F hX=>?_;refine J.q λ_=>?_;refine J.l (α:=Nat) (λi=>1<=i/\i<=max 1 n) (λi=>[si 8 i,⟨0, .slice (some ⟨g,0,none⟩) n cap,2, .tt⟩,si 1 0,si 2 n,⟨3,fnV c,0, .tt⟩]) [1] (λi=>[.pt g 33 (j6 (J0 f l (i-1))++r)]) (λi=>n-i) (1) (⟨by omega,by omega⟩) λi hI=>?_;refine J.qd (λ_ h1=>?_) λ_ h1=>?_
 ·simp only[decide_eq_true_eq,Int.ofNat_lt]at h1;refine J.q λ_=>?_;refine J.l (α:=(Nat×List A3)) (λy=>y.1<=i/\y.2.length=n/\a7p f y.1 y.2=J0 f l i) (λy=>[si 9 y.1,si 8 i,⟨0, .slice (some ⟨g,0,none⟩) n cap,2, .tt⟩,si 1 0,si 2 n,⟨3,fnV c,0, .tt⟩]) [1] (λy=>[.pt g 33 (j6 y.2++r)]) (λy=>y.1) ((i,J0 f l (i-1))) (⟨Nat.le_refl _,by rw[a3f,hl],by obtain⟨k,rfl⟩:∃k,i=k+1:=⟨i-1,by omega⟩;rfl⟩) λy hI=>?_;obtain⟨j,m⟩:=y;dsimp only at hI ⊢;have hget:∀e,e<n->m[e]? =some (m.getD e d3):=λe he=>by rw[List.getD_eq_getElem?_getD,List.getElem?_eq_getElem (by omega),Option.getD_some]
  rcases Nat.eq_zero_or_pos j with h2 | h2
  ·subst h2;refine J.pn 4 (.of [0,4,8,12,16,20,24,28,33,36,40,44,48,53,58,60,64]) [] [1] λ_ _=>?_;rw[show decide (((0:Nat):Int)>0)=false from rfl];refine J.q λ_=>?_;refine J.vT (L6 d3) rfl rfl (λhg a w he hC=>by simp[G.on]at hg) ?_;refine J.q λ_=>?_;refine J.vT (L6 d3) rfl rfl (λhg a w he hC=>by simp[G.on]at hg) ?_;refine J.q λ_=>?_;refine J.gcase hX rfl rfl rfl ⟨rfl,trivial⟩ (λh=>by cases h) (λ_=>?_);refine J.vT (.bool false) rfl rfl (λhg a w he hC=>by simp[G.on]at hg) ?_;refine J.qF λ_=>?_;have hm:m=J0 f l (i+1-1):=hI.2.2;rw[hm];refine J.q λ_=>?_;refine J.n (i+1) (⟨by omega,by omega⟩) (by omega) [0,1]
  ·obtain⟨j,rfl⟩:∃k,j=k+1:=⟨j-1,by omega⟩;refine J.pn 4 (.of [0,4,8,12,16,20,24,28,33,36,40,44,48,53,58,60,64]) [] [1] λ_ _=>?_;rw[show decide (((j+1:Nat):Int)>0)=true from decide_eq_true (by omega)];refine J.q λ_=>?_;refine J.vT (L6 (m.getD (j+1) d3)) rfl rfl (λhg a w he hC=>?_) ?_
   ·exact j8 tk rfl rfl he hg rfl rfl (hC rfl _ (i7 (i:=1) rfl)) (by rw[show 0+((j+1:Nat):Int).toNat*3=(j+1)*3 from by omega];exact D5 m r _ _ (hget _ (by omega))) rfl
   refine J.q λ_=>?_;refine J.vT (L6 (m.getD j d3)) rfl rfl (λhg a w he hC=>?_) ?_
   ·exact j8 tk rfl rfl he hg rfl rfl (hC rfl _ (i7 (i:=1) rfl)) (by rw[show 0+(((j+1:Nat):Int)-1).toNat*3=j*3 from by omega];exact D5 m r _ _ (hget _ (by omega))) rfl
   refine J.q λ_=>?_;refine J.call hX hcal (hf (m.getD (j+1) d3) (m.getD j d3)) [] 0 rfl rfl rfl rfl (by(repeat' (first | exact Conj.nil | refine Conj.cons ?_ ?_ | omega | exact hq0 | (simpa using hq0) | (exactλh=>h) | exact rfl | (intro hq;have hq0:=hq;try simp only[Bool.and_eq_true,Bool.or_eq_true,decide_eq_true_eq,Bool.not_eq_true',decide_eq_false_iff_not]at hq) | (simp;done) | (simp;omega) | decide))) rfl rfl (λ_=>rfl) ?_;refine cpq ⟨_,rfl,⟨rfl,trivial⟩,?_⟩;refine J.qd (λ_ h3=>?_) λ_ h3=>?_
   ·simp only[Bool.true_and,decide_eq_true_eq]at h3;refine J.pq (.take true 0 (.take true 1 (.take true 2 (.take true 3 (.take true 4 (.take true 5 (.take true 6 (.take true 7 (.take true 8 (.take true 10 (.take true 11 (.take true 12 (.alt false 9 ((.of [54,56,62,64,71])) (.alt false 13 ((.of [38,56,62,64,71])) .non)))))))))))))) [16,17] [] λ_ _=>?_;refine J.alts ?_ ?_
    ·refine J.v (L6 (m.getD j d3)) rfl rfl (λhg a w he hs=>?_) ?_
     ·exact j8 tk rfl rfl he hg rfl rfl (hs.get (i:=1) rfl) (by rw[show 0+(((j+1:Nat):Int)-1).toNat*3=j*3 from by omega];exact D5 m r _ _ (hget _ (by omega))) rfl
     refine J.q λ_=>?_;refine J.v (L6 (m.getD (j+1) d3)) rfl rfl (λhg a w he hs=>?_) ?_
     ·exact j8 tk rfl rfl he hg rfl rfl (hs.get (i:=1) rfl) (by rw[show 0+((j+1:Nat):Int).toNat*3=(j+1)*3 from by omega];exact D5 m r _ _ (hget _ (by omega))) rfl
     refine J.q λ_=>?_;refine J.storeN hX tk 1 rfl rfl rfl rfl rfl rfl rfl rfl rfl rfl rfl rfl rfl ?_ (j6 (m.set (j+1) (m.getD j d3))++r) ?_ rfl (λ_=>rfl) ⟨trivial,?_⟩
     ·rw[List.length_append,s8];show 0+((j+1:Nat):Int).toNat*3+3<=_;omega
     ·rw[show 0+((j+1:Nat):Int).toNat*3=(j+1)*3 from by omega];exact J2 m r (j+1) _ (by omega)
     refine J.q λ_=>?_;refine J.storeN hX tk 1 rfl rfl rfl rfl rfl rfl rfl rfl rfl rfl rfl rfl rfl ?_ (j6 (swp m (j+1))++r) ?_ rfl (λ_=>rfl) ⟨trivial,?_⟩
     ·rw[List.length_append,s8,List.length_set];show 0+(((j+1:Nat):Int)-1).toNat*3+3<=_;omega
     ·rw[show 0+(((j+1:Nat):Int)-1).toNat*3=j*3 from by omega];exact J2 _ r j _ (by rw[List.length_set];omega)
     refine J.q λ_=>?_;rw[show((j+1:Nat):Int)-1=(j:Int)from by omega];refine J.q λ_=>?_;refine J.n ((j,swp m (j+1))) (⟨by dsimp only;omega,by rw[a1X];exact hI.2.1,by rw[<- hI.2.2];exact(if_pos h3).symm⟩) (by dsimp only;omega) [0,1]
    ·refine J.v (L6 (m.getD (j+1) d3)) rfl rfl (λhg a w he hs=>?_) ?_
     ·exact j8 tk rfl rfl he hg rfl rfl (hs.get (i:=1) rfl) (by rw[show 0+((j+1:Nat):Int).toNat*3=(j+1)*3 from by omega];exact D5 m r _ _ (hget _ (by omega))) rfl
     refine J.q λ_=>?_;refine J.v (L6 (m.getD j d3)) rfl rfl (λhg a w he hs=>?_) ?_
     ·exact j8 tk rfl rfl he hg rfl rfl (hs.get (i:=1) rfl) (by rw[show 0+(((j+1:Nat):Int)-1).toNat*3=j*3 from by omega];exact D5 m r _ _ (hget _ (by omega))) rfl
     refine J.q λ_=>?_;refine J.storeN hX tk 1 rfl rfl rfl rfl rfl rfl rfl rfl rfl rfl rfl rfl rfl ?_ (j6 (m.set (j+1) (m.getD j d3))++r) ?_ rfl (λ_=>rfl) ⟨trivial,?_⟩
     ·rw[List.length_append,s8];show 0+((j+1:Nat):Int).toNat*3+3<=_;omega
     ·rw[show 0+((j+1:Nat):Int).toNat*3=(j+1)*3 from by omega];exact J2 m r (j+1) _ (by omega)
     refine J.q λ_=>?_;refine J.storeN hX tk 1 rfl rfl rfl rfl rfl rfl rfl rfl rfl rfl rfl rfl rfl ?_ (j6 (swp m (j+1))++r) ?_ rfl (λ_=>rfl) ⟨trivial,?_⟩
     ·rw[List.length_append,s8,List.length_set];show 0+(((j+1:Nat):Int)-1).toNat*3+3<=_;omega
     ·rw[show 0+(((j+1:Nat):Int)-1).toNat*3=j*3 from by omega];exact J2 _ r j _ (by rw[List.length_set];omega)
     refine J.q λ_=>?_;rw[show((j+1:Nat):Int)-1=(j:Int)from by omega];refine J.q λ_=>?_;refine J.n ((j,swp m (j+1))) (⟨by dsimp only;omega,by rw[a1X];exact hI.2.1,by rw[<- hI.2.2];exact(if_pos h3).symm⟩) (by dsimp only;omega) [0,1]
   ·simp only[Bool.true_and,decide_eq_false_iff_not]at h3;have hm:m=J0 f l (i+1-1):=by rw[show i+1-1=i from rfl,<- hI.2.2];exact(if_neg h3).symm
    rw[hm];refine J.q λ_=>?_;refine J.n (i+1) (⟨by omega,by omega⟩) (by omega) [0,1]
 ·simp only[decide_eq_false_iff_not,Int.ofNat_lt]at h1;have hi:J0 f l (i-1)=R6 f l:=by
   rw[R6,hl,show i-1=n-1 from by omega]
  rw[hi];refine J.q λ_=>?_;refine J.f [1] ?_;exact⟨rfl,rfl⟩
def b1S (x:Nat):Nat:=([0,1,2,2,3,3,3,3,4,4,4,4,4]:List Nat).getD x 0
theorem b6I:Tryz.prog.underlying 9=some .string:=by kernel_rfl
theorem a5A {P:Program} {E:Env} {w:World} {n0:Nat} {a:Act} {o:Oper} {ty:TypeId} {s:ByteArray} {y:Operand} {k tg:Nat} {g:G} {ik:IntKind} {i:Int} {b:UInt8} (hop:o.op= .index ty (.const (.string s)) y) (hy:ev E y=some ⟨k, .int ik i,tg,g⟩) (he:EnvOK n0 E a) (hg:g.on=true) (hd:P.underlying ty=some .string)
  (h0:0<=i) (hb:s.data.toList[i.toNat]? =some b):(execOp a.eval o).run P w= .ok (.value (.int .u8 b.toNat)) w:=by
 have ey:=i6 he hy;simp only[Slot.val,hg]at ey;have h1:=run_index_string (P:=P) (w:=w) ty s ik i hd;have hlt:i.toNat<s.size:=(List.getElem?_eq_some_iff.1 hb).1;have hv:s[i.toNat]'hlt=b:=by
  have:=(List.getElem?_eq_some_iff.1 hb).2;rw[<- this];rfl
 rw[dif_pos ⟨h0,by omega⟩,hv]at h1;simp only[execOp,hop,ey,Sem.run_bind];have e1:a.eval (.const (.string s))= .string s:=rfl;rw[e1,h1];rfl
theorem b4a {x:Nat} (hx:x<=12):b1S x<=4:=by
 obtain rfl | rfl | rfl | rfl | rfl | rfl | rfl | rfl | rfl | rfl | rfl | rfl | rfl:x=0\/x=1\/x=2\/x=3\/x=4\/x=5\/x=6\/x=7\/x=8\/x=9\/x=10\/x=11\/x=12:=by omega
 all_goals decide
theorem b4D (x:Nat) (hx:x<=12):FP 220 [.int .u64 x] [] (λv As=>(∃k:Nat,k<=8/\v=iI k)/\As=[]):=by
 have h4:=b4a hx;refine FE [0] Tryz.func220 λX F hX=>?_;refine J.qd (λ_ h1=>?_) λ_ h1=>?_
 ·simp only[decide_eq_true_eq]at h1;omega
 refine J.qd (λ_ h2=>?_) λ_ h2=>?_
 ·simp only[decide_eq_true_eq]at h2;omega
 refine J.qd (λ_ h3=>?_) λ_ h3=>?_
 ·simp only[decide_eq_true_eq]at h3;omega
 refine J.q λ_=>?_;refine J.v (.int .u8 (UInt8.ofNat (b1S x)).toNat) rfl rfl (λhg a w he hs=>?_) ?_
 ·refine a5A rfl rfl he rfl b6I (by omega) ?_;obtain rfl | rfl | rfl | rfl | rfl | rfl | rfl | rfl | rfl | rfl | rfl | rfl | rfl:x=0\/x=1\/x=2\/x=3\/x=4\/x=5\/x=6\/x=7\/x=8\/x=9\/x=10\/x=11\/x=12:=by omega
  all_goals rfl
 have h5:(UInt8.ofNat (b1S x)).toNat=b1S x:=by rw[UInt8.toNat_ofNat'];omega
 rw[h5];refine J.qr [] λ_=>?_;exact⟨⟨b1S x,by omega,by simp⟩,rfl⟩
theorem b4U (x:Nat) (hx:x<=12):FP 177 [.int .u64 x] [] (λv As=>(∃k:Nat,k<=8/\v=iI k)/\As=[]):=by
 refine FE [0] Tryz.func177 λX F hX=>?_;refine J.qF λ_=>?_;refine J.qc (b4D x hx) [] λ_=>?_;rintro v As ⟨⟨k,hk,rfl⟩,rfl⟩;refine⟨_,rfl,trivial,?_⟩;refine J.qr [] λ_=>?_;exact⟨⟨k,hk,rfl⟩,rfl⟩
theorem b5p (c:Nat) (f:A3->A3->Int) (hcal:n5 Tryz.prog c=true) (hf:∀x y,Fn Tryz.prog c [L6 x,L6 y] [] (Ps (iI (f x y)) []))
  (g n cap:Nat) (l:List A3) (hl:l.length=n) (hn:n<=12) (r:List Value) (k:Nat):FP 273 [.slice (some ⟨g,0,none⟩) n cap,iI 0,iI n,iI k,fnV c] [.pt g 33 (j6 l++r)]
  (Ps (.tuple #[]) [.pt g 33 (j6 (R6 f l)++r)]):=by
 refine FE [2,0,0,0,0] Tryz.func273 λX F hX=>?_;refine J.q λ_=>?_;refine J.l (α:=Nat) (λy=>True) (λy=>[⟨0, .slice (some ⟨g,0,none⟩) n cap,2, .tt⟩,si 1 0,si 2 n,si 3 k,⟨4,fnV c,0, .tt⟩]) [1] (λy=>[.pt g 33 (j6 l++r)]) (λy=>0) (0) (trivial) λy hI=>?_;refine J.qd (λ_ h1=>?_) λ_ h1=>?_
 ·refine J.q λ_=>?_;rw[show(n:Int)-0=n from by omega]at*;refine J.qp (b5E c f hcal hf g n cap l hl (by omega) r) [1] λ_=>?_;exact J.qx [1]
 ·simp only[decide_eq_false_iff_not]at h1;omega
theorem b3L (c:Nat) (d:Value) (k:Nat):FP 273 [d,iI 0,iI 0,iI k,fnV c] [] (Ps (.tuple #[]) []):=by
 have h0:FP 276 [d,iI 0,iI 0,fnV c] [] (Ps (.tuple #[]) []):=by
  refine FE [0,0,0,0] Tryz.func276 λX F hX=>?_;refine J.q λ_=>?_;refine J.l (α:=Nat) (λy=>True) (λy=>[si 8 (0+1),sv 0 d,si 1 0,si 2 0,⟨3,fnV c,0, .tt⟩]) [] (λy=>[]) (λy=>0) (0) (trivial) λy hI=>?_;refine J.qd (λ_ h1=>?_) λ_ h1=>?_
  ·simp at h1
  ·refine J.q λ_=>?_;refine J.f [] ?_;exact⟨rfl,rfl⟩
 refine FE [0,0,0,0,0] Tryz.func273 λX F hX=>?_;refine J.q λ_=>?_;refine J.l (α:=Nat) (λy=>True) (λy=>[sv 0 d,si 1 0,si 2 0,si 3 k,⟨4,fnV c,0, .tt⟩]) [] (λy=>[]) (λy=>0) (0) (trivial) λy hI=>?_;refine J.qd (λ_ h1=>?_) λ_ h1=>?_
 ·refine J.qp (h0) [] λ_=>?_;exact J.qx []
 ·simp at h1
theorem a2x (c:Nat) (f:A3->A3->Int) (hcal:n5 Tryz.prog c=true) (hf:∀x y,Fn Tryz.prog c [L6 x,L6 y] [] (Ps (iI (f x y)) []))
  (a:Option Nat) (n cap:Nat) (l:List A3) (hl:l.length=n) (hn:n<=12):FP 268 [slv a n cap,fnV c] [c9 33 3 a n cap (j6 l)]
  (Ps (.tuple #[]) [c9 33 3 a n cap (j6 (R6 f l))]):=by
 refine FE [0,0] Tryz.func268 λX F hX=>?_;refine J.qc (b4U n hn) [] λ_=>?_;rintro v As ⟨⟨k,hk,rfl⟩,rfl⟩;refine⟨_,rfl,trivial,?_⟩;refine J.q λ_=>?_;cases a with
 | none=>
  refine J.know (λh' s=>(s.get (i:=1) rfl).2.1) λhn0=>?_;subst hn0;have:l=[]:=List.eq_nil_of_length_eq_zero hl;subst this;refine J.qp (b3L c (slv none 0 cap) k) [] λ_=>?_;refine J.q λ_=>?_;refine J.f [1] ?_;exact⟨rfl,rfl⟩
 | some g=>
  refine J.openOwn 1 rfl rfl (λ_=>rfl) λr q1 q2 q3 q4=>?_;refine J.qp (b5p c f hcal hf g n cap l hl hn r k) [1] λ_=>?_;refine J.closeOwn (e:=33) (size:=3) (n:=n) (cap:=cap) (xs:=j6 (R6 f l)) 1 rfl rfl (by rw[s8,(G9 f l).length_eq,hl]) q2 q3 (by rw[List.length_append,s8,(G9 f l).length_eq];rw[s8]at q4;exact q4) (by rw[List.take_left' (by rw[s8,(G9 f l).length_eq,hl])]) rfl ?_;refine J.q λ_=>?_;refine J.f [1] ?_;exact⟨rfl,rfl⟩
theorem W8:∀(n:Nat) (is:List Nat),is.Nodup->(∀i∈is,i<n)->is.length<=n
 | 0,is,_,h=>by
  cases is with
  | nil=>simp
  | cons x r=>have:=h x (by simp);omega
 | n+1,is,hn,h=>by
  have h1:=W8 n (is.erase n) (hn.erase n) (λi hi=>by
   rw[hn.mem_erase_iff]at hi;have:=h i hi.2;omega)
  rw[List.length_erase]at h1;split at h1<;>omega
def D6 (l:List A3) (is:List Nat):List A3:=is.map λi=>l.getD i d3
theorem a2I {l:List A3} {is:List Nat} (h:is.Perm (List.range l.length)):(D6 l is).Perm l:=by
 have h1:=h.map λi=>l.getD i d3;have h2:(List.range l.length).map (λi=>l.getD i d3)=l:=by
  apply List.ext_getElem?;intro k;rw[List.getElem?_map]
  by_cases hk:k<l.length
  ·rw[List.getElem?_range hk];simp[hk]
  ·rw[List.getElem?_eq_none (by simpa using hk),List.getElem?_eq_none (by simpa using hk)];rfl
 rwa [h2]at h1
theorem a7t {l:List A3} {is:List Nat} {j:Nat} {y:A3×Value} (hy:(C3 l)[j]? =some y):j6 (D6 l is)++[iI y.1.1,iI y.1.2.1,iI y.1.2.2]=j6 (D6 l (is++[j])):=by
 rw[C3,List.getElem?_map]at hy;cases h:l[j]? with
 | none=>rw[h]at hy;cases hy
 | some x=>
  rw[h]at hy;simp at hy;subst hy;simp[j6,D6,h]
theorem b6n (q:Nat) (l:List A3) (hl:l.length<=12):FP 252 [pp q] [L9 q l]
  (λv As=>∃a cap l',l'.Perm l/\v=slv a l'.length cap/\As=[L9 q l,c9 33 3 a l'.length cap (j6 l')]):=by
 refine FE [2] Tryz.func252 λX F hX=>?_;refine J.o (α:=Nat) 1 λmr=>?_;refine J.qF λ_=>?_;refine J.q λ_=>?_;refine J.rangeMap hX 2 b3o rfl rfl rfl rfl rfl rfl rfl (λ_=>rfl) (λ_=>rfl) λr=>⟨trivial,?_⟩;refine J.turn1 [] rfl (As:=[c9 33 3 none 0 0 (j6 (D6 l []))]) (λh s=>Sep.one ⟨rfl,rfl,rfl⟩) rfl ?_;refine J.q λ_=>?_;refine J.l (α:=(List Nat×Option Nat×Nat)) (λx=>True) (λx=>[sp 11 r,sv 3 (slv x.2.1 x.1.length x.2.2)]) [2,3] (λx=>[itA mr r a3v (C3 l) x.1,c9 33 3 x.2.1 x.1.length x.2.2 (j6 (D6 l x.1))]) (λx=>l.length-x.1.length) (([],none,0)) (trivial) λx hI=>?_;obtain⟨is,a,cap⟩:=x;dsimp only;refine J.q λ_=>?_;refine J.know (p:=is.Nodup/\∀i∈is,i<l.length) (λh s=>?_) λhk=>?_
 ·obtain⟨_,_,_,_,_,_,_,_,h1,h2,_⟩:=s.get (i:=2) rfl;exact⟨h1,λi hi=>by have:=h2 i hi;simpa[C3]using this⟩
 have hle:=W8 _ _ hk.1 hk.2;refine J.rangeNext hX 2 rfl rfl rfl rfl rfl rfl rfl (λ_=>rfl) (λ_=>rfl) (λhp=>⟨trivial,?_⟩) (λj y hj hy=>⟨trivial,?_⟩)
 ·rw[show(C3 l).length=l.length from by simp[C3]]at hp;refine J.qF λ_=>?_;refine J.qp (a2x 269 a5p (by kernel_rfl) a8j a is.length cap (D6 l is) (by simp[D6]) (by omega)) [3] λ_=>?_;refine J.turn1 [2] rfl (As:=[A8 mr a3v (C3 l)]) (λh s=>b2i s) rfl ?_;refine J.cl (λmr:Nat=>[.pt q 181 [.map (some mr)],A8 mr a3v (C3 l)]) mr [1,2] ?_;refine J.qr [1,3] λ_=>?_;have hlen:is.length=(R6 a5p (D6 l is)).length:=by rw[(G9 _ _).length_eq];simp[D6]
  refine⟨a,cap,R6 a5p (D6 l is),(G9 _ _).trans (a2I hp),?_,?_⟩
  ·rw[<- hlen]
  ·rw[<- hlen];rfl
 ·have hjl:j<l.length:=by have:=(List.getElem?_eq_some_iff.1 hy).1;simpa[C3]using this
  refine J.qT λ_=>?_;refine J.q λ_=>?_;have hlt:(is++[j]).length<=l.length:=W8 _ _ (by
   rw[List.nodup_append];exact⟨hk.1,by simp,λa ha b hb=>by simp at hb;subst hb;rintro rfl;exact hj ha⟩) (λi hi=>by
   rw[List.mem_append]at hi;rcases hi with hi | hi
   ·exact hk.2 i hi
   ·simp at hi;subst hi;exact hjl)
  rw[List.length_append,List.length_singleton]at hlt;refine J.rangeEntry hX 2 rfl rfl rfl rfl rfl rfl rfl hy rfl ⟨trivial,?_⟩;refine J.q λ_=>?_;refine J.append hX tk 3 5 0 rfl rfl rfl rfl rfl rfl rfl rfl rfl rfl rfl rfl rfl rfl rfl rfl ?_ ?_ (λ_=>rfl) λa' cap'=>⟨_,(congrArg (λz=>A4 _ 3 (c9 _ _ _ _ _ z)) (a7t hy)).trans rfl,trivial,?_⟩
  ·simp only[maxLen];omega
  ·omega
  refine J.q λ_=>?_;rw[show is.length+1=(is++[j]).length from by simp];refine J.q λ_=>?_;refine J.n ((is++[j],a',cap')) (trivial) (by dsimp only;rw[List.length_append,List.length_singleton];omega) [0,1,2,3]
end Go.Proofs.YtpohajhbfllbbaaGreat
