/- Helpers, proved here. No condition. -/
import Derived.Test.YtkdlnfdjjifedaaGreatD05
import Derived.Test.YtkdlnfdjjifedaaGreatD06
import Derived.Test.YtkdlnfdjjifedaaGreatD07
set_option maxRecDepth 20000
set_option linter.all false
namespace Go.Proofs.YtkdlnfdjjifedaaGreat
open Go Go.RowKit
theorem cellsV_set:∀(l:List NCell) (k i:Nat) (v:Value) (f:NCell->NCell) (c:NCell),l[k]? =some c->i<34->c.vals.set i v=(f c).vals->(cellsV l).set (k*34+i) v=cellsV (l.modify k f)
 | [],k,i,v,f,c,h,_,_=>by simp at h
 | x::l,0,i,v,f,c,h,hi,hv=>by
  simp at h;subst h;simp only[cellsV,List.flatMap_cons,List.modify_cons,Nat.zero_mul,Nat.zero_add,if_true];rw[List.set_append_left _ _ (by simpa[NCell.vals]using hi),hv]
 | x::l,k+1,i,v,f,c,h,hi,hv=>by
  have:=cellsV_set l k i v f c (by simpa using h) hi hv;simp only[cellsV,List.flatMap_cons,List.modify_cons]at this ⊢;rw[List.set_append_right _ _ (by simp[NCell.vals];omega),show(k+1)*34+i-x.vals.length=k*34+i from by simp[NCell.vals];omega,this];simp
theorem fault_1 {N:Nand} {x y z n xx:Int} (h:geoIn N.dies N.blocks N.pages x y z=true):N.fault 1 x y z n xx=(true,{N with plan:=addS N.plan (x,y,z)}):=by
 unfold Nand.fault;rw[if_neg (by simp[h]),if_pos rfl];rfl
theorem fault_2 {N:Nand} {x y z n xx:Int} (h:geoIn N.dies N.blocks N.pages x y z=true):N.fault 2 x y z n xx=(true,N.setBlk x.toNat y.toNat {N.blk x.toNat y.toNat with fails:=true}):=by
 unfold Nand.fault;rw[if_neg (by simp[h]),if_neg (by decide),if_pos rfl]
theorem fault_3 {N:Nand} {x y z n xx:Int} (h:geoIn N.dies N.blocks N.pages x y z=true):N.fault 3 x y z n xx=(true,N.setCell x y z λc=>{c with lost:=true}):=by
 unfold Nand.fault;rw[if_neg (by simp[h]),if_neg (by decide),if_neg (by decide),if_pos rfl]
theorem fault_4 {N:Nand} {x y z n xx:Int} (h:geoIn N.dies N.blocks N.pages x y z=true):N.fault 4 x y z n xx=(true,{N with dead:=N.dead.set x.toNat true}):=by
 unfold Nand.fault;rw[if_neg (by simp[h]),if_neg (by decide),if_neg (by decide),if_neg (by decide),if_pos rfl]
theorem fault_no {N:Nand} {k x y z n xx:Int} (h1:k≠1) (h2:k≠2) (h3:k≠3) (h4:k≠4) (h5:k≠5):N.fault k x y z n xx=(false,N):=by
 unfold Nand.fault;split<;>simp_all
theorem modify_none {l:List NCell} {k:Nat} {f:NCell->NCell} (h:l.length<=k):l.modify k f=l:=by
 apply List.ext_getElem?;intro j;rw[List.getElem?_modify]
 by_cases e:k=j
 ·subst e;rw[List.getElem?_eq_none h];rfl
 ·simp[e]
theorem fault_5 {N:Nand} {x y z n xx:Int} (h:geoIn N.dies N.blocks N.pages x y z=true):N.fault 5 x y z n xx=if n<0\/32<=n then(false,N)else
  match N.pageAt x y z with
  | none=>(true,N)
  | some c=>if c.turned then(false,N)else if c.lost then(true,N)else
   (true,N.setCell x y z λc=>{c with p:=Nand.xorAt c.p n.toNat (UInt8.ofNat (xx % 256).toNat),turned:=true}):=by
 unfold Nand.fault;rw[if_neg (by simp[h]),if_neg (by decide),if_neg (by decide),if_neg (by decide),if_neg (by decide),if_pos rfl];rfl
theorem fault_5none {N:Nand} {x y z n xx:Int} (h:geoIn N.dies N.blocks N.pages x y z=true) (h2:N.pageAt x y z=none) {b:Bool} (hb:(decide (n<0)||decide (n>=32))=b):N.fault 5 x y z n xx=(!b,N):=by
 subst hb;rw[fault_5 h,h2]
 by_cases h3:n<0\/32<=n
 ·rw[if_pos h3];simp;omega
 ·rw[if_neg h3];simp;omega
theorem fault_5turned {N:Nand} {x y z n xx:Int} {c:NCell} (h:geoIn N.dies N.blocks N.pages x y z=true) (h2:N.pageAt x y z=some c) (hb:(decide (n<0)||decide (n>=32)||(true&&c.turned))=true):N.fault 5 x y z n xx=(false,N):=by
 rw[fault_5 h,h2]
 by_cases h3:n<0\/32<=n
 ·rw[if_pos h3]
 ·rw[if_neg h3];simp only[Bool.or_eq_true,decide_eq_true_eq,Bool.true_and]at hb;rcases hb with hb | hb
  ·omega
  ·simp only;rw[if_pos hb]
theorem vals_eq {c:NCell} (h:c.p.length=32):c.vals=c.p.map bv++[.bool c.lost, .bool c.turned]:=by
 rw[<- pageC_eq c.p h];rfl
theorem vals_get {c:NCell} (h:c.p.length=32) {e:Nat} (he:e<32):c.vals[e]? =some (bv (c.p.getD e 0)):=by
 rw[vals_eq h,List.getElem?_append_left (by simpa[h]using he)];simp[h,he]
theorem xor_u8 (b:UInt8) (xx:Int):IntKind.u8.wrap ((BitVec.ofInt IntKind.u8.bits (b.toNat:Int) ^^^ BitVec.ofInt IntKind.u8.bits (IntKind.u8.wrap xx)).toNat:Int)=((b ^^^ UInt8.ofNat (xx % 256).toNat).toNat:Int):=by
 have h0:IntKind.u8.wrap xx=xx % 256:=by simp[IntKind.wrap,IntKind.bits,IntKind.signed]
 obtain⟨m,hm⟩:∃m:Nat,xx % 256=m:=⟨(xx % 256).toNat,by omega⟩;have hm2:m<256:=by omega
 rw[h0,hm];simp only[Int.toNat_natCast];have e1:(BitVec.ofInt IntKind.u8.bits (b.toNat:Int) ^^^ BitVec.ofInt IntKind.u8.bits (m:Int)).toNat=b.toNat ^^^ m:=by
  rw[BitVec.toNat_xor];have:=b.toNat_lt;show(BitVec.ofInt 8 (b.toNat:Int)).toNat ^^^ (BitVec.ofInt 8 (m:Int)).toNat=_;rw[BitVec.ofInt_natCast,BitVec.ofInt_natCast,BitVec.toNat_ofNat,BitVec.toNat_ofNat,Nat.mod_eq_of_lt this,Nat.mod_eq_of_lt hm2]
 have e2:(b ^^^ UInt8.ofNat m).toNat=b.toNat ^^^ m:=by
  rw[UInt8.toNat_xor,UInt8.toNat_ofNat',Nat.mod_eq_of_lt hm2]
 rw[e1,e2];have hx:b.toNat ^^^ m<256:=Nat.xor_lt_two_pow (n:=8) b.toNat_lt hm2;have:IntKind.u8.wrap ((b.toNat ^^^ m:Nat):Int)=((b.toNat ^^^ m:Nat):Int) % 256:=by simp[IntKind.wrap,IntKind.bits,IntKind.signed]
 rw[this];omega
theorem n_Fault (p:Nat) (N:Nand) (hN:N.Ok) (at_ kind x y z n xx:Int):Fn Tryz.prog 48 [.pointer (some ⟨p,0,none⟩), .agg #[.int .i64 at_, .int .i64 kind, .int .i64 x, .int .i64 y, .int .i64 z, .int .i64 n, .int .i64 xx]] [NandA p N]
  (λv As=>v= .bool (N.fault kind x y z n xx).1/\As=[NandA p (N.fault kind x y z n xx).2]):=by
 have hbd:=hN.bd;refine Fn.enter [2,0] Tryz.func48 rfl rfl rfl λX F hX=>?_;refine J.open_ (α:=NLoc) 1 rfl rfl (λ_=>rfl) λY=>?_;refine J.q hX λ_=>?_;refine J.plan (.of [0,4,8,12,16,20,25,28,33,38,40,44]) [] [1,2,3,4,5,6] (by rw[hX.hP];kernel_rfl) (by kernel_rfl) ?_;refine J.q hX λ_=>?_;refine J.ca hX (by kernel_rfl) (f_In _ _ _ x y z (by omega) (by omega) (by omega)) [] 0 rfl rfl rfl rfl rfl rfl (λ_=>rfl) ?_;refine cpq ⟨_,rfl,⟨rfl,rfl,rfl,rfl,rfl,rfl,trivial⟩,?_⟩;refine J.q hX λ_=>?_;refine J.cond rfl (λh=>?_) (λh=>?_)
 ·simp only[Bool.false_or,Bool.not_eq_true']at h;refine J.q hX λ_=>?_;refine J.close (f:=nandL p N) (Y) [1,2,3,4,5] rfl rfl rfl ?_;refine J.q hX λ_=>?_;refine J.ru hX [1] ?_;exact⟨by simp[Nand.fault,h],by simp[Nand.fault,h];rfl⟩
 simp only[Bool.false_or,Bool.not_eq_false']at h;have hr:0<=x/\x<N.dies/\0<=y/\y<N.blocks/\0<=z/\z<N.pages:=by simp[geoIn]at h;omega
 obtain⟨i,rfl⟩:=Int.eq_ofNat_of_zero_le hr.1;obtain⟨j,rfl⟩:=Int.eq_ofNat_of_zero_le hr.2.2.1;obtain⟨k,rfl⟩:=Int.eq_ofNat_of_zero_le hr.2.2.2.2.1;have hi:i<N.dies:=by omega
 have hj:j<N.blocks:=by omega
 have hlen:=(hN.cells i j hi hj).1;refine J.openAt 5 (i*N.blocks+j) rfl rfl (blksL_get _ _ _ _ _ (lt_ij hi hj)) rfl ?_;rw[(div_ij hj).1,(div_ij hj).2];refine J.open_ (α:=(Option Nat×Nat)) 7 rfl rfl (λ_=>rfl) λc=>?_;refine J.q hX λ_=>?_;refine J.plan (.of [0,4,8,13,16,20,25,28,32,37,42,45,48]) [12] [1,2,3,4,5,6,7,8] (by rw[hX.hP];kernel_rfl) (by kernel_rfl) ?_;refine J.q hX λ_=>?_;refine J.cb hX (n_key i j) [] ?_;refine cpq ⟨_,rfl,⟨rfl,rfl,rfl,rfl,rfl,rfl,rfl,rfl,trivial⟩,?_⟩;refine J.valT hX (.pointer (some ⟨Y.bp (i*N.blocks+j),0,none⟩)) 8 rfl rfl (λ_ a w he hC=>?_) rfl ?_
 ·refine(lookup_run (key:=((i:Int),(j:Int),0)) key39 umapB (z:= .pointer none) (λw=>by kernel_rfl) rfl rfl rfl rfl he rfl rfl (hC rfl _ (cget_mem (i:=2) rfl))).trans ?_;simp only[alook_in hi hj];rfl
 refine J.q hX λ_=>?_;refine J.plan (.of [0,4,9,12,16,20,25,28,32,36]) [9] [1,2,3,4,5,6,7,8] (by rw[hX.hP];kernel_rfl) (by kernel_rfl) ?_;refine J.q hX λ_=>?_;refine J.cond rfl (λh1=>?_) (λh1=>?_)
 ·simp only[beq_iff_eq]at h1;subst h1;refine J.q hX λ_=>?_;refine J.plan (.of [0,4,8,13,16,21,26]) [] [1,2,4,5,6,7,8] (by rw[hX.hP];kernel_rfl) (by kernel_rfl) ?_;refine J.q hX λ_=>?_;refine J.cb hX (s_Set Y.q N.plan i j k) [3] ?_;refine cpq ⟨_,rfl,⟨rfl,rfl,rfl,rfl,rfl,rfl,rfl,trivial⟩,?_⟩;refine J.q hX λ_=>?_;refine J.closeN p N ({N with plan:=addS N.plan ((i:Int),(j:Int),(k:Int))}) Y i j hj (N.blk i j) _ [1,2,3,4,5,7,8] rfl rfl rfl rfl (blk_same _ _ _) rfl ?_;refine J.q hX λ_=>?_;refine J.ru hX [1] ?_;rw[fault_1 h];exact⟨rfl,rfl⟩
 simp only[beq_eq_false_iff_ne,ne_eq]at h1;refine J.q hX λ_=>?_;refine J.cond rfl (λh2=>?_) (λh2=>?_)
 ·simp only[beq_iff_eq]at h2;subst h2;refine J.q hX λ_=>?_;refine J.closeN p N (N.setBlk i j {N.blk i j with fails:=true}) Y i j hj ({N.blk i j with fails:=true}) _ [1,2,3,4,5,7,8] rfl rfl rfl rfl (rfl) rfl ?_;refine J.q hX λ_=>?_;refine J.ru hX [1] ?_;rw[fault_2 h];exact⟨rfl,rfl⟩
 simp only[beq_eq_false_iff_ne,ne_eq]at h2;refine J.q hX λ_=>?_;refine J.cond rfl (λh3=>?_) (λh3=>?_)
 ·simp only[beq_iff_eq]at h3;subst h3;refine J.q hX λ_=>?_;refine J.cond rfl (λh5=>?_) (λh5=>?_)
  ·simp only[decide_eq_true_eq,Int.ofNat_lt]at h5;refine J.know (λh' s=>own_some (by omega) (s.get (i:=8) rfl)) λhg=>?_;obtain⟨g,hg⟩:=hg;obtain⟨c1,c2⟩:=c;simp only at hg;subst hg;refine J.openOwn 8 rfl rfl (λ_=>rfl) λr q1 q2 q3 q4=>?_;obtain⟨cl,hcl⟩:∃cl,(N.blk i j).cells[k]? =some cl:=⟨_,List.getElem?_eq_getElem h5⟩;refine J.q hX λ_=>?_;refine J.plan (.of [0,4,8,13,16,20,25,28,32,39]) [7,8,9] [1,2,3,4,5,6,7] (by rw[hX.hP];kernel_rfl) (by kernel_rfl) ?_;refine J.q hX λ_=>?_;refine J.store1 hX tk 8 rfl rfl rfl rfl rfl rfl rfl rfl rfl rfl rfl rfl rfl ?_ (cellsV ((N.blk i j).cells.modify k λc=>{c with lost:=true})++r) ?_ rfl (λ_=>rfl) ⟨trivial,?_⟩
   ·rw[List.length_append,cellsV_len];show 0+(k:Int).toNat*34+32<_;simp only[Int.toNat_natCast];omega
   ·rw[show 0+(k:Int).toNat*34+32=k*34+32 from by simp,List.set_append_left _ _ (by rw[cellsV_len];omega)];rw[cellsV_set _ k 32 _ (λc=>{c with lost:=true}) cl hcl (by omega) rfl]
   refine J.closeOwn (e:=168) (size:=34) (n:=(N.blk i j).cells.length) (cap:=c2) (xs:=cellsV ((N.blk i j).cells.modify k λc=>{c with lost:=true})) 8 rfl rfl (by rw[cellsV_len,List.length_modify]) q2 q3 (by rw[List.length_append,cellsV_len,List.length_modify];rw[cellsV_len]at q4;exact q4) (by rw[List.take_left' (by rw[cellsV_len,List.length_modify])]) rfl ?_;rw[show(N.blk i j).cells.length=((N.blk i j).cells.modify k λc=>{c with lost:=true}).length from by rw[List.length_modify]];refine J.q hX λ_=>?_;refine J.closeN p N (N.setCell i j k λc=>{c with lost:=true}) Y i j hj ({N.blk i j with cells:=(N.blk i j).cells.modify k λc=>{c with lost:=true}}) (some g,c2) [1,2,3,4,5,7,8] rfl rfl rfl rfl (rfl) rfl ?_;refine J.q hX λ_=>?_;refine J.ru hX [1] ?_;rw[fault_3 h];exact⟨rfl,rfl⟩
  ·simp only[decide_eq_false_iff_not,Int.ofNat_lt,Nat.not_lt]at h5;refine J.q hX λ_=>?_;refine J.closeN p N (N.setCell i j k λc=>{c with lost:=true}) Y i j hj (N.blk i j) _ [1,2,3,4,5,7,8] rfl rfl rfl rfl ((by simp only[Nand.setCell,Nand.setBlk,Int.toNat_natCast];rw[modify_none h5])) rfl ?_;refine J.q hX λ_=>?_;refine J.ru hX [1] ?_;rw[fault_3 h];exact⟨rfl,rfl⟩
 simp only[beq_eq_false_iff_ne,ne_eq]at h3;refine J.q hX λ_=>?_;refine J.cond rfl (λh4=>?_) (λh4=>?_)
 ·simp only[beq_iff_eq]at h4;subst h4;refine J.q hX λ_=>?_;refine J.plan (.of [0,4,8,13,16,20,25,28,35]) [7,8] [1,2,3,5,6,7,8] (by rw[hX.hP];kernel_rfl) (by kernel_rfl) ?_;refine J.q hX λ_=>?_;refine J.store1 hX tk 4 rfl rfl rfl rfl rfl rfl rfl rfl rfl rfl rfl rfl rfl ?_ ((N.dead.set i true).map Value.bool) ?_ rfl (λ_=>rfl) ⟨trivial,?_⟩
  ·rw[List.length_map,hN.dead];show 0+(i:Int).toNat*1<_;omega
  ·rw[show 0+(i:Int).toNat*1=i from by omega,List.map_set]
  refine J.q hX λ_=>?_;refine J.closeN p N ({N with dead:=N.dead.set i true}) Y i j hj (N.blk i j) _ [1,2,3,4,5,7,8] rfl rfl rfl rfl (blk_same _ _ _) rfl ?_;refine J.q hX λ_=>?_;refine J.ru hX [1] ?_;rw[fault_4 h];exact⟨rfl,rfl⟩
 simp only[beq_eq_false_iff_ne,ne_eq]at h4;refine J.q hX λ_=>?_;refine J.cond rfl (λh6=>?_) (λh6=>?_)
 ·simp only[beq_iff_eq]at h6;subst h6
  by_cases h5:k<(N.blk i j).cells.length
  ·rw[show decide ((k:Int)<((N.blk i j).cells.length:Int))=true from decide_eq_true (by omega)];refine J.know (λh' s=>own_some (by omega) (s.get (i:=8) rfl)) λhg=>?_;obtain⟨g,hg⟩:=hg;obtain⟨c1,c2⟩:=c;simp only at hg;subst hg;refine J.openOwn 8 rfl rfl (λ_=>rfl) λr q1 q2 q3 q4=>?_;obtain⟨cl,hcl⟩:∃cl,(N.blk i j).cells[k]? =some cl:=⟨_,List.getElem?_eq_getElem h5⟩;refine J.q hX λ_=>?_;refine J.plan (.of [0,5,8,12,16,21,24,28,32,36,40,44,48,52,57,60,64,69,72,76,81,84,88]) [] [1,2,3,4,5,6,7,8] (by rw[hX.hP];kernel_rfl) (by kernel_rfl) ?_;refine J.q hX λ_=>?_;have hpa:N.pageAt i j k=some cl:=by simp only[Nand.pageAt,Int.toNat_natCast];exact hcl
   have hoff:∀e,e<34->(cellsV (N.blk i j).cells++r)[k*34+e]? =cl.vals[e]?:=λe he=>by
    rw[List.getElem?_append_left (by rw[cellsV_len];omega)];exact cellsV_cell hcl he
   refine J.valT hX (.bool cl.turned) 0 rfl rfl (λhg a w he hC=>?_) rfl ?_
   ·exact load1_run tk rfl rfl he hg rfl rfl (hC rfl _ (cget_mem (i:=8) rfl)) (by rw[show 0+((k:Int)).toNat*34+33=k*34+33 from by simp];exact hoff 33 (by omega))
   refine J.q hX λ_=>?_;refine J.cond rfl (λh7=>?_) (λh7=>?_)
   ·refine J.closeOwn (e:=168) (size:=34) (n:=(N.blk i j).cells.length) (cap:=c2) (xs:=cellsV (N.blk i j).cells) 8 rfl rfl q1 q2 q3 (by rw[List.length_append];exact q4) (by rw[List.take_left' q1]) rfl ?_;refine J.q hX λ_=>?_;refine J.closeN p N (N) Y i j hj (N.blk i j) (some g,c2) [1,2,3,4,5,7,8] rfl rfl rfl rfl (blk_same _ _ _) rfl ?_;refine J.q hX λ_=>?_;refine J.ru hX [1] ?_;rw[fault_5turned h hpa h7];exact⟨rfl,rfl⟩
   refine J.q hX λ_=>?_;refine J.plan (.of [0,4,8,12,16,21,24,28,33,36,40,45,48,52]) [] [1,2,3,4,5,6,7,8] (by rw[hX.hP];kernel_rfl) (by kernel_rfl) ?_;refine J.q hX λ_=>?_;refine J.valT hX (.bool cl.lost) 0 rfl rfl (λhg a w he hC=>?_) rfl ?_
   ·exact load1_run tk rfl rfl he hg rfl rfl (hC rfl _ (cget_mem (i:=8) rfl)) (by rw[show 0+((k:Int)).toNat*34+32=k*34+32 from by simp];exact hoff 32 (by omega))
   refine J.q hX λ_=>?_;refine J.cond rfl (λh8=>?_) (λh8=>?_)
   ·have hn:0<=n/\n<32:=by
     simp only[Bool.or_eq_false_iff,decide_eq_false_iff_not]at h7;omega
    obtain⟨e,rfl⟩:=Int.eq_ofNat_of_zero_le hn.1;have he32:e<32:=by omega
    have hp32:cl.p.length=32:=(hN.cells i j hi hj).2 cl (List.mem_of_getElem? hcl);refine J.q hX λ_=>?_;refine J.plan (.of [0,4,8,13,16,20,25,28,33,36,40,44,52,57,60,68,72,50,64,76,82]) [] [1,2,3,4,5,6,7] (by rw[hX.hP];kernel_rfl) (by kernel_rfl) ?_;refine J.qn hX 14 λ_=>?_;refine J.valT hX (.int .u8 (IntKind.u8.wrap xx)) 0 rfl rfl (λhg a w he hC=>?_) rfl ?_
    ·exact convert_run tk rfl rfl he rfl rfl rfl
    refine J.q hX λ_=>?_;refine J.val hX (bv (cl.p.getD e 0)) 0 rfl rfl (λhg a w he hs=>?_) rfl ⟨rfl,rfl,rfl,rfl,rfl,rfl,rfl,trivial⟩ ?_
    ·exact load1_run tk rfl rfl he hg rfl rfl (hs.get (i:=8) rfl) (by rw[show 0+((k:Int)).toNat*34+0+((e:Int)).toNat*1=k*34+e from by simp,hoff e (by omega)];exact vals_get hp32 he32)
    refine J.q hX λ_=>?_;have hlen':(cellsV (N.blk i j).cells++r).length=c2*34:=by rw[List.length_append];exact q4
    have hnl:k*34+34<=(N.blk i j).cells.length*34:=by omega
    refine J.store1 hX tk 8 rfl rfl rfl rfl rfl rfl rfl rfl rfl rfl rfl rfl rfl ?_ (cellsV ((N.blk i j).cells.modify k λc=>{c with p:=Nand.xorAt c.p e (UInt8.ofNat (xx % 256).toNat)})++r) ?_ rfl (λ_=>rfl) ⟨⟨rfl,rfl,rfl,rfl,rfl,rfl,rfl,trivial⟩,?_⟩
    ·rw[List.length_append,cellsV_len];show 0+(k:Int).toNat*34+0+(e:Int).toNat*1<_;simp only[Int.toNat_natCast];omega
    ·rw[show 0+(k:Int).toNat*34+0+(e:Int).toNat*1=k*34+e from by simp,List.set_append_left _ _ (by rw[cellsV_len];omega)];rw[cellsV_set _ k e _ (λc=>{c with p:=Nand.xorAt c.p e (UInt8.ofNat (xx % 256).toNat)}) cl hcl (by omega) ?_];rw[xor_u8,vals_eq hp32,vals_eq (by simp[Nand.xorAt,hp32]),List.set_append_left _ _ (by simpa[hp32]using he32)];congr 1;exact(List.map_set (f:=bv)).symm
    refine J.q hX λ_=>?_;refine J.plan (.of [0,4,8,13,16,20,25,28,32,39]) [7,8,9] [1,2,3,4,5,6,7] (by rw[hX.hP];kernel_rfl) (by kernel_rfl) ?_;refine J.q hX λ_=>?_;refine J.store1 hX tk 8 rfl rfl rfl rfl rfl rfl rfl rfl rfl rfl rfl rfl rfl ?_ (cellsV ((N.blk i j).cells.modify k λc=>{c with p:=Nand.xorAt c.p e (UInt8.ofNat (xx % 256).toNat),turned:=true})++r) ?_ rfl (λ_=>rfl) ⟨trivial,?_⟩
    ·rw[List.length_append,cellsV_len,List.length_modify];show 0+(k:Int).toNat*34+33<_;simp only[Int.toNat_natCast];omega
    ·rw[show 0+(k:Int).toNat*34+33=k*34+33 from by simp,List.set_append_left _ _ (by rw[cellsV_len,List.length_modify];omega)];rw[cellsV_set _ k 33 _ (λc=>{c with turned:=true}) _ (by rw[List.getElem?_modify_eq,hcl];rfl) (by omega) rfl,List.modify_modify_eq];rfl
    refine J.closeOwn (e:=168) (size:=34) (n:=(N.blk i j).cells.length) (cap:=c2) (xs:=cellsV ((N.blk i j).cells.modify k λc=>{c with p:=Nand.xorAt c.p e (UInt8.ofNat (xx % 256).toNat),turned:=true})) 8 rfl rfl (by rw[cellsV_len,List.length_modify]) q2 q3 (by rw[List.length_append,cellsV_len,List.length_modify];rw[cellsV_len]at q4;exact q4) (by rw[List.take_left' (by rw[cellsV_len,List.length_modify])]) rfl ?_;rw[show(N.blk i j).cells.length=((N.blk i j).cells.modify k λc=>{c with p:=Nand.xorAt c.p e (UInt8.ofNat (xx % 256).toNat),turned:=true}).length from by rw[List.length_modify]];refine J.q hX λ_=>?_;refine J.closeN p N (N.setCell i j k λc=>{c with p:=Nand.xorAt c.p e (UInt8.ofNat (xx % 256).toNat),turned:=true}) Y i j hj ({N.blk i j with cells:=(N.blk i j).cells.modify k λc=>{c with p:=Nand.xorAt c.p e (UInt8.ofNat (xx % 256).toNat),turned:=true}}) (some g,c2) [1,2,3,4,5,7,8] rfl rfl rfl rfl (rfl) rfl ?_;refine J.q hX λ_=>?_;refine J.ru hX [1] ?_;rw[fault_5 h,hpa];simp only[Bool.or_eq_false_iff,Bool.true_and]at h7;simp only[Bool.true_and,Bool.not_eq_true']at h8;rw[if_neg (by omega)];simp only[h7.2,h8,Bool.false_eq_true,if_false];exact⟨trivial,rfl⟩
   ·refine J.closeOwn (e:=168) (size:=34) (n:=(N.blk i j).cells.length) (cap:=c2) (xs:=cellsV (N.blk i j).cells) 8 rfl rfl q1 q2 q3 (by rw[List.length_append];exact q4) (by rw[List.take_left' q1]) rfl ?_;refine J.q hX λ_=>?_;refine J.closeN p N (N) Y i j hj (N.blk i j) (some g,c2) [1,2,3,4,5,7,8] rfl rfl rfl rfl (blk_same _ _ _) rfl ?_;refine J.q hX λ_=>?_;refine J.ru hX [1] ?_;rw[fault_5 h,hpa];simp only[Bool.or_eq_false_iff,Bool.true_and,decide_eq_false_iff_not]at h7;simp only[Bool.true_and,Bool.not_eq_false']at h8;rw[if_neg (by omega)];simp only[h7.2,h8,Bool.false_eq_true,if_false,if_true];exact⟨trivial,rfl⟩
  ·rw[show decide ((k:Int)<((N.blk i j).cells.length:Int))=false from decide_eq_false (by omega)];refine J.q hX λ_=>?_;refine J.plan (.of [0,5,8,12,16,21,24,28,32,36,40,44,48,52,57,60,64,69,72,76,81,84,88]) [] [1,2,3,4,5,6,7,8] (by rw[hX.hP];kernel_rfl) (by kernel_rfl) ?_;refine J.qn hX 18 λ_=>?_;have hpa:N.pageAt i j k=none:=by simp only[Nand.pageAt,Int.toNat_natCast];exact List.getElem?_eq_none (by omega)
   refine J.valT hX (.pointer (some ⟨0,0,none⟩)) 0 rfl rfl (λhg a w he hC=>by simp[G.on]at hg) rfl ?_;refine J.q hX λ_=>?_;refine J.valT hX (.bool false) 0 rfl rfl (λhg a w he hC=>by simp[G.on]at hg) rfl ?_;refine J.q hX λ_=>?_;refine J.cond rfl (λh7=>?_) (λh7=>?_)
   ·refine J.q hX λ_=>?_;refine J.closeN p N (N) Y i j hj (N.blk i j) _ [1,2,3,4,5,7,8] rfl rfl rfl rfl (blk_same _ _ _) rfl ?_;refine J.q hX λ_=>?_;refine J.ru hX [1] ?_;rw[fault_5none h hpa (b:=true) (by simpa using h7)];exact⟨rfl,rfl⟩
   refine J.q hX λ_=>?_;refine J.plan (.of [0,4,8,12,16,21,24,28,33,36,40,45,48,52]) [] [1,2,3,4,5,6,7,8] (by rw[hX.hP];kernel_rfl) (by kernel_rfl) ?_;refine J.qn hX 9 λ_=>?_;refine J.valT hX (.pointer (some ⟨0,0,none⟩)) 0 rfl rfl (λhg a w he hC=>by simp[G.on]at hg) rfl ?_;refine J.q hX λ_=>?_;refine J.valT hX (.bool false) 0 rfl rfl (λhg a w he hC=>by simp[G.on]at hg) rfl ?_;refine J.q hX λ_=>?_;refine J.cF ?_;refine J.q hX λ_=>?_;refine J.closeN p N (N) Y i j hj (N.blk i j) _ [1,2,3,4,5,7,8] rfl rfl rfl rfl (blk_same _ _ _) rfl ?_;refine J.q hX λ_=>?_;refine J.ru hX [1] ?_;rw[fault_5none h hpa (b:=false) (by simpa using h7)];exact⟨rfl,rfl⟩
 simp only[beq_eq_false_iff_ne,ne_eq]at h6;refine J.q hX λ_=>?_;refine J.closeN p N (N) Y i j hj (N.blk i j) _ [1,2,3,4,5,7,8] rfl rfl rfl rfl (blk_same _ _ _) rfl ?_;refine J.q hX λ_=>?_;refine J.ru hX [1] ?_;rw[fault_no h1 h2 h3 h4 h6];exact⟨rfl,rfl⟩
def B0:NBlock:=⟨[],0,false,false⟩
def zeroN (d b p:Nat) (x:Nat×Nat×Nat×Nat):List Value:=
 [.int .i64 d, .int .i64 b, .int .i64 p, .map (some x.2.1), .pointer (some ⟨x.2.2.1,0,none⟩), .slice (some ⟨x.2.2.2,0,none⟩) d d, .bool false, .int .i64 0, .int .i64 0, .bool false, .int .i64 0, .int .i64 0]
theorem aputA_new {k:A3} {v:Value}:∀{l:List (A3×Value)},(∀x∈l,x.1≠k)->aput l k v=l++[(k,v)]
 | [],_=>rfl
 | x::l,h=>by
  have h1:=h x (by simp);simp only[aput,if_neg (Ne.symm h1),aputA_new (l:=l) (λy hy=>h y (by simp[hy])),List.cons_append]
def upd (bp:Nat->Nat) (n v:Nat):Nat->Nat:=λk=>if k=n then v else bp k
theorem bmap_snoc (nb n:Nat) (bp:Nat->Nat) (v:Nat):bmap nb (n+1) (upd bp n v)=bmap nb n bp++[((((n/nb:Nat):Int),((n % nb:Nat):Int),0), .pointer (some ⟨v,0,none⟩))]:=by
 unfold bmap;rw[List.range_succ,List.map_append];congr 1
 ·apply List.map_congr_left;intro k hk;have:k≠n:=by have:=List.mem_range.1 hk;omega
  simp[upd,this]
 ·simp[upd]
theorem blksL_snoc (nb n:Nat) (bp:Nat->Nat) (v:Nat):blksL nb (n+1) (upd bp n v) (λ_ _=>B0)=blksL nb n bp (λ_ _=>B0)++[blkA v B0]:=by
 unfold blksL;rw[List.range_succ,List.map_append];congr 1
 ·apply List.map_congr_left;intro k hk;have:k≠n:=by have:=List.mem_range.1 hk;omega
  simp[upd,this]
 ·simp[upd]
theorem aput_bmap {nb j:Nat} (i:Nat) (hj:j<nb) (bp:Nat->Nat) (v:Nat):aput (bmap nb (i*nb+j) bp) ((i:Int),(j:Int),0) (.pointer (some ⟨v,0,none⟩))=bmap nb (i*nb+j+1) (upd bp (i*nb+j) v):=by
 rw[bmap_snoc,(div_ij hj).1,(div_ij hj).2,aputA_new];intro x hx;simp only[bmap,List.mem_map,List.mem_range]at hx;obtain⟨k,hk,rfl⟩:=hx;intro e;simp only[Prod.mk.injEq,Int.natCast_inj,and_true]at e;have h1:=Nat.div_add_mod k nb;rw[e.1,e.2,Nat.mul_comm]at h1;omega
theorem blk_snoc {BL:List Atom} {v:Nat} {h:Hl} (s:Sep [.hp (HP.of BL), .pt v 112 [.slice none 0 0, .int .i64 0, .bool false, .bool false]] h):Sep [.hp (HP.of (BL++[blkA v B0]))] h:=by
 have s1:Sep [.hp (HP.of BL),blkA v B0] h:=s.turn1 [1] rfl (As:=[blkA v B0]) (λh' s'=>Sep.one ⟨(none,0),by
  refine⟨λ_=>0,λi A hA=>?_⟩
  match i,hA with
  | 0,hA=>simp at hA;subst hA;exact Atom.up (A:= .pt v 112 [.slice none 0 0, .int .i64 0, .bool false, .bool false]) (λb o hb=>res_some.2 ⟨rfl,hb⟩) (s'.get (i:=0) rfl)
  | 1,hA=>simp at hA;subst hA;exact⟨rfl,rfl,rfl⟩
  | k+2,hA=>simp at hA⟩)
 exact Sep.hpOf.2 s1.flat
theorem n_New (d b p:Nat) (hg:geoMay d b p=true):Fn Tryz.prog 26 [.agg #[.int .i64 d, .int .i64 b, .int .i64 p]] [] (λv As=>∃q,v= .pointer (some ⟨q,0,none⟩)/\As=[NandA q (Nand.new d b p)]):=by
 have hbd:(3<=d/\d<=6)/\(8<=b/\b<=16)/\(2<=p/\p<=8):=by simp[geoMay]at hg;omega
 refine Fn.enter [0] Tryz.func26 rfl rfl rfl λX F hX=>?_;refine J.q hX λg1=>?_;refine J.cb hX (f_May d b p) [] ?_;refine cpq ⟨_,rfl,trivial,?_⟩;rw[hg];refine J.q hX λ_=>?_;refine J.cF ?_;refine J.q hX λ_=>?_;refine J.plan (.take false 0 (.take true 3 (.take false 4 (.alt false 1 ((.alt false 2 ((.of [22,24,30,32])) (.alt false 5 ((.of [10,24,30,32])) .non))) (.alt false 2 ((.alt false 1 ((.of [22,24,30,32])) (.alt false 5 ((.of [6,24,30,32])) .non))) (.alt false 5 ((.alt false 1 ((.of [10,24,30,32])) (.alt false 2 ((.of [6,24,30,32])) .non))) .non)))))) [8] [1] (by rw[hX.hP];kernel_rfl) (by kernel_rfl) ?_;refine J.join (α:=Nat×Nat×Nat×Nat) (λx=>[⟨3, .pointer (some ⟨x.1,0,none⟩),3, .tt⟩,⟨1, .pointer (some ⟨g1 0,0,none⟩),2, .tt⟩]) (λx=>[.hp F, .pt (g1 0) 23 [.int .i64 d, .int .i64 b, .int .i64 p], .pt x.1 107 (zeroN d b p x), .ob x.2.1 (.map #[] 0),SpotA x.2.2.1 [], .pt x.2.2.2 4 (List.replicate d (.bool false))]) (λhj=>?_) (λx=>?_)
 ·refine J.qn hX 3 λ_=>?_;refine J.alts ?_ (J.alts ?_ ?_)
  ·skip
   refine J.qn hX 1 λmm=>?_;refine J.alts ?_ ?_
   ·skip
    refine J.q hX λ_=>?_;refine J.cb hX (s_New) [] ?_;rintro v As ⟨q,rfl,rfl⟩;refine⟨_,rfl,⟨rfl,trivial⟩,?_⟩;refine J.makeSlice hX tk 5 rfl rfl rfl rfl rfl rfl rfl rfl rfl rfl ?_ ?_ (λ_=>rfl) (λ_=>rfl) λdd=>⟨⟨rfl,trivial⟩,?_⟩
    ·simp only[maxLen];omega
    ·omega
    refine J.qn hX 4 λnn=>?_;exact J.goto [0,1,5,2,3,4] (hj (nn 0,mm 0,q,dd)) ⟨rfl,rfl,trivial⟩ rfl rfl
   ·skip
    refine J.makeSlice hX tk 4 rfl rfl rfl rfl rfl rfl rfl rfl rfl rfl ?_ ?_ (λ_=>rfl) (λ_=>rfl) λdd=>⟨⟨rfl,trivial⟩,?_⟩
    ·simp only[maxLen];omega
    ·omega
    refine J.q hX λ_=>?_;refine J.cb hX (s_New) [] ?_;rintro v As ⟨q,rfl,rfl⟩;refine⟨_,rfl,⟨rfl,trivial⟩,?_⟩;refine J.qn hX 4 λnn=>?_;exact J.goto [0,1,5,2,4,3] (hj (nn 0,mm 0,q,dd)) ⟨rfl,rfl,trivial⟩ rfl rfl
  ·skip
   refine J.q hX λ_=>?_;refine J.cb hX (s_New) [] ?_;rintro v As ⟨q,rfl,rfl⟩;refine⟨_,rfl,⟨rfl,trivial⟩,?_⟩;refine J.alts ?_ ?_
   ·skip
    refine J.qn hX 1 λmm=>?_;refine J.makeSlice hX tk 5 rfl rfl rfl rfl rfl rfl rfl rfl rfl rfl ?_ ?_ (λ_=>rfl) (λ_=>rfl) λdd=>⟨⟨rfl,trivial⟩,?_⟩
    ·simp only[maxLen];omega
    ·omega
    refine J.qn hX 4 λnn=>?_;exact J.goto [0,1,5,3,2,4] (hj (nn 0,mm 0,q,dd)) ⟨rfl,rfl,trivial⟩ rfl rfl
   ·skip
    refine J.makeSlice hX tk 4 rfl rfl rfl rfl rfl rfl rfl rfl rfl rfl ?_ ?_ (λ_=>rfl) (λ_=>rfl) λdd=>⟨⟨rfl,trivial⟩,?_⟩
    ·simp only[maxLen];omega
    ·omega
    refine J.qn hX 1 λmm=>?_;refine J.qn hX 4 λnn=>?_;exact J.goto [0,1,5,4,2,3] (hj (nn 0,mm 0,q,dd)) ⟨rfl,rfl,trivial⟩ rfl rfl
  ·skip
   refine J.makeSlice hX tk 3 rfl rfl rfl rfl rfl rfl rfl rfl rfl rfl ?_ ?_ (λ_=>rfl) (λ_=>rfl) λdd=>⟨⟨rfl,trivial⟩,?_⟩
   ·simp only[maxLen];omega
   ·omega
   refine J.alts ?_ ?_
   ·skip
    refine J.qn hX 1 λmm=>?_;refine J.q hX λ_=>?_;refine J.cb hX (s_New) [] ?_;rintro v As ⟨q,rfl,rfl⟩;refine⟨_,rfl,⟨rfl,trivial⟩,?_⟩;refine J.qn hX 4 λnn=>?_;exact J.goto [0,1,5,3,4,2] (hj (nn 0,mm 0,q,dd)) ⟨rfl,rfl,trivial⟩ rfl rfl
   ·skip
    refine J.q hX λ_=>?_;refine J.cb hX (s_New) [] ?_;rintro v As ⟨q,rfl,rfl⟩;refine⟨_,rfl,⟨rfl,trivial⟩,?_⟩;refine J.qn hX 1 λmm=>?_;refine J.qn hX 4 λnn=>?_;exact J.goto [0,1,5,4,3,2] (hj (nn 0,mm 0,q,dd)) ⟨rfl,rfl,trivial⟩ rfl rfl
 obtain⟨q0,r,q,dd⟩:=x;refine J.turn1 [3] rfl (As:=[mapA r a3v (bmap b (0*b) λ_=>0), .hp (HP.of (blksL b (0*b) (λ_=>0) λ_ _=>B0))]) (λh s=>?_) rfl ?_
 ·rw[Nat.zero_mul];refine⟨λ_=>0,λi A hA=>?_⟩
  match i,hA with
  | 0,hA=>simp at hA;subst hA;exact⟨#[],0,res_some.2 ⟨rfl,s.get (i:=0) rfl⟩,rfl,by simp,by simp⟩
  | 1,hA=>simp at hA;subst hA;exact Sep.nil _
  | k+2,hA=>simp at hA
 refine J.q hX λ_=>?_;refine J.lo (α:=(Nat×(Nat->Nat))) (λx=>x.1<=d) (λx=>[⟨19, .int .i64 x.1,0, .tt⟩,⟨18, .int .i64 d,0, .tt⟩,⟨3, .pointer (some ⟨q0,0,none⟩),3, .tt⟩,⟨1, .pointer (some ⟨g1 0,0,none⟩),2, .tt⟩]) [3,6] (λx=>[mapA r a3v (bmap b (x.1*b) x.2), .hp (HP.of (blksL b (x.1*b) x.2 λ_ _=>B0))]) (λx=>d-x.1) ((0,λ_=>0)) (Nat.zero_le _) rfl ?_ (λ_=>rfl) λx hI=>?_
 ·rfl
 obtain⟨i,bp⟩:=x;dsimp only at hI ⊢;refine J.q hX λ_=>?_;refine J.cond rfl (λh1=>?_) (λh1=>?_)
 ·simp only[decide_eq_true_eq,Int.ofNat_lt]at h1;refine J.q hX λ_=>?_;refine J.lo (α:=(Nat×(Nat->Nat))) (λy=>y.1<=b) (λy=>[⟨24, .int .i64 y.1,0, .tt⟩,⟨23, .int .i64 b,0, .tt⟩,⟨4, .int .i64 i,0, .tt⟩,⟨19, .int .i64 i,0, .tt⟩,⟨18, .int .i64 d,0, .tt⟩,⟨3, .pointer (some ⟨q0,0,none⟩),3, .tt⟩,⟨1, .pointer (some ⟨g1 0,0,none⟩),2, .tt⟩]) [3,6] (λy=>[mapA r a3v (bmap b (i*b+y.1) y.2), .hp (HP.of (blksL b (i*b+y.1) y.2 λ_ _=>B0))]) (λy=>b-y.1) ((0,bp)) (Nat.zero_le _) rfl ?_ (λ_=>rfl) λy hI=>?_
  ·rfl
  obtain⟨j,bp'⟩:=y;dsimp only at hI ⊢;refine J.q hX λ_=>?_;refine J.cond rfl (λh2=>?_) (λh2=>?_)
  ·simp only[decide_eq_true_eq,Int.ofNat_lt]at h2;refine J.q hX λ_=>?_;refine J.plan (.take true 0 (.take true 1 (.take true 2 (.take false 3 (.take true 4 (.take true 5 (.take true 7 (.alt false 6 ((.of [34,39])) (.alt false 8 ((.of [26,39])) .non))))))))) [9] [1,2] (by rw[hX.hP];kernel_rfl) (by kernel_rfl) ?_;refine J.q hX λ_=>?_;refine J.alts ?_ ?_
   ·refine J.q hX λ_=>?_;refine J.cb hX (n_key i j) [] ?_;refine cpq ⟨_,rfl,⟨rfl,rfl,trivial⟩,?_⟩;refine J.q hX λbb=>?_;refine J.mapUpdate hX key39 umapB ((i:Int),(j:Int),0) 3 rfl rfl rfl rfl rfl rfl rfl rfl rfl rfl rfl rfl (λ_=>rfl) (by rw[aput_bmap i h2];rfl) ⟨trivial,?_⟩;refine J.turn1 [6,7] rfl (As:=[.hp (HP.of (blksL b (i*b+j+1) (upd bp' (i*b+j) (bb 0)) λ_ _=>B0))]) (λh s=>by rw[blksL_snoc];exact blk_snoc s) rfl ?_;refine J.q hX λ_=>?_;refine J.nS ((j+1,upd bp' (i*b+j) (bb 0))) (by dsimp only;omega) (by dsimp only;omega) [0,1,2,3,4,5,6] rfl rfl
   ·refine J.q hX λbb=>?_;refine J.cb hX (n_key i j) [] ?_;refine cpq ⟨_,rfl,⟨rfl,rfl,trivial⟩,?_⟩;refine J.mapUpdate hX key39 umapB ((i:Int),(j:Int),0) 3 rfl rfl rfl rfl rfl rfl rfl rfl rfl rfl rfl rfl (λ_=>rfl) (by rw[aput_bmap i h2];rfl) ⟨trivial,?_⟩;refine J.turn1 [6,7] rfl (As:=[.hp (HP.of (blksL b (i*b+j+1) (upd bp' (i*b+j) (bb 0)) λ_ _=>B0))]) (λh s=>by rw[blksL_snoc];exact blk_snoc s) rfl ?_;refine J.q hX λ_=>?_;refine J.nS ((j+1,upd bp' (i*b+j) (bb 0))) (by dsimp only;omega) (by dsimp only;omega) [0,1,2,3,4,5,6] rfl rfl
  ·simp only[decide_eq_false_iff_not,Int.ofNat_lt]at h2;obtain rfl:j=b:=by omega
   rw[show i*j+j=(i+1)*j from(Nat.succ_mul i j).symm];refine J.q hX λ_=>?_;refine J.nS ((i+1,bp')) (by dsimp only;omega) (by dsimp only;omega) [0,1,2,3,4,5,6] rfl rfl
 ·simp only[decide_eq_false_iff_not,Int.ofNat_lt]at h1;obtain rfl:i=d:=by omega
  refine J.close (f:=nandL q0 (Nand.new i b p)) ⟨r,q,dd,bp⟩ [2,3,4,5,6] rfl (by simp only[nandL,Nand.new,List.map_replicate];rfl) rfl ?_;refine J.q hX λ_=>?_;refine J.ru hX [2] ?_;exact⟨q0,rfl,rfl⟩
def cmpI (x y:Int):Int:=if x<y then-1 else if x>y then 1 else 0
theorem c_isNaN (x:Int):Fn Tryz.prog 208 [.int .i64 x] [] (λv As=>v= .bool false/\As=[]):=by
 refine Fn.enter [] Tryz.func208 rfl rfl rfl λX F hX=>?_;refine J.q hX λ_=>?_;refine J.ru hX [] ?_;exact⟨by simp,rfl⟩
theorem c_Compare (x y:Int):Fn Tryz.prog 149 [.int .i64 x, .int .i64 y] [] (λv As=>v= .int .i64 (cmpI x y)/\As=[]):=by
 refine Fn.enter [] Tryz.func149 rfl rfl rfl λX F hX=>?_;refine J.q hX λ_=>?_;refine J.cb hX (c_isNaN x) [] ?_;refine cpq ⟨_,rfl,trivial,?_⟩;refine J.q hX λ_=>?_;refine J.cb hX (c_isNaN y) [] ?_;refine cpq ⟨_,rfl,trivial,?_⟩;refine J.q hX λ_=>?_;refine J.cF ?_;refine J.q hX λ_=>?_;refine J.cF ?_;refine J.q hX λ_=>?_;refine J.cond rfl (λh1=>?_) (λh1=>?_)
 ·refine J.q hX λ_=>?_;refine J.ru hX [] ?_;simp only[decide_eq_true_eq]at h1;exact⟨by simp[cmpI,h1],rfl⟩
 simp only[decide_eq_false_iff_not]at h1;refine J.q hX λ_=>?_;refine J.cond rfl (λh2=>?_) (λh2=>?_)
 ·refine J.q hX λ_=>?_;refine J.ru hX [] ?_;simp only[decide_eq_true_eq]at h2;exact⟨by rw[cmpI,if_neg h1,if_pos h2],rfl⟩
 refine J.q hX λ_=>?_;refine J.ru hX [] ?_;simp only[decide_eq_false_iff_not]at h2;exact⟨by rw[cmpI,if_neg h1,if_neg h2],rfl⟩
def orI (l:List Int):Int:=match l with
 | []=>0
 | x::r=>if x≠0 then x else orI r
theorem c_Or (b:Nat) (x y z:Int):Fn Tryz.prog 188 [.slice (some ⟨b,0,none⟩) 3 3] [.pt b 3 [.int .i64 x, .int .i64 y, .int .i64 z]] (λv As=>v= .int .i64 (orI [x,y,z])/\As=[.pt b 3 [.int .i64 x, .int .i64 y, .int .i64 z]]):=by
 refine Fn.enter [2] Tryz.func188 rfl rfl rfl λX F hX=>?_;refine J.q hX λ_=>?_;refine J.lo (α:=Nat) (λk=>k<=3/\orI ([x,y,z].drop k)=orI [x,y,z]) (λk=>[⟨8, .int .i64 k,0, .tt⟩,⟨7, .int .i64 3,0, .tt⟩,⟨6, .slice (some ⟨b,0,none⟩) 3 3,2, .tt⟩,⟨3, .int .i64 0,0, .tt⟩]) [] (λk=>[]) (λk=>3-k) (0) (⟨by omega,rfl⟩) rfl ?_ (λ_=>rfl) λk hI=>?_
 ·rfl
 refine J.q hX λ_=>?_;refine J.cond rfl (λh1=>?_) (λh1=>?_)
 ·simp only[decide_eq_true_eq]at h1;obtain⟨v,hv⟩:∃v,([x,y,z]:List Int)[k]? =some v:=⟨_,List.getElem?_eq_getElem (by simp;omega)⟩;have hd:([x,y,z]:List Int).drop k=v::([x,y,z]:List Int).drop (k+1):=by
   obtain⟨h2,h3⟩:=List.getElem?_eq_some_iff.1 hv;rw[List.drop_eq_getElem_cons h2,h3]
  refine J.q hX λ_=>?_;refine J.val hX (.int .i64 v) 0 rfl rfl (λhg a w he hs=>?_) rfl trivial ?_
  ·exact load1_run tk rfl rfl he rfl rfl rfl (hs.get (i:=1) rfl) (by
    rw[show 0+(k:Int).toNat*1=k from by omega,show([.int .i64 x, .int .i64 y, .int .i64 z]:List Value)=([x,y,z]:List Int).map (.int .i64)from rfl,List.getElem?_map,hv];rfl)
  refine J.q hX λ_=>?_;refine J.cond rfl (λh2=>?_) (λh2=>?_)
  ·simp only[bne_iff_ne,ne_eq]at h2;refine J.q hX λ_=>?_;refine J.ru hX [1] ?_;refine⟨?_,rfl⟩;rw[<- hI.2,hd];simp[orI,h2]
  ·simp only[bne_eq_false_iff_eq]at h2;refine J.q hX λ_=>?_;refine J.nx (k+1) (⟨by omega,by rw[<- hI.2,hd,orI,if_neg (by simp[h2])]⟩) (by omega) (λ_ s=>s)
 ·simp only[decide_eq_false_iff_not]at h1;refine J.q hX λ_=>?_;refine J.ru hX [1] ?_;refine⟨?_,rfl⟩;rw[<- hI.2,List.drop_of_length_le (by simp;omega)];rfl
abbrev aggA (x:A3):Value:= .agg #[.int .i64 x.1, .int .i64 x.2.1, .int .i64 x.2.2]
def ordI (x y:A3):Int:=orI [cmpI x.1 y.1,cmpI x.2.1 y.2.1,cmpI x.2.2 y.2.2]
theorem s_order (x y:A3):Fn Tryz.prog 280 [aggA x,aggA y] [] (λv As=>v= .int .i64 (ordI x y)/\As=[]):=by
 refine Fn.enter [0,0] Tryz.func280 rfl rfl rfl λX F hX=>?_;refine J.q hX λ_=>?_;refine J.plan (.of [0,5,8,13,20,25,28,33,40,45,48,53,18,38,58,62,66,68]) [17] [1,2] (by rw[hX.hP];kernel_rfl) (by kernel_rfl) ?_;refine J.q hX λ_=>?_;refine J.cb hX (c_Compare x.1 y.1) [] ?_;refine cpq ⟨_,rfl,⟨rfl,rfl,trivial⟩,?_⟩;refine J.q hX λ_=>?_;refine J.cb hX (c_Compare x.2.1 y.2.1) [] ?_;refine cpq ⟨_,rfl,⟨rfl,rfl,trivial⟩,?_⟩;refine J.q hX λ_=>?_;refine J.cb hX (c_Compare x.2.2 y.2.2) [] ?_;refine cpq ⟨_,rfl,⟨rfl,rfl,trivial⟩,?_⟩;refine J.q hX λbb=>?_;refine J.cb hX (c_Or (bb 0) (cmpI x.1 y.1) (cmpI x.2.1 y.2.1) (cmpI x.2.2 y.2.2)) [3] ?_;refine cpq ⟨_,rfl,⟨rfl,rfl,trivial⟩,?_⟩;refine J.q hX λ_=>?_;exact J.ru hX [] ⟨rfl,rfl⟩
def d3:A3:=(0,0,0)
def cellsA (l:List A3):List Value:=l.flatMap λx=>[.int .i64 x.1, .int .i64 x.2.1, .int .i64 x.2.2]
theorem cellsA_len (l:List A3):(cellsA l).length=l.length*3:=by
 induction l with
 | nil=>rfl
 | cons x l ih=>simp only[cellsA,List.flatMap_cons,List.length_append,List.length_cons]at ih ⊢;rw[ih];simp;omega
theorem cellsA_at:∀(l:List A3) (r:List Value) (k:Nat) (x:A3),l[k]? =some x->((cellsA l++r).drop (k*3)).take 3=[.int .i64 x.1, .int .i64 x.2.1, .int .i64 x.2.2]
 | [],_,_,_,h=>by simp at h
 | y::l,r,0,x,h=>by simp at h;subst h;simp[cellsA]
 | y::l,r,k+1,x,h=>by
  have:=cellsA_at l r k x (by simpa using h);rw[show(k+1)*3=3+k*3 from by omega,<- List.drop_drop];simpa[cellsA]using this
theorem cellsA_set:∀(l:List A3) (r:List Value) (k:Nat) (x:A3),k<l.length->(cellsA l++r).take (k*3)++[.int .i64 x.1, .int .i64 x.2.1, .int .i64 x.2.2]++(cellsA l++r).drop (k*3+3)=cellsA (l.set k x)++r
 | [],_,_,_,h=>by simp at h
 | y::l,r,0,x,h=>by simp[cellsA]
 | y::l,r,k+1,x,h=>by
  have:=cellsA_set l r k x (by simpa using h);rw[show(k+1)*3=3+k*3 from by omega];simp only[cellsA,List.flatMap_cons,List.set_cons_succ,List.append_assoc,List.cons_append,List.nil_append]at this ⊢;rw[show 3+k*3=k*3+1+1+1 from by omega,show k*3+1+1+1+3=(k*3+3)+1+1+1 from by omega];simp only[List.take_succ_cons,List.drop_succ_cons,List.cons_append,this]
def swp (l:List A3) (j:Nat):List A3:=(l.set j (l.getD (j-1) d3)).set (j-1) (l.getD j d3)
def sink (f:A3->A3->Int):Nat->List A3->List A3
 | 0,l=>l
 | j+1,l=>if f (l.getD (j+1) d3) (l.getD j d3)<0 then sink f j (swp l (j+1))else l
def isortN (f:A3->A3->Int) (l:List A3):Nat->List A3
 | 0=>l
 | k+1=>sink f (k+1) (isortN f l k)
def isort (f:A3->A3->Int) (l:List A3):List A3:=isortN f l (l.length-1)
theorem swp_len (l:List A3) (j:Nat):(swp l j).length=l.length:=by simp[swp]
theorem swp_perm (l:List A3) (j:Nat) (h:j+1<l.length):(swp l (j+1)).Perm l:=by
 induction l generalizing j with
 | nil=>simp at h
 | cons x l ih=>
  cases j with
  | zero=>
   cases l with
   | nil=>simp at h
   | cons y l=>simp only[swp,List.set_cons_succ,List.set_cons_zero,Nat.add_sub_cancel,Nat.zero_add,List.getD_cons_zero,List.getD_cons_succ];exact List.Perm.swap _ _ _
  | succ j=>
   have:=ih j (by simpa using h);simp only[swp,Nat.add_sub_cancel,List.set_cons_succ,List.getD_cons_succ]at this ⊢;exact this.cons x
theorem sink_perm (f:A3->A3->Int):∀(j:Nat) (l:List A3),j<l.length->(sink f j l).Perm l
 | 0,l,_=>List.Perm.refl _
 | j+1,l,h=>by
  unfold sink;split
  ·exact(sink_perm f j _ (by rw[swp_len];omega)).trans (swp_perm l j h)
  ·exact List.Perm.refl _
theorem isortN_len' (f:A3->A3->Int) (l:List A3):∀k,k<l.length->(isortN f l k).Perm l/\(isortN f l k).length=l.length
 | 0,_=>⟨List.Perm.refl _,rfl⟩
 | k+1,h=>by
  obtain⟨h1,h2⟩:=isortN_len' f l k (by omega);exact⟨(sink_perm f (k+1) _ (by omega)).trans h1,by rw[isortN,(sink_perm f (k+1) _ (by omega)).length_eq,h2]⟩
theorem isort_perm (f:A3->A3->Int) (l:List A3):(isort f l).Perm l:=by
 cases l with
 | nil=>exact List.Perm.refl _
 | cons x l=>exact(isortN_len' f (x::l) _ (by simp)).1
theorem sink_len (f:A3->A3->Int):∀(j:Nat) (l:List A3),(sink f j l).length=l.length
  | 0,l=>rfl
  | j + 1, l => by unfold sink; split
                   · rw[sink_len f j,swp_len]
                   · rfl
theorem isortN_len (f:A3->A3->Int) (l:List A3):∀k,(isortN f l k).length=l.length
 | 0=>rfl
 | k+1=>by rw[isortN,sink_len,isortN_len f l k]
def fnV (c:Nat):Value:= .func (.func c) #[] #[]
theorem i_Sort (c:Nat) (f:A3->A3->Int) (hcal:callable Tryz.prog c=true) (hf:∀x y,Fn Tryz.prog c [aggA x,aggA y] [] (λv As=>v= .int .i64 (f x y)/\As=[]))
  (g n cap:Nat) (l:List A3) (hl:l.length=n) (hn:n<=4611686018427387904) (r:List Value):Fn Tryz.prog 288 [.slice (some ⟨g,0,none⟩) n cap, .int .i64 0, .int .i64 n,fnV c] [.pt g 32 (cellsA l++r)]
  (λv As=>v= .tuple #[]/\As=[.pt g 32 (cellsA (isort f l)++r)]):=by
 refine Fn.enter [2,0,0,0] Tryz.func288 rfl rfl rfl λX F hX=>?_;refine J.q hX λ_=>?_;refine J.lo (α:=Nat) (λi=>1<=i/\i<=max 1 n) (λi=>[⟨8, .int .i64 i,0, .tt⟩,⟨0, .slice (some ⟨g,0,none⟩) n cap,2, .tt⟩,⟨1, .int .i64 0,0, .tt⟩,⟨2, .int .i64 n,0, .tt⟩,⟨3,fnV c,0, .tt⟩]) [1] (λi=>[.pt g 32 (cellsA (isortN f l (i-1))++r)]) (λi=>n-i) (1) (⟨by omega,by omega⟩) rfl ?_ (λ_=>rfl) λi hI=>?_
 ·rfl
 refine J.q hX λ_=>?_;refine J.cond rfl (λh1=>?_) (λh1=>?_)
 ·simp only[decide_eq_true_eq,Int.ofNat_lt]at h1;refine J.q hX λ_=>?_;refine J.lo (α:=(Nat×List A3)) (λy=>y.1<=i/\y.2.length=n/\sink f y.1 y.2=isortN f l i) (λy=>[⟨9, .int .i64 y.1,0, .tt⟩,⟨8, .int .i64 i,0, .tt⟩,⟨0, .slice (some ⟨g,0,none⟩) n cap,2, .tt⟩,⟨1, .int .i64 0,0, .tt⟩,⟨2, .int .i64 n,0, .tt⟩,⟨3,fnV c,0, .tt⟩]) [1] (λy=>[.pt g 32 (cellsA y.2++r)]) (λy=>y.1) ((i,isortN f l (i-1))) (⟨Nat.le_refl _,by rw[isortN_len,hl],by obtain⟨k,rfl⟩:∃k,i=k+1:=⟨i-1,by omega⟩;rfl⟩) rfl ?_ (λ_=>rfl) λy hI=>?_
  ·rfl
  obtain⟨j,m⟩:=y;dsimp only at hI ⊢;have hget:∀e,e<n->m[e]? =some (m.getD e d3):=λe he=>by rw[List.getD_eq_getElem?_getD,List.getElem?_eq_getElem (by omega),Option.getD_some]
  rcases Nat.eq_zero_or_pos j with h2 | h2
  ·subst h2;refine J.q hX λ_=>?_;refine J.plan (.of [0,4,8,12,16,20,24,28,33,36,40,44,48,53,58,60,64]) [] [1] (by rw[hX.hP];kernel_rfl) (by kernel_rfl) ?_;refine J.qn hX 4 λ_=>?_;rw[show decide (((0:Nat):Int)>0)=false from rfl];refine J.q hX λ_=>?_;refine J.valT hX (aggA d3) 0 rfl rfl (λhg a w he hC=>by simp[G.on]at hg) rfl ?_;refine J.q hX λ_=>?_;refine J.valT hX (aggA d3) 0 rfl rfl (λhg a w he hC=>by simp[G.on]at hg) rfl ?_;refine J.q hX λ_=>?_;refine J.gcase hX rfl rfl rfl ⟨rfl,trivial⟩ (λh=>by cases h) (λ_=>?_);refine J.valT hX (.bool false) 0 rfl rfl (λhg a w he hC=>by simp[G.on]at hg) rfl ?_;refine J.q hX λ_=>?_;refine J.cF ?_;have hm:m=isortN f l (i+1-1):=hI.2.2;rw[hm];refine J.q hX λ_=>?_;refine J.nS (i+1) (⟨by omega,by omega⟩) (by omega) [0,1] rfl rfl
  ·obtain⟨j,rfl⟩:∃k,j=k+1:=⟨j-1,by omega⟩;refine J.q hX λ_=>?_;refine J.plan (.of [0,4,8,12,16,20,24,28,33,36,40,44,48,53,58,60,64]) [] [1] (by rw[hX.hP];kernel_rfl) (by kernel_rfl) ?_;refine J.qn hX 4 λ_=>?_;rw[show decide (((j+1:Nat):Int)>0)=true from decide_eq_true (by omega)];refine J.q hX λ_=>?_;refine J.valT hX (aggA (m.getD (j+1) d3)) 0 rfl rfl (λhg a w he hC=>?_) rfl ?_
   ·exact loadN_run tk rfl rfl he hg rfl rfl (hC rfl _ (cget_mem (i:=1) rfl)) (by rw[show 0+((j+1:Nat):Int).toNat*3=(j+1)*3 from by omega];exact cellsA_at m r _ _ (hget _ (by omega))) rfl
   refine J.q hX λ_=>?_;refine J.valT hX (aggA (m.getD j d3)) 0 rfl rfl (λhg a w he hC=>?_) rfl ?_
   ·exact loadN_run tk rfl rfl he hg rfl rfl (hC rfl _ (cget_mem (i:=1) rfl)) (by rw[show 0+(((j+1:Nat):Int)-1).toNat*3=j*3 from by omega];exact cellsA_at m r _ _ (hget _ (by omega))) rfl
   refine J.q hX λ_=>?_;refine J.call hX hcal (hf (m.getD (j+1) d3) (m.getD j d3)) [] 0 rfl rfl rfl rfl (by(repeat' (first | exact Conj.nil | refine Conj.cons ?_ ?_ | omega | exact hq0 | (simpa using hq0) | (exactλh=>h) | exact rfl | (intro hq;have hq0:=hq;try simp only[Bool.and_eq_true,Bool.or_eq_true,decide_eq_true_eq,Bool.not_eq_true',decide_eq_false_iff_not]at hq) | (simp;done) | (simp;omega) | decide))) rfl rfl (λ_=>rfl) ?_;refine cpq ⟨_,rfl,⟨rfl,trivial⟩,?_⟩;refine J.q hX λ_=>?_;refine J.cond rfl (λh3=>?_) (λh3=>?_)
   ·simp only[Bool.true_and,decide_eq_true_eq]at h3;refine J.q hX λ_=>?_;refine J.plan (.take true 0 (.take true 1 (.take true 2 (.take true 3 (.take true 4 (.take true 5 (.take true 6 (.take true 7 (.take true 8 (.take true 10 (.take true 11 (.take true 12 (.alt false 9 ((.of [54,56,62,64,71])) (.alt false 13 ((.of [38,56,62,64,71])) .non)))))))))))))) [16,17] [] (by rw[hX.hP];kernel_rfl) (by kernel_rfl) ?_;refine J.q hX λ_=>?_;refine J.alts ?_ ?_
    ·refine J.val hX (aggA (m.getD j d3)) 0 rfl rfl (λhg a w he hs=>?_) rfl trivial ?_
     ·exact loadN_run tk rfl rfl he hg rfl rfl (hs.get (i:=1) rfl) (by rw[show 0+(((j+1:Nat):Int)-1).toNat*3=j*3 from by omega];exact cellsA_at m r _ _ (hget _ (by omega))) rfl
     refine J.q hX λ_=>?_;refine J.val hX (aggA (m.getD (j+1) d3)) 0 rfl rfl (λhg a w he hs=>?_) rfl trivial ?_
     ·exact loadN_run tk rfl rfl he hg rfl rfl (hs.get (i:=1) rfl) (by rw[show 0+((j+1:Nat):Int).toNat*3=(j+1)*3 from by omega];exact cellsA_at m r _ _ (hget _ (by omega))) rfl
     refine J.q hX λ_=>?_;refine J.storeN hX tk 1 rfl rfl rfl rfl rfl rfl rfl rfl rfl rfl rfl rfl rfl ?_ (cellsA (m.set (j+1) (m.getD j d3))++r) ?_ rfl (λ_=>rfl) ⟨trivial,?_⟩
     ·rw[List.length_append,cellsA_len];show 0+((j+1:Nat):Int).toNat*3+3<=_;omega
     ·rw[show 0+((j+1:Nat):Int).toNat*3=(j+1)*3 from by omega];exact cellsA_set m r (j+1) _ (by omega)
     refine J.q hX λ_=>?_;refine J.storeN hX tk 1 rfl rfl rfl rfl rfl rfl rfl rfl rfl rfl rfl rfl rfl ?_ (cellsA (swp m (j+1))++r) ?_ rfl (λ_=>rfl) ⟨trivial,?_⟩
     ·rw[List.length_append,cellsA_len,List.length_set];show 0+(((j+1:Nat):Int)-1).toNat*3+3<=_;omega
     ·rw[show 0+(((j+1:Nat):Int)-1).toNat*3=j*3 from by omega];exact cellsA_set _ r j _ (by rw[List.length_set];omega)
     refine J.q hX λ_=>?_;rw[show((j+1:Nat):Int)-1=(j:Int)from by omega];refine J.q hX λ_=>?_;refine J.nS ((j,swp m (j+1))) (⟨by dsimp only;omega,by rw[swp_len];exact hI.2.1,by rw[<- hI.2.2];exact(if_pos h3).symm⟩) (by dsimp only;omega) [0,1] rfl rfl
    ·refine J.val hX (aggA (m.getD (j+1) d3)) 0 rfl rfl (λhg a w he hs=>?_) rfl trivial ?_
     ·exact loadN_run tk rfl rfl he hg rfl rfl (hs.get (i:=1) rfl) (by rw[show 0+((j+1:Nat):Int).toNat*3=(j+1)*3 from by omega];exact cellsA_at m r _ _ (hget _ (by omega))) rfl
     refine J.q hX λ_=>?_;refine J.val hX (aggA (m.getD j d3)) 0 rfl rfl (λhg a w he hs=>?_) rfl trivial ?_
     ·exact loadN_run tk rfl rfl he hg rfl rfl (hs.get (i:=1) rfl) (by rw[show 0+(((j+1:Nat):Int)-1).toNat*3=j*3 from by omega];exact cellsA_at m r _ _ (hget _ (by omega))) rfl
     refine J.q hX λ_=>?_;refine J.storeN hX tk 1 rfl rfl rfl rfl rfl rfl rfl rfl rfl rfl rfl rfl rfl ?_ (cellsA (m.set (j+1) (m.getD j d3))++r) ?_ rfl (λ_=>rfl) ⟨trivial,?_⟩
     ·rw[List.length_append,cellsA_len];show 0+((j+1:Nat):Int).toNat*3+3<=_;omega
     ·rw[show 0+((j+1:Nat):Int).toNat*3=(j+1)*3 from by omega];exact cellsA_set m r (j+1) _ (by omega)
     refine J.q hX λ_=>?_;refine J.storeN hX tk 1 rfl rfl rfl rfl rfl rfl rfl rfl rfl rfl rfl rfl rfl ?_ (cellsA (swp m (j+1))++r) ?_ rfl (λ_=>rfl) ⟨trivial,?_⟩
     ·rw[List.length_append,cellsA_len,List.length_set];show 0+(((j+1:Nat):Int)-1).toNat*3+3<=_;omega
     ·rw[show 0+(((j+1:Nat):Int)-1).toNat*3=j*3 from by omega];exact cellsA_set _ r j _ (by rw[List.length_set];omega)
     refine J.q hX λ_=>?_;rw[show((j+1:Nat):Int)-1=(j:Int)from by omega];refine J.q hX λ_=>?_;refine J.nS ((j,swp m (j+1))) (⟨by dsimp only;omega,by rw[swp_len];exact hI.2.1,by rw[<- hI.2.2];exact(if_pos h3).symm⟩) (by dsimp only;omega) [0,1] rfl rfl
   ·simp only[Bool.true_and,decide_eq_false_iff_not]at h3;have hm:m=isortN f l (i+1-1):=by rw[show i+1-1=i from rfl,<- hI.2.2];exact(if_neg h3).symm
    rw[hm];refine J.q hX λ_=>?_;refine J.nS (i+1) (⟨by omega,by omega⟩) (by omega) [0,1] rfl rfl
 ·simp only[decide_eq_false_iff_not,Int.ofNat_lt]at h1;have hi:isortN f l (i-1)=isort f l:=by
   rw[isort,hl,show i-1=n-1 from by omega]
  rw[hi];refine J.q hX λ_=>?_;refine J.fi hX tk [1] rfl rfl rfl ?_;exact⟨rfl,rfl⟩
end Go.Proofs.YtkdlnfdjjifedaaGreat
