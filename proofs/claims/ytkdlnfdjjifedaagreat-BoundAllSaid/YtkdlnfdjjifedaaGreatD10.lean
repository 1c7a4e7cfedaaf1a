/- Helpers, proved here. No condition. -/
import Derived.Test.YtkdlnfdjjifedaaGreatD01
import Derived.Test.YtkdlnfdjjifedaaGreatD06
import Derived.Test.YtkdlnfdjjifedaaGreatD09
set_option maxRecDepth 20000
set_option linter.all false
namespace Go.Proofs.YtkdlnfdjjifedaaGreat
open Go Go.RowKit
def ext (l:List NCell) (m:Nat):List NCell:=l++List.replicate m Nand.zcell
theorem ext_succ (l:List NCell) (m:Nat):ext l m++[Nand.zcell]=ext l (m+1):=by simp[ext,List.replicate_succ']
theorem ext_len (l:List NCell) (m:Nat):(ext l m).length=l.length+m:=by simp[ext]
def lostTo (l:List NCell) (k:Nat):List NCell:=(l.take k).map (λc=>{c with lost:=true})++l.drop k
theorem lostTo_len (l:List NCell) (k:Nat):(lostTo l k).length=l.length:=by simp[lostTo];omega
theorem lostTo_succ {l:List NCell} {k:Nat} (h:k<l.length):(lostTo l k).modify k (λc=>{c with lost:=true})=lostTo l (k+1):=by
 apply List.ext_getElem?;intro j;rw[List.getElem?_modify];simp only[lostTo,List.getElem?_append,List.length_map,List.length_take,List.getElem?_map,List.getElem?_take,List.getElem?_drop]
 by_cases e:k=j
 ·subst e;rw[if_neg (by omega),if_pos (by omega),if_pos (by omega),show k+(k-min k l.length)=k from by omega];rw[List.getElem?_eq_getElem h];simp
 ·have e2:(λa:NCell=>if k=j then {a with lost:=true}else a)=id:=by funext a;rw[if_neg e];rfl
  simp only[Option.map_eq_map,e2,Option.map_id_fun,id]
  by_cases h1:j<k
  ·rw[if_pos (show j<min k l.length by omega),if_pos h1,if_pos (show j<min (k+1) l.length by omega),if_pos (show j<k+1 by omega)]
  ·rw[if_neg (show¬j<min k l.length by omega),if_neg (show¬j<min (k+1) l.length by omega),show k+(j-min k l.length)=j from by omega,show k+1+(j-min (k+1) l.length)=j from by omega]
theorem foldl_erase:∀(l' pl:List A3),pl.Nodup->l'.foldl List.erase pl=pl.filter (λx=>decide (x∉l'))
 | [],pl,_=>(List.filter_eq_self.2 (by simp)).symm
 | a::l',pl,h=>by
  rw[List.foldl_cons,foldl_erase l' _ (h.erase a),h.erase_eq_filter,List.filter_filter];apply List.filter_congr;intro x _
  by_cases e:x=a
  ·subst e;simp
  ·simp[e]
theorem erase_all {l' pl:List A3} {x y:Int} (h:pl.Nodup) (hp:l'.Perm (pl.filter λa=>!((a.1 !=x)||(a.2.1 !=y)))):l'.foldl List.erase pl=pl.filter λa=>!(decide (a.1=x)&&decide (a.2.1=y)):=by
 rw[foldl_erase l' pl h];apply List.filter_congr;intro a ha;have:a∈l'↔(a.1=x/\a.2.1=y):=by
  rw[hp.mem_iff,List.mem_filter];simp[ha]
 by_cases h1:a.1=x/\a.2.1=y
 ·rw[decide_eq_false (by rw[this];simpa using h1)];simp[h1]
 ·rw[decide_eq_true (by rw[this];exact h1)];simp only[not_and]at h1
  by_cases h2:a.1=x
  ·simp[h2,h1 h2]
  ·simp[h2]
theorem eraseN_cut {N:Nand} {x y:Int} (h:N.refuses x y 0=0) (h6:N.cutB=true):N.eraseN x y=N.cutN.setBlk x.toNat y.toNat {N.blk x.toNat y.toNat with cells:=((N.blk x.toNat y.toNat).cells++List.replicate (N.pages-(N.blk x.toNat y.toNat).cells.length) Nand.zcell).map λc=>{c with lost:=true}}:=by
 unfold Nand.eraseN;rw[if_neg (by simp[h]),if_pos h6]
theorem eraseN_fail {N:Nand} {x y:Int} (h:N.refuses x y 0=0) (h6:N.cutB=false) (h7:(N.blk x.toNat y.toNat).fails=true):N.eraseN x y=N.cutN.setBlk x.toNat y.toNat {N.blk x.toNat y.toNat with met:=true}:=by
 unfold Nand.eraseN;rw[if_neg (by simp[h]),if_neg (by simp[h6]),if_pos h7]
theorem eraseN_ok {N:Nand} {x y:Int} (h:N.refuses x y 0=0) (h6:N.cutB=false) (h7:(N.blk x.toNat y.toNat).fails=false):N.eraseN x y={N.cutN.setBlk x.toNat y.toNat {N.blk x.toNat y.toNat with cells:=[],worn:=(N.blk x.toNat y.toNat).worn+1}with plan:=N.plan.filter λa=>!(decide (a.1=x)&&decide (a.2.1=y))}:=by
 unfold Nand.eraseN;rw[if_neg (by simp[h]),if_neg (by simp[h6]),if_neg (by simp[h7])]
theorem n_Erase (p:Nat) (N:Nand) (hN:N.Ok) (hR:N.Room) (hpn:N.plan.Nodup) (hpl:N.plan.length<=12) (x y:Int):Fn Tryz.prog 182 [.pointer (some ⟨p,0,none⟩), .int .i64 x, .int .i64 y] [NandA p N] (λv As=>v= .int .i64 (N.eraseE x y)/\As=[NandA p (N.eraseN x y)]):=by
 have hbd:=hN.bd;have hnum:=hN.num;have hr0:=hR.ops;refine Fn.enter [2,0,0] Tryz.func182 rfl rfl rfl λX F hX=>?_;refine J.q hX λ_=>?_;refine J.cb hX (n_key x y) [] ?_;refine cpq ⟨_,rfl,trivial,?_⟩;refine J.q hX λ_=>?_;refine J.cb hX (n_refuses p N hN x y 0) [1] ?_;refine cpq ⟨_,rfl,trivial,?_⟩;refine J.q hX λ_=>?_;refine J.cond rfl (λh=>?_) (λh=>?_)
 ·simp only[bne_iff_ne,ne_eq]at h;refine J.q hX λ_=>?_;refine J.ru hX [1] ?_;exact⟨by simp only[Nand.eraseE,ne_eq,h,not_false_eq_true,if_pos],by simp only[Nand.eraseN,ne_eq,h,not_false_eq_true,if_pos];rfl⟩
 simp only[bne_eq_false_iff_eq]at h;obtain⟨hoff,hdd,hr⟩:=Nand.refuses_zero h;obtain⟨i,rfl⟩:=Int.eq_ofNat_of_zero_le hr.1;obtain⟨j,rfl⟩:=Int.eq_ofNat_of_zero_le hr.2.2.1;have hi:i<N.dies:=by omega
 have hj:j<N.blocks:=by omega
 have hlen:=(hN.cells i j hi hj).1;refine J.open_ (α:=NLoc) 1 rfl rfl (λ_=>rfl) λY=>?_;refine J.openAt 5 (i*N.blocks+j) rfl rfl (blksL_get _ _ _ _ _ (lt_ij hi hj)) rfl ?_;rw[(div_ij hj).1,(div_ij hj).2];refine J.open_ (α:=(Option Nat×Nat)) 6 rfl rfl (λ_=>rfl) λc=>?_;refine J.q hX λ_=>?_;refine J.plan (.of [0,4,8,13,16,20,26,29,32]) [8] [1,2,3,4,5,6,7] (by rw[hX.hP];kernel_rfl) (by kernel_rfl) ?_;refine J.q hX λ_=>?_;refine J.cb hX (n_key i j) [] ?_;refine cpq ⟨_,rfl,⟨rfl,rfl,rfl,rfl,rfl,rfl,rfl,trivial⟩,?_⟩;refine J.q hX λ_=>?_;refine J.valT hX (.pointer (some ⟨Y.bp (i*N.blocks+j),0,none⟩)) 7 rfl rfl (λ_ a w he hC=>?_) rfl ?_
 ·refine(lookup_run (key:=((i:Int),(j:Int),0)) key39 umapB (z:= .pointer none) (λw=>by kernel_rfl) rfl rfl rfl rfl he rfl rfl (hC rfl _ (cget_mem (i:=2) rfl))).trans ?_;simp only[alook_in hi hj];rfl
 refine J.q hX λ_=>?_;refine J.cb hX (n_cut p N Y hN hR) [1] ?_;refine cpq ⟨_,rfl,trivial,?_⟩;refine J.q hX λ_=>?_;refine J.cond rfl (λh6=>?_) (λh6=>?_)
 ·refine J.q hX λ_=>?_;rw[show(N.blk i j).cells=ext (N.blk i j).cells 0 from by simp[ext]];refine J.q hX λ_=>?_;refine J.lo (α:=(Option Nat×Nat×Nat)) (λz=>(ext (N.blk i j).cells z.2.2).length<=N.pages) (λz=>[⟨8, .pointer (some ⟨Y.bp (i*N.blocks+j),0,none⟩),7, .tt⟩,⟨0, .pointer (some ⟨p,0,none⟩),2, .tt⟩]) [6,7] (λz=>[.pt (Y.bp (i*N.blocks+j)) 112 [slv z.1 (ext (N.blk i j).cells z.2.2).length z.2.1, .int .i64 (N.blk i j).worn, .bool (N.blk i j).fails, .bool (N.blk i j).met],ownA 168 34 z.1 (ext (N.blk i j).cells z.2.2).length z.2.1 (cellsV (ext (N.blk i j).cells z.2.2))]) (λz=>N.pages-(ext (N.blk i j).cells z.2.2).length) ((c.1,c.2,0)) (by rw[ext_len];omega) rfl ?_ (λ_=>rfl) λz hI=>?_
  ·rfl
  obtain⟨a,cap,m⟩:=z;dsimp only at hI ⊢;refine J.q hX λ_=>?_;refine J.plan (.of [0,4,8,13,16,20,24,28,32,37,40]) [] [1,2,3,4,5,6,7] (by rw[hX.hP];kernel_rfl) (by kernel_rfl) ?_;refine J.q hX λ_=>?_;refine J.cond rfl (λh8=>?_) (λh8=>?_)
  ·simp only[decide_eq_true_eq,Int.ofNat_lt]at h8;rw[show N.cutN.pages=N.pages from rfl]at h8;refine J.q hX λ_=>?_;refine J.append hX tk 7 8 0 rfl rfl rfl rfl rfl rfl rfl rfl rfl rfl rfl rfl rfl rfl rfl rfl ?_ ?_ (λ_=>rfl) λa' cap'=>⟨_,snocC Nand.zcell rfl rfl,trivial,?_⟩
   ·simp only[maxLen];omega
   ·omega
   refine J.q hX λ_=>?_;rw[snocLen _ Nand.zcell,ext_succ];refine J.q hX λ_=>?_;refine J.nS ((a',cap',m+1)) (by dsimp only;rw[ext_len]at h8 ⊢;omega) (by dsimp only;rw[ext_len]at h8 ⊢;rw[ext_len];omega) [0,1,2,3,4,5,6,7] rfl rfl
  ·simp only[decide_eq_false_iff_not,Int.ofNat_lt]at h8;rw[show N.cutN.pages=N.pages from rfl]at h8;have hm:(ext (N.blk i j).cells m).length=N.pages:=by omega
   have hm2:m=N.pages-(N.blk i j).cells.length:=by rw[ext_len]at hm;omega
   have hext:ext (N.blk i j).cells m=(N.blk i j).cells++List.replicate (N.pages-(N.blk i j).cells.length) Nand.zcell:=by rw[hm2];rfl
   generalize ext (N.blk i j).cells m=B at hm hext;refine J.know (λh' s=>own_some (c:=(a,cap)) (by omega) (s.get (i:=7) rfl)) λhg=>?_;obtain⟨g,hg⟩:=hg;simp only at hg;subst hg;refine J.openOwn 7 rfl rfl (λ_=>rfl) λr q1 q2 q3 q4=>?_;refine J.q hX λ_=>?_;refine J.lo (α:=Nat) (λk=>k<=B.length) (λk=>[⟨56, .int .i64 k,0, .tt⟩,⟨55, .int .i64 B.length,0, .tt⟩,⟨8, .pointer (some ⟨Y.bp (i*N.blocks+j),0,none⟩),7, .tt⟩]) [7] (λk=>[.pt g 168 (cellsV (lostTo B k)++r)]) (λk=>B.length-k) (0) (Nat.zero_le _) rfl ?_ (λ_=>rfl) λk hI=>?_
   ·rfl
   refine J.q hX λ_=>?_;refine J.cond rfl (λh9=>?_) (λh9=>?_)
   ·simp only[decide_eq_true_eq,Int.ofNat_lt]at h9;refine J.q hX λ_=>?_;have hbl:(lostTo B k).length=B.length:=lostTo_len B k;obtain⟨cl,hcl⟩:∃cl,(lostTo B k)[k]? =some cl:=⟨_,List.getElem?_eq_getElem (by omega)⟩;refine J.store1 hX tk 7 rfl rfl rfl rfl rfl rfl rfl rfl rfl rfl rfl rfl rfl ?_ (cellsV (lostTo B (k+1))++r) ?_ rfl (λ_=>rfl) ⟨trivial,?_⟩
    ·rw[List.length_append,cellsV_len];show 0+(k:Int).toNat*34+32<_;simp only[Int.toNat_natCast];omega
    ·rw[show 0+(k:Int).toNat*34+32=k*34+32 from by simp,List.set_append_left _ _ (by rw[cellsV_len];omega)];rw[cellsV_set _ k 32 _ (λc=>{c with lost:=true}) cl hcl (by omega) rfl,lostTo_succ h9]
    refine J.q hX λ_=>?_;refine J.nx (k+1) (by omega) (by omega) (λ_ s=>s)
   ·simp only[decide_eq_false_iff_not,Int.ofNat_lt]at h9;obtain rfl:k=B.length:=by omega
    have hall:lostTo B B.length=B.map λc=>{c with lost:=true}:=by simp[lostTo]
    rw[hall];have hmb:(B.map λc=>{c with lost:=true}).length=B.length:=by simp
    generalize hB':(B.map λc=>{c with lost:=true})=B' at hmb;refine J.closeOwn (e:=168) (size:=34) (n:=B.length) (cap:=cap) (xs:=cellsV B') 7 rfl rfl (by rw[cellsV_len,hmb]) q2 q3 (by rw[List.length_append,cellsV_len,hmb];rw[cellsV_len]at q4;exact q4) (by rw[List.take_left' (by rw[cellsV_len,hmb])]) rfl ?_;rw[<- hmb];refine J.q hX λ_=>?_;refine J.closeN p N (N.cutN.setBlk i j {N.blk i j with cells:=B'}) Y i j hj ({N.blk i j with cells:=B'}) (some g,cap) [1,2,3,4,5,6,7] rfl rfl rfl rfl (rfl) rfl ?_;refine J.q hX λ_=>?_;refine J.ru hX [1] ?_;exact⟨by simp[Nand.eraseE,h,h6],by rw[eraseN_cut h h6,<- hB',hext];rfl⟩
 refine J.q hX λ_=>?_;refine J.cond rfl (λh7=>?_) (λh7=>?_)
 ·refine J.q hX λ_=>?_;refine J.closeN p N (N.cutN.setBlk i j {N.blk i j with met:=true}) Y i j hj ({N.blk i j with met:=true}) _ [1,2,3,4,5,6,7] rfl rfl rfl rfl (rfl) rfl ?_;refine J.q hX λ_=>?_;refine J.ru hX [1] ?_;exact⟨by simp[Nand.eraseE,h,h6,h7],by rw[eraseN_fail h h6 h7];rfl⟩
 have hw:=(hnum.2.2 i j);refine J.q hX λ_=>?_;refine J.turn1 [7] rfl (As:=[ownA 168 34 none 0 0 (cellsV [])]) (λh s=>Sep.one ⟨rfl,rfl,rfl⟩) rfl ?_;refine J.q hX λ_=>?_;refine J.cb hX (s_Block Y.q N.plan hpl i j) [3] ?_;rintro v As ⟨a,cap,l',hp,rfl,rfl⟩;have hl12:l'.length<=12:=by rw[hp.length_eq];exact Nat.le_trans (List.length_filter_le _ _) hpl
 refine⟨_,rfl,trivial,?_⟩;refine J.q hX λ_=>?_;refine J.lo (α:=Nat) (λk=>k<=l'.length) (λk=>[⟨92, .int .i64 k,0, .tt⟩,⟨91, .int .i64 l'.length,0, .tt⟩,⟨90,slv a l'.length cap,0, .tt⟩,⟨0, .pointer (some ⟨p,0,none⟩),2, .tt⟩]) [3] (λk=>[SpotA Y.q ((l'.take k).foldl List.erase N.plan)]) (λk=>l'.length-k) (0) (Nat.zero_le _) rfl ?_ (λ_=>rfl) λk hI=>?_
 ·rfl
 refine J.q hX λ_=>?_;refine J.cond rfl (λh9=>?_) (λh9=>?_)
 ·simp only[decide_eq_true_eq,Int.ofNat_lt]at h9;cases a with
  | none=>
   refine J.know (λh' s=>(s.get (i:=8) rfl).2.1) λhn0=>?_;omega
  | some g=>
   have hk:l'[k]? =some (l'.getD k d3):=by rw[List.getD_eq_getElem?_getD,List.getElem?_eq_getElem h9,Option.getD_some]
   refine J.q hX λ_=>?_;refine J.val hX (aggA (l'.getD k d3)) 0 rfl rfl (λhg a w he hs=>?_) rfl trivial ?_
   ·exact ownN_run tk rfl rfl he rfl rfl rfl (hs.get (i:=8) rfl) (by rw[show 0+(k:Int).toNat*3=k*3 from by omega];exact cellsA_get hk) rfl
   refine J.q hX λ_=>?_;refine J.plan (.of [0,4,8,13,17,22]) [] [1,2,4,5,6,7,8,9] (by rw[hX.hP];kernel_rfl) (by kernel_rfl) ?_;refine J.q hX λ_=>?_;refine J.cb hX (s_Drop Y.q ((l'.take k).foldl List.erase N.plan) (l'.getD k d3).1 (l'.getD k d3).2.1 (l'.getD k d3).2.2) [3] ?_;refine cpq ⟨_,rfl,⟨rfl,rfl,rfl,rfl,rfl,rfl,rfl,rfl,trivial⟩,?_⟩;refine J.q hX λ_=>?_;have hst:((l'.take k).foldl List.erase N.plan).erase (l'.getD k d3)=(l'.take (k+1)).foldl List.erase N.plan:=by
    rw[List.take_add_one,hk];simp
   rw[show(((l'.getD k d3).1,(l'.getD k d3).2.1,(l'.getD k d3).2.2):A3)=l'.getD k d3 from rfl,hst];refine J.q hX λ_=>?_;refine J.nS (k+1) (by omega) (by omega) [0,1,2,3,4,5,6,7,8] rfl rfl
 ·simp only[decide_eq_false_iff_not,Int.ofNat_lt]at h9;obtain rfl:k=l'.length:=by omega
  rw[List.take_length,erase_all hpn hp];refine J.q hX λ_=>?_;refine J.closeN p N ({N.cutN.setBlk i j {N.blk i j with cells:=[],worn:=(N.blk i j).worn+1}with plan:=N.plan.filter λa=>!(decide (a.1=(i:Int))&&decide (a.2.1=(j:Int)))}) Y i j hj ({N.blk i j with cells:=[],worn:=(N.blk i j).worn+1}) (none,0) [1,2,3,4,5,6,7] rfl rfl rfl rfl (rfl) rfl ?_;refine J.q hX λ_=>?_;refine J.ru hX [1] ?_;exact⟨by simp[Nand.eraseE,h,h6,h7],by rw[eraseN_ok h h6 h7];rfl⟩
end Go.Proofs.YtkdlnfdjjifedaaGreat
namespace Go.Proofs.YtkdlnfdjjifedaaGreat
open Go.RowKit

set_option maxHeartbeats 400000 in
theorem bits_may (n:Int) (w:World):
  Calls Tryz.prog 273 #[.int .i64 n] w λe w'=>e= .returned (.bool (decide (1<=n)&&decide (n<=64)))/\w=w':=by
 by_cases h0:1<=n
 ·go_enter Tryz.func273,Tryz.ntmps273
  go_wp2
  go_ret
  exact⟨retB (by simp[h0]),rfl⟩
 ·go_enter Tryz.func273,Tryz.ntmps273
  go_wp2
  go_ret
  exact⟨retB (by simp;omega),rfl⟩

theorem Tryz.info5:(Tryz.prog.info? 5).map (λi=>(i.zero,i.size,i.bytes))=some (some (.int .u8 0),1,1):=by kernel_rfl
def OutAt (w:World) (B g:Nat) (l:List Bool):Prop:=B<=g/\∃v,Blk w g 322 #[v, .int .i64 l.length]/\w.ownsRow B 5 1 v (Bt.pack l).length ((Bt.pack l).map bv)

theorem prep8 (len:Nat):∃q r s:Nat,len/8=q/\len % 8=r/\7-r=s/\r<=7/\(len:Int).tdiv 8=(q:Int)/\(len:Int).tmod 8=(r:Int)/\IntKind.i64.wrap (7-(r:Int))=(s:Int)/\(len:Int) % 8=(r:Int):=
 ⟨len/8,len % 8,7-len % 8,rfl,rfl,rfl,by omega,by rw[Int.tdiv_eq_ediv_of_nonneg (by omega)];rfl,by rw[Int.tmod_eq_emod_of_nonneg (by omega)];rfl,by rw[IntWalk.i64_in _ (by omega)];omega,rfl⟩
theorem own_cap {w:World} {base:Nat} {e:TypeId} {size n m cap:Nat} {a:Addr} {xs:List Value} (h:w.ownsRow base e size (.slice (some a) m cap) n xs):n<=cap:=by
 rcases h.2 with⟨h,_⟩ | ⟨g',c,cur,h,_,_,hc,_⟩
 ·cases h
 ·injection h with _ _ h;subst h;exact hc
theorem u64_bit (u i:Nat) (hu:u<18446744073709551616):bits BinOp.and IntKind.u64 ((u:Int)/2^i) 1 % 256=((u.testBit i).toNat:Int):=by
 have e:(u:Int)/2^i=((u/2^i:Nat):Int):=by simp
 have hb:u/2^i<=u:=Nat.div_le_self _ _;rw[e,show(1:Int)=((1:Nat):Int)from rfl,u64_and_nat _ _ (by omega) (by omega),nat_mask1,Nat.testBit_eq_decide_div_mod_eq];rcases Nat.mod_two_eq_zero_or_one (u/2^i)with h | h<;>simp[h]
theorem byte_val (u i:Nat) (hu:u<18446744073709551616) (L:List Bool) (q r s:Nat) (hq:L.length/8=q) (hr:L.length % 8=r) (hs:7-r=s):
  Value.int .u8 (bits BinOp.or IntKind.u8 (Bt.byteAt L (8*q):Int) (bits BinOp.and IntKind.u64 ((u:Int)/2^i) 1 % 256*2^min s 8 % 256))=bv (UInt8.ofNat (Bt.byteAt L (8*q)+(u.testBit i).toNat*2^(7-L.length % 8))):=by
 have h7:s<=7:=by omega
 have hm:min s 8=s:=by omega
 have hp:2^s<=2^7:=Nat.pow_le_pow_right (by omega) h7;have hb:=Bool.toNat_le (u.testBit i);have hmul:(u.testBit i).toNat*2^s<=128:=by
  calc(u.testBit i).toNat*2^s<=1*2^s:=Nat.mul_le_mul_right _ hb
   _<=128:=by omega
 have e:((u.testBit i).toNat:Int)*2^s % 256=(((u.testBit i).toNat*2^s:Nat):Int):=by
  have:((u.testBit i).toNat:Int)*2^s=(((u.testBit i).toNat*2^s:Nat):Int):=by simp
  rw[this];omega
 have ho:=Bt.byte_or L (u.testBit i);rw[hq,hr,hs]at ho;have hlt:=Bt.byteAt_lt (L++[u.testBit i]) (8*q);rw[Bt.byteAt_snoc,if_pos (by omega),show L.length-8*q=r from by omega,hs]at hlt;rw[u64_bit u i hu,hm,e,u8_or_nat _ _ (Bt.byteAt_lt _ _) (by omega),ho,hr,hs];simp[bv,Nat.mod_eq_of_lt hlt]
theorem OutAt.put {wr:World} {B g g2 cap q:Nat} {L:List Bool} (x:Bool) (hBg:B<=g) (hb:Blk wr g 322 #[.slice (some ⟨g2,0,none⟩) (q+1) cap, .int .i64 L.length])
  (hown:wr.ownsRow B 5 1 (.slice (some ⟨g2,0,none⟩) (q+1) cap) (q+1) ((Bt.packZ L).map bv)) (hne:g≠g2) (hq:L.length/8=q) (u:Value) (hu:u=bv (UInt8.ofNat (Bt.byteAt L (8*q)+x.toNat*2^(7-L.length % 8)))):
  OutAt ((wr.setCell ⟨g2,q,none⟩ u).setCell ⟨g,1,none⟩ (.int .i64 (L.length+1:Int))).drew B g (L++[x]):=by
 have h1:=(hown.stored q u).1;have h2:=(hb.far (p:=⟨g2,q,none⟩) hne u).set_ 1 (.int .i64 (L.length+1:Int));refine⟨hBg,_,by simpa using h2.drew,?_⟩;have hl:(Bt.pack (L++[x])).length=q+1:=by rw[Bt.length_pack];simp;omega
 have h3:=(h1.kept (row:=some g) (w':=(wr.setCell ⟨g2,q,none⟩ u).setCell ⟨g,1,none⟩ (.int .i64 (L.length+1:Int))) ⟨rfl,rfl,rfl,by simp[World.setCell],λk _ hk=>heap_setCell_other _ _ _ _ (λe=>hk (by simp[e]))⟩ (.inr (by simp[Value.ownBlock];exactλe=>hne e.symm)));rw[hl,Bt.pack_snoc,List.map_set,hq,<- hu];exact h3

theorem own_keep {w:World} {B g g2 n cap:Nat} {e:TypeId} {xs:List Value} (h:w.ownsRow B e 1 (.slice (some ⟨g2,0,none⟩) n cap) n xs) (hgg:¬g2=g) {j:Nat} (u:Value):(w.setCell ⟨g,j,none⟩ u).ownsRow B e 1 (.slice (some ⟨g2,0,none⟩) n cap) n xs:=
 h.kept (row:=some g) ⟨rfl,rfl,rfl,by simp[World.setCell],λk _ hk=>heap_setCell_other _ _ _ _ (λe=>hk (by simp[e]))⟩ (.inr (by simp[Value.ownBlock];exact hgg))
theorem put_facts {w wr w1:World} {B g g2 cap q:Nat} {L:List Bool} {v x:Value} {T:TypeId} {o:Obj} {X:Nat}
  (hbv:bv (UInt8.ofNat X)= .int .u8 X) (hzq:(Bt.packZ L)[q]? =some (UInt8.ofNat X)) (hpz:Bt.packZ L=Bt.pack L++[0])
  (hb:Blk wr g T #[v,x]) (hbel:Below B w wr) (hsz:B<=wr.heap.size) (hne:v.ownBlock≠some g) (hvB:∀k,v.ownBlock=some k->B<=k) (hgrow:(wr.alloc o).grownBy w1 v.ownBlock) (hat:v.ownBlock=some g2\/g2=(wr.alloc o).heap.size)
  (hown1:w1.ownsRow B 5 1 (.slice (some ⟨g2,0,none⟩) (q+1) cap) (q+1) ((Bt.pack L).map bv++[.int .u8 0])):
  Blk w1 g T #[v,x]/\¬g2=g/\B<=g2/\B<=w1.heap.size/\w1.ownsRow B 5 1 (.slice (some ⟨g2,0,none⟩) (q+1) cap) (q+1) ((Bt.packZ L).map bv)/\Below B w w1/\
   w1.cell? ⟨g,0,none⟩=some v/\w1.cell? ⟨g,1,none⟩=some x/\w1.frozen? ⟨g,0,none⟩=false/\w1.frozen? ⟨g,1,none⟩=false/\w1.cell? ⟨g2,q,none⟩=some (.int .u8 X)/\w1.frozen? ⟨g2,q,none⟩=false:=by
 have hb1:=(hb.alloc o).grown hgrow (Ne.symm hne);have hgg:¬g2=g:=by
  rintro rfl;rcases hat with hat | hat
  ·exact hne hat
  ·have:=hb.lt;simp at hat;omega
 have hown2:w1.ownsRow B 5 1 (.slice (some ⟨g2,0,none⟩) (q+1) cap) (q+1) ((Bt.packZ L).map bv):=by rw[hpz,List.map_append];exact hown1
 have hBg2:=hown2.lt g2 rfl;have cj:=hown2.cellAt q (by omega);rw[List.getElem?_map,hzq]at cj;simp only[Option.map_some,hbv]at cj;have d0:=hb1.cell 0;have d1:=hb1.cell 1;simp at d0 d1;refine⟨hb1,hgg,hBg2.1,?_,hown2,?_,d0,d1,hb1.frozen 0,hb1.frozen 1,cj,hown2.frozenAt q⟩
 ·have:=hgrow.size;simp at this;omega
 ·refine(hbel.alloc hsz o).grown hgrow (by simp;omega) (λk hk=>?_);rcases hat with hat | hat
  ·rw[hat]at hk;injection hk with hk;omega
  ·exact hvB k hk

theorem put_facts2 {w w1 w2:World} {B g g2 cap q:Nat} {xs:List Value} {v x y:Value} {T e:TypeId} (hw2:w1.setCell ⟨g,0,none⟩ (.slice (some ⟨g2,0,none⟩) (q+1) cap)=w2)
  (hBg:B<=g) (hb:Blk w1 g T #[v,x]) (hown:w1.ownsRow B e 1 (.slice (some ⟨g2,0,none⟩) (q+1) cap) (q+1) xs) (hbel:Below B w w1) (hs:B<=w1.heap.size) (hgg:¬g2=g)
  (dj:w1.cell? ⟨g2,q,none⟩=some y) (ej:w1.frozen? ⟨g2,q,none⟩=false):
  Blk w2 g T #[.slice (some ⟨g2,0,none⟩) (q+1) cap,x]/\w2.ownsRow B e 1 (.slice (some ⟨g2,0,none⟩) (q+1) cap) (q+1) xs/\Below B w w2/\B<=w2.heap.size/\
   w2.cell? ⟨g,0,none⟩=some (.slice (some ⟨g2,0,none⟩) (q+1) cap)/\w2.cell? ⟨g,1,none⟩=some x/\w2.frozen? ⟨g,0,none⟩=false/\w2.frozen? ⟨g,1,none⟩=false/\w2.cell? ⟨g2,q,none⟩=some y/\w2.frozen? ⟨g2,q,none⟩=false:=by
 subst hw2;have hb2:Blk (w1.setCell ⟨g,0,none⟩ (.slice (some ⟨g2,0,none⟩) (q+1) cap)) g T #[.slice (some ⟨g2,0,none⟩) (q+1) cap,x]:=hb.set_ 0 _;have d0:=hb2.cell 0;have d1:=hb2.cell 1;simp at d0 d1;refine⟨hb2,own_keep hown hgg _,hbel.setCell hBg _,by simpa[World.setCell]using hs,d0,d1,hb2.frozen 0,hb2.frozen 1,?_,?_⟩
 ·rw[World.cell?_setCell_other _ _ _ _ (λh=>hgg (by injection h with h _ _;exact h.symm))];exact dj
 ·rw[World.frozen?_setCell];exact ej

set_option maxRecDepth 100000 in
set_option maxHeartbeats 1000000 in
theorem out_Put (u n:Nat) (h1:1<=n) (h2:n<=64) (hu:u<2^n) (l:List Bool) (hl:l.length+n<=4096) (w:World) (B g:Nat) (hB:B<=w.heap.size) (h:OutAt w B g l):
  Calls Tryz.prog 257 #[.pointer (some ⟨g,0,none⟩), .int .u64 u, .int .i64 n] w λe w'=>e= .returned (.bool true)/\OutAt w' B g (l++Bt.bits u n)/\Below B w w':=by
 obtain⟨hBg,v,hb,hown⟩:=id h;have hm:(decide (1<=(n:Int))&&decide ((n:Int)<=64))=true:=by simp;omega
 have c0:=hb.cell 0;have c1:=hb.cell 1;simp at c0 c1;have hu64:u<18446744073709551616:=Nat.lt_of_lt_of_le hu (Nat.pow_le_pow_right (n:=2) (by omega) h2);have hsh:(u:Int)/2^(n-1)/2=0:=by
  have e:(u:Int)/2^(n-1)/2=((u/2^(n-1)/2:Nat):Int):=by simp
  rw[e,Nat.div_div_eq_div_mul,<- Nat.pow_succ,show(n-1).succ=n from by omega,Nat.div_eq_of_lt hu];rfl
 obtain⟨i0,hi0,hz0,hz1,hz2⟩:=info_parts Tryz.info5
 go_enter Tryz.func257,Tryz.ntmps257
 go_wp2_with (go_at_call 273;refine(bits_may _ _).mono ?_;rintro e w' ⟨rfl,rfl⟩)
 clear hm hsh c0 c1 hown hb
 go_loopw [7] (λi wr=>∃k:Nat,k<=n/\i= .int .i64 ((n:Int)-1-k)/\OutAt wr B g (l++(Bt.bits u n).take k)/\Below B w wr/\B<=wr.heap.size) (λi _=>(intOf i+1).toNat)
 case atStart=>exact⟨0,by omega,by simp,by simpa using h,Below.refl _ _,hB⟩
 case round=>
  obtain⟨k,hk,rfl,⟨_,v,hb,hown⟩,hbel,hsz⟩:=hrel;generalize hL:l++(Bt.bits u n).take k=L at hb hown;have hLl:L.length=l.length+k:=by rw[<- hL];simp[Bt.length_bits];omega
  have hL1:L.length<=4096:=by omega
  have c0:=hb.cell 0;have c1:=hb.cell 1;simp at c0 c1;have f0:=hb.frozen 0;have f1:=hb.frozen 1;have hgl:=hb.lt
  by_cases hlt:k<n
  ·have hL2:L.length<=4095:=by omega
   have hk':(0:Int)<=(n:Int)-1-k:=by omega
   obtain⟨q,r,s,hq,hr,hs,hr7,q1,q2,q3,q4⟩:=prep8 L.length;obtain⟨i,hi⟩:∃i:Nat,(n:Int)-1-k=i:=⟨n-1-k,by omega⟩;have hval:=byte_val u i hu64 L q r s hq hr hs;have hL3:L++[u.testBit i]=l++(Bt.bits u n).take (k+1):=by
    rw[Bt.take_bits_succ _ _ _ hlt,<- List.append_assoc,hL,show n-1-k=i from by omega]
   have HL3:=Lib.hid hL3;have Hval:=Lib.hid hval;have hx:=Bt.byteAt_lt L (8*q);have hbv:bv (UInt8.ofNat (Bt.byteAt L (8*q)))= .int .u8 (Bt.byteAt L (8*q):Int):=by simp[bv,Nat.mod_eq_of_lt hx]
   have hzq:=Bt.packZ_get L q (by omega);have hzl:(Bt.packZ L).length=q+1:=by rw[Bt.length_packZ,hq]
   have hpz:(Bt.packZ L)=if L.length % 8=0 then Bt.pack L++[0]else Bt.pack L:=rfl
   have i4:(0:Int)<=q:=by omega
   have i5:IntKind.i64.wrap (q:Int)=q:=IntWalk.i64_in _ (by omega);have i2:(q:Int)<((q+1:Nat):Int):=by omega
   have i3:q<q+1:=by omega
   have i6:(q:Int)<(q:Int)+1:=by omega
   have hq4:q<=512:=by omega
   have hpl:(Bt.pack L).length<=512:=by rw[Bt.length_pack];omega
   have Hq:=Lib.hid hq;have Hi:=Lib.hid hi;have HLl:=Lib.hid hLl
   by_cases h8:r=0
   ·rw[hr,if_pos h8]at hpz;have hplq:(Bt.pack L).length=q:=by rw[Bt.length_pack];omega
    rw[hplq]at hown;have hne:=own_blk_ne hown hb (by decide);have h8':((r:Int)==0)=true:=by simp[h8]
    clear h8 hL3 hval hL hLl hq hr hs;have Hpz:=Lib.hid hpz;have Hbv:=Lib.hid hbv;have Hzq:=Lib.hid hzq;clear hbv hzq hpz hplq hzl hpl
    go_wp2_with (at_builtin;refine wpList_append_lies _ rfl _ _ 308 rfl B 5 i0 (.int .u8 0) 1 1 Tryz.underlying308 hi0 hz0 hz1 hz2 rfl (by decide) _ _ _ (by rfl) (hown.alloc _) ⟨wr.heap.size,0,none⟩ 1 1 [.int .u8 0] rfl rfl (cell_one_new _ _ _) (by simp[Value.oneCell']) (by omega) (by unfold maxLen;omega) (by omega) (by simp;omega) _ rfl ?_;intro g2 cap w1 hown1 hgrow hat hlt1;obtain⟨hb1,hgg,hBg2,hs1,hown2,hbel1,d0,d1,e0,e1,dj,ej⟩:=put_facts Hbv.out Hzq.out Hpz.out hb hbel hsz hne (λk hk=>(hown.lt k hk).1) hgrow hat hown1;clear hb hown hbel hsz hgrow hat hown1 c0 c1 f0 f1 hne;generalize hX:Bt.byteAt L (8*q)=X at dj hx Hval;have HX:=Lib.hid hX;clear hX)
    obtain⟨w2,hw2⟩:∃w2,w1.setCell ⟨g,0,none⟩ (.slice (some ⟨g2,0,none⟩) (q+1) cap)=w2:=⟨_,rfl⟩;obtain⟨hb2,hown3,hbel2,hs2,c0,c1,f0,f1,cj,fj⟩:=put_facts2 hw2 hBg hb1 hown2 hbel1 hs1 hgg dj ej;rw[hw2];clear hw2 hb1 hown2 hbel1 hs1 d0 d1 e0 e1 dj ej
    go_still_tail 25,(by kernel_rfl)
    change wpList _ _ _ _ _ w2.drew
    go_wp2
    go_roundw
    case rel=>exact⟨k+1,by omega,by rw[<- Hi.out];go_num,by rw[<- HL3.out];exact OutAt.put _ hBg hb2 hown3 (λe=>hgg e.symm) Hq.out _ (by rw[HX.out];exact Hval.out),((hbel2.setCell hBg2 _).setCell hBg _).drew,by simpa[World.setCell]using hs2⟩
    case measure=>simp[intOf];omega
   ·have h8':1<=r:=by omega
    rw[hr,if_neg h8]at hpz;rw[<- hpz]at hown;rw[hzl]at hown;obtain⟨g2,cap,rfl,hBg2,hlt2⟩:=hown.form (by omega);have hcap:=own_cap hown;have hne:=own_blk_ne hown hb (by decide);have hgg:¬g2=g:=λe=>hne (by simp[Value.ownBlock,e]);have cj:=hown.cellAt q (by omega);have fj:=hown.frozenAt q;rw[List.getElem?_map,hzq]at cj;simp only[Option.map_some,hbv]at cj;generalize hX:Bt.byteAt L (8*q)=X at cj hx Hval;have HX:=Lib.hid hX;clear h8 hL3 hval hL hLl hq hr hs hX hbv hpz hzl hzq
    go_wp2
    go_still_tail 25,(by kernel_rfl)
    change wpList _ _ _ _ _ wr.drew
    go_wp2
    go_roundw
    case rel=>exact⟨k+1,by omega,by rw[<- Hi.out];go_num,by rw[<- HL3.out];exact OutAt.put _ hBg hb hown (λe=>hgg e.symm) Hq.out _ (by rw[HX.out];exact Hval.out),((hbel.setCell hBg2 _).setCell hBg _).drew,by simpa[World.setCell]using hsz⟩
    case measure=>simp[intOf];omega
  ·have hkn:k=n:=by omega
   subst hkn;have hfin:OutAt wr B g (l++Bt.bits u k):=⟨hBg,v,by rw[<- hL,List.take_of_length_le (by rw[Bt.length_bits];omega)]at hb;exact hb,by rw[<- hL,List.take_of_length_le (by rw[Bt.length_bits];omega)]at hown;exact hown⟩;clear hLl hL hb hown
   go_wp2
   go_ret
   exact⟨rfl,hfin,hbel⟩

set_option maxRecDepth 100000 in
set_option maxHeartbeats 400000 in
theorem clone_bytes (v:Value) (xs:List Value) (n:Nat) (B:Nat) (w:World) (h:w.ownsRow B 5 1 v n xs) (hn:0<n) (hm:n<=65536) (h1:∀u∈xs,u.oneCell'=true):
  Calls Tryz.prog 276 #[v] w λe w'=>∃g cap,e= .returned (.slice (some ⟨g,0,none⟩) n cap)/\w'.ownsRow w.heap.size 5 1 (.slice (some ⟨g,0,none⟩) n cap) n xs/\Below w.heap.size w w':=by
 obtain⟨g,cap,rfl,hBg,hlt⟩:=h.form hn;obtain⟨i0,hi0,hz0,hz1,hz2⟩:=info_parts Tryz.info5
 go_enter Tryz.func276,Tryz.ntmps276
 have hnil:=λW:World=>Lib.run_eql_slice_nil (P:=Tryz.prog) W 308 5 (some ⟨g,0,none⟩) n cap 0 0 Tryz.underlying308
 go_wp2_with (at_builtin;refine wpList_append_lies _ rfl _ _ 308 rfl w.heap.size 5 i0 (.int .u8 0) 1 1 Tryz.underlying308 hi0 hz0 hz1 hz2 rfl (by decide) _ 0 [] (by rfl) (World.ownsRow_lit w #[] 0 (Nat.le_refl _) (by decide) rfl) ⟨g,0,none⟩ n cap xs rfl h.1 ((h.alloc _).cells rfl) h1 hn (by unfold maxLen;omega) (by omega) (by simp) _ rfl ?_;intro g2 cap2 w1 hown1 hgrow hat hlt1)
 have hb:Below w.heap.size w w1:=((Below.refl _ _).alloc (Nat.le_refl _) _).grown hgrow (by simp) (λk hk=>by simp[Value.ownBlock]at hk;omega);simp only[Nat.zero_add,List.nil_append]at hown1 ⊢
 go_wp2
 go_ret
 exact⟨g2,cap2,rfl,hown1,hb⟩

set_option maxRecDepth 100000 in
set_option maxHeartbeats 400000 in
theorem out_Bytes (l:List Bool) (hl:0<l.length) (hl2:l.length<=65536) (w:World) (B g:Nat) (h:OutAt w B g l):
  Calls Tryz.prog 259 #[.pointer (some ⟨g,0,none⟩)] w λe w'=>∃g2 cap,e= .returned (.slice (some ⟨g2,0,none⟩) (Bt.pack l).length cap)/\w'.ownsRow w.heap.size 5 1 (.slice (some ⟨g2,0,none⟩) (Bt.pack l).length cap) (Bt.pack l).length ((Bt.pack l).map bv)/\Below w.heap.size w w':=by
 obtain⟨hBg,v,hb,hown⟩:=h;have c0:=hb.cell 0;simp at c0;have hp:0<(Bt.pack l).length:=by rw[Bt.length_pack];omega
 have hp2:(Bt.pack l).length<=65536:=by rw[Bt.length_pack];omega
 go_enter Tryz.func259,Tryz.ntmps259
 go_wp2_with (go_at_call 276;refine(clone_bytes _ _ _ _ _ hown hp hp2 (by simp[bv,Value.oneCell'])).mono ?_;rintro e w1 ⟨g2,cap,rfl,hown1,hb1⟩)
 go_ret
 exact⟨g2,cap,rfl,hown1,hb1⟩

def InAt (w:World) (g a o:Nat) (b:List UInt8) (k:Nat):Prop:=∃cap,Blk w g 335 #[.slice (some ⟨a,o,none⟩) b.length cap, .int .i64 k]/\b.length<=cap/\a≠g/\a<w.heap.size/\∀j x,b[j]? =some x->w.cell? ⟨a,o+j,none⟩=some (bv x)

set_option maxRecDepth 100000 in
set_option maxHeartbeats 400000 in
theorem bits_Read (A:Option Addr) (n cap:Nat) (w:World):
  Calls Tryz.prog 250 #[.slice A n cap] w λe w'=>e= .returned (.pointer (some ⟨w.heap.size,0,none⟩))/\w'=w.alloc (.cells #[.slice A n cap, .int .i64 0] 335):=by
 go_enter Tryz.func250,Tryz.ntmps250
 go_wp2
 go_ret
 exact⟨rfl,rfl⟩

set_option maxRecDepth 100000 in
set_option maxHeartbeats 400000 in
theorem in_Left (a o:Nat) (b:List UInt8) (k:Nat) (hk:k<=8*b.length) (hb:b.length<=65536) (w:World) (g:Nat) (h:InAt w g a o b k):
  Calls Tryz.prog 274 #[.pointer (some ⟨g,0,none⟩)] w λe w'=>e= .returned (.int .i64 ((8*b.length-k:Nat):Int))/\∃m,w'=w.drewN m:=by
 obtain⟨cap,hb,_,_,_,_⟩:=h;have c0:=hb.cell 0;have c1:=hb.cell 1;simp at c0 c1;have e1:IntKind.i64.wrap (8*(b.length:Int))=((8*b.length:Nat):Int):=by rw[IntWalk.i64_in _ (by omega)];omega
 have e2:IntKind.i64.wrap (((8*b.length:Nat):Int)-(k:Int))=((8*b.length-k:Nat):Int):=by rw[IntWalk.i64_in _ (by omega)];omega
 generalize 8*b.length=m at*;generalize m-k=d at*
 go_enter Tryz.func274,Tryz.ntmps274
 go_wp2
 go_quiet (fail)
 go_wp2
 go_ret
 exact⟨rfl,_,rfl⟩

theorem InAt.step {wr:World} {g a o j:Nat} {b:List UInt8} (h:InAt wr g a o b j) (m:Nat):InAt ((wr.setCell ⟨g,1,none⟩ (.int .i64 (j+1:Int))).drewN m) g a o b (j+1):=by
 obtain⟨cap,hb,h1,h2,h3,h4⟩:=h;refine⟨cap,?_,h1,h2,by simpa[World.setCell]using h3,λi x hx=>?_⟩
 ·exact hb.set_ 1 (.int .i64 (j+1:Int))
 ·have:((wr.setCell ⟨g,1,none⟩ (.int .i64 (j+1:Int))).drewN m).cell? ⟨a,o+i,none⟩=(wr.setCell ⟨g,1,none⟩ (.int .i64 (j+1:Int))).cell? ⟨a,o+i,none⟩:=by simp
  rw[this,World.cell?_setCell_other _ _ _ _ (λe=>h2 (by injection e with e _ _;exact e.symm))];exact h4 i x hx
theorem grown_step {w wr:World} {g:Nat} (h:w.grownBy wr (some g)) (o:Nat) (u:Value) (m:Nat):w.grownBy ((wr.setCell ⟨g,o,none⟩ u).drewN m) (some g):=
 ⟨h.os,h.tape,h.output,by simpa[World.setCell]using h.size,λk hk hne=>(Below.heap_setCell wr ⟨g,o,none⟩ u k (λe=>hne (by rw[e]))).trans (h.block k hk hne)⟩
theorem InAt.grown {w w':World} {g a o j:Nat} {b:List UInt8} {r:Option Nat} (h:InAt w g a o b j) (hg:w.grownBy w' r) (h1:some g≠r) (h2:some a≠r):InAt w' g a o b j:=by
 obtain⟨cap,hb,e1,e2,e3,e4⟩:=h;exact⟨cap,hb.grown hg h1,e1,e2,Nat.lt_of_lt_of_le e3 hg.size,λi x hx=>(World.cell?_of_block (hg.block a e3 h2)).trans (e4 i x hx)⟩
theorem get_bit (x:Nat) (hx:x<256) (s:Nat):bits BinOp.and IntKind.u8 ((x:Int)/2^s) 1=((x.testBit s).toNat:Int):=by
 have e:(x:Int)/2^s=((x/2^s:Nat):Int):=by simp
 have hb:x/2^s<=x:=Nat.div_le_self _ _;rw[e,show(1:Int)=((1:Nat):Int)from rfl,u8_and_nat _ _ (by omega) (by omega),nat_mask1,Nat.testBit_eq_decide_div_mod_eq];rcases Nat.mod_two_eq_zero_or_one (x/2^s)with h | h<;>simp[h]
theorem or_bit (u:Nat) (hu:2*u<18446744073709551616) (y:Bool):bits BinOp.or IntKind.u64 ((2*u:Nat):Int) (y.toNat:Int)=((2*u+y.toNat:Nat):Int):=by
 have hy:=Bool.toNat_le y;rw[u64_or_nat _ _ hu (by omega),nat_join 1 (2*u) y.toNat (by omega) (by omega)]

set_option maxRecDepth 100000 in
set_option maxHeartbeats 400000 in
theorem in_Get (a o:Nat) (b:List UInt8) (k n:Nat) (hn1:1<=n) (hn:n<=64) (hk:k+n<=8*b.length) (hb:b.length<=65536) (w:World) (g:Nat) (h:InAt w g a o b k):
  Calls Tryz.prog 251 #[.pointer (some ⟨g,0,none⟩), .int .i64 n] w λe w'=>e= .returned (.tuple #[.int .u64 (Bt.numAt b k n), .bool true])/\InAt w' g a o b (k+n)/\w.grownBy w' (some g)/\w'.heap.size=w.heap.size:=by
 have hm:(decide (1<=(n:Int))&&decide ((n:Int)<=64))=true:=by simp;omega
 have hd:¬(((8*b.length-k:Nat):Int)<(n:Int)):=by omega
 generalize hD:8*b.length-k=D at hd;have HD:=Lib.hid hD;clear hD;obtain⟨cap,hblk,_,_,_,_⟩:=id h;have c1:=hblk.cell 1;simp at c1
 go_enter Tryz.func251,Tryz.ntmps251
 go_wp2_with (first | (go_at_call 273;refine(bits_may _ _).mono ?_;rintro e w' ⟨rfl,rfl⟩) | (go_at_call 274;refine(in_Left a o b k (by omega) hb _ g h).mono ?_;rintro e w' ⟨rfl,m,rfl⟩;rw[HD.out]))
 clear hm hd c1 hblk
 go_loopw [6] (λu wr=>∃i:Nat,i<=n/\u= .int .u64 (Bt.numAt b k i)/\InAt wr g a o b (k+i)/\w.grownBy wr (some g)/\wr.heap.size=w.heap.size) (λ_ wr=>((k:Int)+n-cellInt wr ⟨g,1,none⟩).toNat)
 case atStart=>exact⟨0,by omega,rfl,h,⟨rfl,rfl,rfl,Nat.le_refl _,λ_ _ _=>rfl⟩,rfl⟩
 case round=>
  obtain⟨i,hi,rfl,hin,hgr,hsz⟩:=hrel;obtain⟨j,hj⟩:∃j,k+i=j:=⟨_,rfl⟩;rw[hj]at hin;obtain⟨cap2,hblk,hcap,hne,hlt,hcell⟩:=id hin;have c0:=hblk.cell 0;have c1:=hblk.cell 1;simp at c0 c1;have f1:=hblk.frozen 1;have hme:=cellInt_of c1
  by_cases hlt2:i<n
  ·obtain⟨q,r,s,hq,hr,hs,hr7,q1,q2,q3,q4⟩:=prep8 j;obtain⟨x,hx⟩:∃x,b[q]? =some x:=⟨b[q]'(by omega),List.getElem?_eq_getElem _⟩;have cj:=hcell q x hx;unfold bv at cj;have hx8:=x.toNat_lt;have hgb:=get_bit x.toNat hx8 s;have hU:=Bt.numAt_lt b k i;have hU2:2*Bt.numAt b k i<18446744073709551616:=by
    have:2^i<=2^63:=Nat.pow_le_pow_right (by omega) (by omega);omega
   have hob:=or_bit (Bt.numAt b k i) hU2 (x.toNat.testBit s);have hbit:x.toNat.testBit s=Bt.bitAt b (k+i):=by
    unfold Bt.bitAt;rw[hj,hq,hr,hs,List.getD_eq_getElem?_getD,hx];rfl
   have hnx:2*Bt.numAt b k i+(x.toNat.testBit s).toNat=Bt.numAt b k (i+1):=by rw[hbit];rfl
   have hsl:IntKind.u64.wrap ((Bt.numAt b k i:Int)*2)=((2*Bt.numAt b k i:Nat):Int):=by rw[IntWalk.u64_in _ (by omega)];omega
   have i1:(0:Int)<=q:=by omega
   have i2:(q:Int)<(b.length:Int):=by omega
   have i3:q<b.length:=by omega
   have i5:IntKind.i64.wrap (q:Int)=q:=IntWalk.i64_in _ (by omega);have hlt3:(j:Int)<(k:Int)+(n:Int):=by omega
   have hs8:min s 8=s:=by omega
   have Hnx:=Lib.hid hnx;have Hj:=Lib.hid hj;have Hme:=Lib.hid hme;clear hnx hbit hq hr hs hx q4 hU hcell hj hme;generalize Bt.numAt b k i=U at*
   go_wp2
   go_quiet (fail)
   go_wp2
   go_roundw
   case rel=>
    refine⟨i+1,by omega,?_,by rw[show k+(i+1)=j+1 from by rw[<- Hj.out];omega];exact hin.step _,grown_step hgr _ _ _,by simpa[World.setCell]using hsz⟩;rw[<- Hnx.out,<- hob];congr 2;rw[IntWalk.u64_in _ (by have:=Bool.toNat_le (x.toNat.testBit s);omega)]
   case measure=>
    rw[Hme.out];rw[cellInt_of (k:= .i64) (x:=(j:Int)+1)]
    ·omega
    ·exact World.cell?_setCell_same (wr.drewN nq) ⟨g,1,none⟩ (.int .i64 ((j:Int)+1)) (by simpa using c1)
  ·have hin2:k+n=j:=by omega
   have h2:i=n:=by omega
   subst h2;have hlt3:¬(j:Int)<(k:Int)+(i:Int):=by omega
   have H2:=Lib.hid hin2;clear hin2 hj hme
   go_wp2
   go_ret2
   exact⟨rfl,by rw[H2.out];exact hin,hgr,hsz⟩

theorem top_no (s:Nat) (h:s<2147483648):bits .and .u32 (s:Int) 2147483648=0:=by
 rw[show(2147483648:Int)=((2147483648:Nat):Int)from rfl,u32_and_nat _ _ (by omega) (by omega),show(2147483648:Nat)=2^31 from rfl,nat_bit];have:s/2^31=0:=by omega
 rw[this];rfl
theorem top_yes (s:Nat) (h:2147483648<=s) (h2:s<4294967296):bits .and .u32 (s:Int) 2147483648=2147483648:=by
 rw[show(2147483648:Int)=((2147483648:Nat):Int)from rfl,u32_and_nat _ _ (by omega) (by omega),show(2147483648:Nat)=2^31 from rfl,nat_bit];have:s/2^31=1:=by omega
 rw[this]

set_option maxRecDepth 100000 in
set_option maxHeartbeats 400000 in
theorem koop_Step (s x:Nat) (hs:s<4294967296) (hx:x<256) (w:World):
  Calls Tryz.prog 277 #[.int .u32 s, .int .u8 x] w λe w'=>e= .returned (.int .u32 (K.step s x))/\w=w':=by
 have e1:IntKind.u32.wrap ((x:Int)*16777216)=((x*16777216:Nat):Int):=by rw[IntWalk.u32_in _ (by omega)];omega
 have e2:bits .xor .u32 (s:Int) ((x*16777216:Nat):Int)=((s ^^^ x*16777216:Nat):Int):=u32_xor_nat _ _ hs (by omega);have hlt0:s ^^^ x*16777216<4294967296:=Nat.xor_lt_two_pow (n:=32) (by omega) (by omega);have hst:=Lib.hid (show K.step s x=K.rounds 8 (s ^^^ x*16777216)from rfl);generalize s ^^^ x*16777216=s0 at*;generalize hX:x*16777216=X at*;have HX:=Lib.hid hX;clear hX
 go_enter Tryz.func277,Tryz.ntmps277
 go_wp2
 go_loop [0,11] (λv c=>∃k:Nat,k<=8/\c= .int .i64 k/\v= .int .u32 (K.rounds k s0)) (λ_ c=>8-(intOf c).toNat)
 case atStart=>exact⟨0,by omega,rfl,rfl⟩
 case round=>
  obtain⟨k,hk,rfl,rfl⟩:=hrel;clear e1 e2
  by_cases hlt:k<8
  ·have hr:=K.rounds_lt k s0 hlt0;have hn:K.round (K.rounds k s0)=K.rounds (k+1) s0:=rfl;generalize K.rounds k s0=t at*
   by_cases ht:t<2147483648
   ·have e3:=top_no t ht;have e4:K.round t=t*2:=by simp[K.round,ht]
    have Hn:=Lib.hid (e4.symm.trans hn);clear e4 hn
    go_wp2
    go_round
    case rel=>exact⟨k+1,by omega,by go_num,by rw[<- Hn.out];go_num⟩
    case measure=>simp[intOf];omega
   ·have e3:=top_yes t (by omega) hr;have e4:K.round t=(t*2 % 4294967296) ^^^ 1947962583:=by simp[K.round,ht]
    have e5:bits .xor .u32 ((t*2 % 4294967296:Nat):Int) 1947962583=(((t*2 % 4294967296) ^^^ 1947962583:Nat):Int):=u32_xor_nat _ 1947962583 (by omega) (by omega);have e6:IntKind.u32.wrap ((t:Int)*2)=((t*2 % 4294967296:Nat):Int):=by rw[IntKind.wrap_u32'];omega
    have Hn:=Lib.hid (e4.symm.trans hn);clear e4 hn;generalize t*2 % 4294967296=t2 at*;generalize t2 ^^^ 1947962583=t3 at*
    go_wp2
    go_round
    case rel=>exact⟨k+1,by omega,by go_num,by rw[<- Hn.out]⟩
    case measure=>simp[intOf];omega
  ·have:k=8:=by omega
   subst this
   go_wp2
   go_ret
   exact⟨by rw[hst.out];rfl,rfl⟩

set_option maxRecDepth 100000 in
set_option maxHeartbeats 400000 in
theorem koop_Of (b:List UInt8) (hb:b.length<=65536) (a o cap:Nat) (w:World) (hcell:∀j x,b[j]? =some x->w.cell? ⟨a,o+j,none⟩=some (bv x)):
  Calls Tryz.prog 260 #[.slice (some ⟨a,o,none⟩) b.length cap] w λe w'=>e= .returned (.int .u32 (K.sum b))/\w=w':=by
 go_enter Tryz.func260,Tryz.ntmps260
 go_wp2
 go_loop [3,8] (λs c=>∃k:Nat,k<=b.length/\c= .int .i64 k/\s= .int .u32 (K.sum (b.take k))) (λ_ c=>b.length-(intOf c).toNat)
 case atStart=>exact⟨0,by omega,rfl,rfl⟩
 case round=>
  obtain⟨k,hk,rfl,rfl⟩:=hrel
  by_cases hlt:k<b.length
  ·obtain⟨x,hx⟩:∃x,b[k]? =some x:=⟨b[k],List.getElem?_eq_getElem _⟩;have hs:K.sum (b.take k)<4294967296:=K.sum_lt _;have hst:K.step (K.sum (b.take k)) x.toNat=K.sum (b.take (k+1)):=(K.sum_snoc b k x hx).symm;have cj:=hcell k x hx;unfold bv at cj;have hx8:x.toNat<256:=x.toNat_lt;generalize K.sum (b.take k)=t at*;have Hst:=Lib.hid hst;clear hst hx hcell
   go_wp2_with (go_at_call 277;refine(koop_Step _ _ hs hx8 _).mono ?_;rintro e w' ⟨rfl,rfl⟩)
   go_round
   case rel=>exact⟨k+1,by omega,by go_num,by rw[<- Hst.out]⟩
   case measure=>simp[intOf];omega
  ·have:k=b.length:=by omega
   subst this;have hfin:=Lib.hid (show K.sum (b.take b.length)=K.sum b by rw[List.take_length]);clear hcell
   go_wp2
   go_ret
   exact⟨by rw[<- hfin.out];rfl,rfl⟩

theorem koop_Of2 (b:List UInt8) (n:Nat) (hn:b.length=n) (hb:b.length<=65536) (a o cap:Nat) (w:World) (hcell:∀j x,b[j]? =some x->w.cell? ⟨a,o+j,none⟩=some (bv x)):
  Calls Tryz.prog 260 #[.slice (some ⟨a,o,none⟩) n cap] w λe w'=>e= .returned (.int .u32 (K.sum b))/\w=w':=by
 subst hn;exact koop_Of b hb a o cap w hcell
end Go.Proofs.YtkdlnfdjjifedaaGreat
