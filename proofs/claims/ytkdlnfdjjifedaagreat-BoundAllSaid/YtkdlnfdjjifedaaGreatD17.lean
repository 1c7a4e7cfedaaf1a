/- Helpers, proved here. No condition. -/
import Derived.Test.YtkdlnfdjjifedaaGreatD06
import Derived.Test.YtkdlnfdjjifedaaGreatD11
import Derived.Test.YtkdlnfdjjifedaaGreatD15
import Derived.Test.YtkdlnfdjjifedaaGreatD16
set_option maxRecDepth 20000
set_option linter.all false
namespace Go.Proofs.YtkdlnfdjjifedaaGreat
open Go Go.RowKit
theorem without_count:∀m,m<256->∀k,k<8->0<=L.at_ (m:Nat) (k:Nat)->L.count (L.without (m:Nat) (L.at_ (m:Nat) (k:Nat)))=L.count (m:Nat)-1:=by decide+kernel
theorem die_lt {m b r s:Int} (h:0<=G.die m b r s):0<=s/\s<G.slots m:=by
 unfold G.die at h;split at h
 ·omega
 ·rename_i hp;have hp0:0<=G.parity m b r:=by omega
  have hs:0<=s/\s<(L.count (L.without m (G.parity m b r)):Int):=by
   by_cases hh:s<0\/(L.count (L.without m (G.parity m b r)):Int)<=s
   ·rw[L.at_ge _ _ hh]at h;omega
   ·omega
  unfold G.parity at hp0 hs;split at hp0
  ·omega
  ·rename_i hc;rw[if_neg hc]at hs;have hm:0<=m/\m<256:=by
    by_cases hh:0<=m/\m<256
    ·exact hh
    ·have:=L.count_no m hh;omega
   obtain⟨M,rfl⟩:=Int.eq_ofNat_of_zero_le hm.1;have hcl:=L.count_le (M:Int);have hq:0<=(b+r) % (L.count (M:Int):Int)/\(b+r) % (L.count (M:Int):Int)<L.count (M:Int):=⟨Int.emod_nonneg _ (by omega),Int.emod_lt_of_pos _ (by omega)⟩;obtain⟨q,hq2⟩:=Int.eq_ofNat_of_zero_le hq.1;rw[hq2]at hs hp0 hq;rw[without_count M (by omega) q (by omega) hp0]at hs;unfold G.slots;rw[if_neg (by omega)];omega
theorem look_data {N:Nand} (hN:N.Ok) (b r m:Int):(∀s∈(R.look N b r m).slots,s.data.length=16)/\(R.look N b r m).parity.data.length=16:=by
 refine⟨λs hs=>?_,mlook_len hN _ _ _⟩;simp only[R.look,R.ones,List.map_map,List.mem_map]at hs;obtain⟨k,_,rfl⟩:=hs;exact mlook_len hN _ _ _
theorem r_Read (p:Nat) (N:Nand) (hN:N.Ok) (hR:N.Room) (b r s m:Int) (h0: -1000000<=s) (h1:s<=1000000):Fn Tryz.prog 88 [.pointer (some ⟨p,0,none⟩), .agg #[.int .i64 b, .int .i64 r, .int .i64 s], .int .i64 m] [NandA p N]
  (λv As=>v= .tuple #[enV (R.read N b r s m).1, .int .i64 (R.read N b r s m).2]/\As=[NandA p N]):=by
 have hbd:=hN.bd;refine Fn.enter [2,0,0] Tryz.func88 rfl rfl rfl λX F hX=>?_;refine J.q hX λbb=>?_;refine J.join (α:=Unit) (λ_=>[⟨30, .bool (decide (G.die m b r s<0)|| !geoIn N.dies N.blocks N.pages 0 b r),0, .tt⟩,⟨0, .pointer (some ⟨p,0,none⟩),2, .tt⟩,⟨2, .int .i64 m,0, .tt⟩,⟨4, .pointer (some ⟨bb 0,0,none⟩),3, .tt⟩,⟨6, .pointer (some ⟨bb 1,0,none⟩),4, .tt⟩]) (λ_=>[.hp F,NandA p N, .pt (bb 0) 137 [.int .i64 b, .int .i64 r, .int .i64 s], .pt (bb 1) 133 (enL En.zero)]) (λhj=>?_) (λ_=>?_)
 ·refine J.q hX λ_=>?_;refine J.plan (.of [0,4,9,12,17,20,25,30,32,36,40,48,53,56,61,64,46,70,72,76]) [] [2] (by rw[hX.hP];kernel_rfl) (by kernel_rfl) ?_;refine J.q hX λ_=>?_;refine J.cb hX (g_Die m b r s h0 h1) [] ?_;refine cpq ⟨_,rfl,⟨rfl,trivial⟩,?_⟩;refine J.q hX λ_=>?_;refine J.gcase hX rfl rfl rfl ⟨rfl,trivial⟩ (λhb=>?_) (λhb=>?_)
  ·have hb2:decide (G.die m b r s<0)=false:=by rwa [Bool.not_eq_true']at hb
   rw[hb2]at hj ⊢;refine J.q hX λ_=>?_;refine J.cb hX (n_Geo p N) [1] ?_;refine cpq ⟨_,rfl,⟨rfl,trivial⟩,?_⟩;refine J.q hX λ_=>?_;refine J.cb hX (f_In N.dies N.blocks N.pages 0 b r (by omega) (by omega) (by omega)) [] ?_;refine cpq ⟨_,rfl,⟨rfl,trivial⟩,?_⟩;refine J.q hX λ_=>?_;exact J.goto [0,1,2,3] (hj ()) ⟨rfl,rfl,rfl,rfl,rfl,trivial⟩ rfl rfl
  ·have hb2:decide (G.die m b r s<0)=true:=by rwa [Bool.not_eq_false']at hb
   rw[hb2]at hj ⊢;refine J.q hX λ_=>?_;refine J.gcase hX rfl rfl rfl ⟨rfl,trivial⟩ (λhb=>by simp at hb) (λhb=>?_);refine J.q hX λ_=>?_;refine J.valT hX (.bool false) 0 rfl rfl (λhg a w he hw=>by simp[G.on]at hg) rfl ?_;refine J.q hX λ_=>?_;exact J.goto [0,1,2,3] (hj ()) ⟨rfl,rfl,rfl,rfl,rfl,trivial⟩ rfl rfl
 refine J.q hX λ_=>?_;refine J.cond rfl (λh2=>?_) (λh2=>?_)
 ·refine J.q hX λ_=>?_;refine J.ru hX [1] ?_;have:G.die m b r s<0\/geoIn N.dies N.blocks N.pages 0 b r=false:=by simpa using h2
  rw[R.read,if_pos this];exact⟨rfl,rfl⟩
 have hc:¬(G.die m b r s<0\/geoIn N.dies N.blocks N.pages 0 b r=false):=by simpa using h2
 have hd:=die_lt (m:=m) (b:=b) (r:=r) (s:=s) (by omega);have hsb:=gslots_bd m;refine J.q hX λ_=>?_;refine J.cb hX (n_Power p N) [1] ?_;refine cpq ⟨_,rfl,trivial,?_⟩;refine J.q hX λ_=>?_;refine J.cond rfl (λh3=>?_) (λh3=>?_)
 ·refine J.q hX λ_=>?_;refine J.ru hX [1] ?_;have:N.off=true:=by simpa using h3
  rw[R.read,if_neg hc,if_pos this];exact⟨rfl,rfl⟩
 have hoff:¬N.off=true:=by simpa using h3
 obtain⟨k,rfl⟩:=Int.eq_ofNat_of_zero_le hd.1;have hlen:=look_len N b r m;have hdat:=look_data hN b r m;have hkn:k<(G.slots m).toNat:=by omega
 refine J.q hX λ_=>?_;refine J.cb hX (r_look p N hN hR b r m) [1] ?_;rintro v As ⟨a1,c1,a2,c2,rfl,rfl⟩;refine⟨_,rfl,trivial,?_⟩;refine J.know (λh' s=>own_some (c:=(a1,c1)) (by omega) (s.get (i:=4) rfl)) λhg=>?_;obtain⟨g1,rfl⟩:=hg;refine J.know (λh' s=>own_some (c:=(a2,c2)) (by omega) (s.get (i:=5) rfl)) λhg=>?_;obtain⟨g2,rfl⟩:=hg;have hgd:(R.look N b r m).good[k]? =some ((R.look N b r m).good.getD k false):=by rw[List.getD_eq_getElem?_getD,List.getElem?_eq_getElem (by omega),Option.getD_some]
 have hsd:(R.look N b r m).slots[k]? =some ((R.look N b r m).slots.getD k Sh.zero):=by rw[List.getD_eq_getElem?_getD,List.getElem?_eq_getElem (by omega),Option.getD_some]
 have hr:R.read N b r k m=if(R.look N b r m).good.getD k false then(((R.look N b r m).slots.getD k Sh.zero).en,0)else if R.mendB (R.look N b r m) k then(R.mend (R.look N b r m) k,0)else(En.zero,10):=by
  rw[R.read,if_neg hc,if_neg hoff,Int.toNat_natCast]
 refine J.q hX λ_=>?_;refine J.val hX (.bool ((R.look N b r m).good.getD k false)) 0 rfl rfl (λhg a w he hw=>?_) rfl trivial ?_
 ·exact own1_run tk rfl rfl he rfl rfl rfl (hw.get (i:=5) rfl) (by rw[show 0+(k:Int).toNat*1=k from by omega];exact cellsB_get hgd)
 refine J.q hX λ_=>?_;refine J.cond rfl (λh4=>?_) (λh4=>?_)
 ·refine J.q hX λ_=>?_;refine J.val hX (shV ((R.look N b r m).slots.getD k Sh.zero)) 0 rfl rfl (λhg a w he hw=>?_) rfl trivial ?_
  ·exact ownN_run tk rfl rfl he rfl rfl rfl (hw.get (i:=4) rfl) (by rw[show 0+(k:Int).toNat*23=k*23 from by omega];exact cellsS_get hsd) rfl
  refine J.q hX λ_=>?_;refine J.cb hX (r_entry ((R.look N b r m).slots.getD k Sh.zero)) [] ?_;refine cpq ⟨_,rfl,trivial,?_⟩;refine J.q hX λ_=>?_;refine J.ru hX [1] ?_;rw[hr,if_pos h4];exact⟨rfl,rfl⟩
 refine J.q hX λ_=>?_;refine J.cb hX (r_mended (R.look N b r m) (G.slots m).toNat (by omega) hlen.1 hlen.2 hdat.1 hdat.2 (some g1) (some g2) c1 c2 k) [4,5] ?_;refine cpq ⟨_,rfl,trivial,?_⟩;refine J.q hX λ_=>?_;refine J.cond rfl (λh5=>?_) (λh5=>?_)
 ·refine J.q hX λ_=>?_;refine J.ru hX [1] ?_;rw[hr,if_neg (by rw[h4];exact Bool.false_ne_true),if_pos h5];exact⟨rfl,rfl⟩
 ·refine J.q hX λ_=>?_;refine J.ru hX [1] ?_;rw[hr,if_neg (by rw[h4];exact Bool.false_ne_true),if_neg (by rw[h5];exact Bool.false_ne_true)];exact⟨rfl,rfl⟩
def fnL (x:Fnd):List Value:=[.int .i64 x.en.lpn, .int .i64 x.en.seq, .int .i64 x.en.role,byC x.en.data 0,byC x.en.data 1,byC x.en.data 2,byC x.en.data 3,byC x.en.data 4,byC x.en.data 5,byC x.en.data 6,byC x.en.data 7,byC x.en.data 8,byC x.en.data 9,byC x.en.data 10,byC x.en.data 11,byC x.en.data 12,byC x.en.data 13,byC x.en.data 14,byC x.en.data 15,
 .int .i64 x.block, .int .i64 x.row, .int .i64 x.slot, .int .i64 x.mask, .bool x.whole, .bool x.mended]
def cellsF (l:List Fnd):List Value:=l.flatMap fnL
theorem fnL_len (x:Fnd):(fnL x).length=25:=rfl
theorem cellsF_len (l:List Fnd):(cellsF l).length=l.length*25:=by
 induction l with
 | nil=>rfl
 | cons x l ih=>simp only[cellsF,List.flatMap_cons,List.length_append,List.length_cons]at ih ⊢;rw[ih,fnL_len];omega
theorem cellsF_snoc (l:List Fnd) (x:Fnd):cellsF (l++[x])=cellsF l++fnL x:=by simp[cellsF]
theorem cellsF_get:∀{l:List Fnd} {k:Nat} {x:Fnd},l[k]? =some x->((cellsF l).drop (k*25)).take 25=fnL x
 | [],_,_,h=>by simp at h
 | y::l,0,x,h=>by
  simp at h;subst h;rw[Nat.zero_mul,List.drop_zero];exact List.take_left' (fnL_len y)
 | y::l,k+1,x,h=>by
  have:=cellsF_get (l:=l) (k:=k) (x:=x) (by simpa using h);rw[show(k+1)*25=25+k*25 from by omega,<- List.drop_drop];simp only[cellsF,List.flatMap_cons];rw[List.drop_left' (fnL_len y)];exact this
theorem ded_len (x:Int):∀l:List Int,(dedFrom x l).length<=l.length
 | []=>Nat.le_refl _
 | y::l=>by
  unfold dedFrom;split
  ·have h:=ded_len y l;exact Nat.le_trans h (by simp)
  ·have h:=ded_len y l;simpa using h
theorem compact_len:∀l:List Int,(compactI l).length<=l.length
 | []=>Nat.le_refl _
 | x::l=>by have h:=ded_len x l;simpa[compactI]using h
theorem masks_len (N:Nand) (b r:Int):(M.masks N b r).length<=N.dies:=by
 unfold M.masks;refine Nat.le_trans (compact_len _) ?_;rw[isortL_len];refine Nat.le_trans (List.length_filterMap_le _ _) ?_;simp[M.rowN]
def outI (N:Nand) (b r:Int) (i:Nat):List Fnd:=((M.masks N b r).take i).flatMap (R.allM N b r)
def outJ (N:Nand) (b r mk:Int) (i j:Nat):List Fnd:=outI N b r i++(List.range j).filterMap (R.fnd (R.look N b r mk) b r mk)
theorem allM_len (N:Nand) (b r m:Int):(R.allM N b r m).length<=7:=by
 unfold R.allM;refine Nat.le_trans (List.length_filterMap_le _ _) ?_;rw[List.length_range,(look_len N b r m).1];have:=gslots_bd m;omega
theorem outI_len (N:Nand) (b r:Int) (i:Nat) (h:N.dies<=6):(outI N b r i).length<=42:=by
 have h1:∀l:List Int,(l.flatMap (R.allM N b r)).length<=7*l.length:=by
  intro l
  induction l with
  | nil=>simp
  | cons x l ih=>rw[List.flatMap_cons,List.length_append,List.length_cons];have:=allM_len N b r x;omega
 have h2:=h1 ((M.masks N b r).take i);have h3:=masks_len N b r;have h4:((M.masks N b r).take i).length<=6:=by rw[List.length_take];omega
 unfold outI;omega
theorem outJ_len (N:Nand) (b r mk:Int) (i j:Nat) (h:N.dies<=6) (hj:j<=7):(outJ N b r mk i j).length<=49:=by
 have h1:=outI_len N b r i h;have h2:=List.length_filterMap_le (R.fnd (R.look N b r mk) b r mk) (List.range j);rw[List.length_range]at h2;unfold outJ;rw[List.length_append];omega
theorem outJ_zero (N:Nand) (b r mk:Int) (i:Nat):outJ N b r mk i 0=outI N b r i:=by simp[outJ]
theorem outJ_succ (N:Nand) (b r mk:Int) (i j:Nat):outJ N b r mk i (j+1)=outJ N b r mk i j++(R.fnd (R.look N b r mk) b r mk j).toList:=by
 unfold outJ;rw[List.range_succ,List.filterMap_append,List.append_assoc];congr 2
theorem outJ_all (N:Nand) (b r mk:Int) (i:Nat) (h:(M.masks N b r)[i]? =some mk):outJ N b r mk i (G.slots mk).toNat=outI N b r (i+1):=by
 unfold outJ outI;rw[List.take_add_one,h,Option.toList_some,List.flatMap_append];congr 1;rw[List.flatMap_cons,List.flatMap_nil,List.append_nil,R.allM,(look_len N b r mk).1]
theorem r_All (p:Nat) (N:Nand) (hN:N.Ok) (hR:N.Room) (b r:Int):Fn Tryz.prog 109 [.pointer (some ⟨p,0,none⟩), .int .i64 b, .int .i64 r] [NandA p N]
  (λv As=>∃a c,v=slv a (R.all N b r).length c/\As=[NandA p N,ownA 188 25 a (R.all N b r).length c (cellsF (R.all N b r))]):=by
 have hbd:=hN.bd;have hml:=masks_len N b r;refine Fn.enter [2,0,0] Tryz.func109 rfl rfl rfl λX F hX=>?_;refine J.q hX λ_=>?_;refine J.cb hX (m_Masks p N hN hR b r) [1] ?_;rintro v As ⟨am,cm,rfl,rfl⟩;refine⟨_,rfl,trivial,?_⟩;refine J.turn1 [] rfl (As:=[ownA 188 25 none 0 0 (cellsF (outI N b r 0))]) (λh s=>Sep.one ⟨rfl,rfl,rfl⟩) rfl ?_;refine J.q hX λ_=>?_;refine J.lo (α:=(Nat×Option Nat×Nat)) (λz=>z.1<=(M.masks N b r).length) (λz=>[⟨20, .int .i64 z.1,0, .tt⟩,⟨19, .int .i64 (M.masks N b r).length,0, .tt⟩,⟨18,slv am (M.masks N b r).length cm,0, .tt⟩,⟨7,slv z.2.1 (outI N b r z.1).length z.2.2,0, .tt⟩,⟨0, .pointer (some ⟨p,0,none⟩),2, .tt⟩,⟨1, .int .i64 b,0, .tt⟩,⟨2, .int .i64 r,0, .tt⟩]) [3] (λz=>[ownA 188 25 z.2.1 (outI N b r z.1).length z.2.2 (cellsF (outI N b r z.1))]) (λz=>(M.masks N b r).length-z.1) ((0,none,0)) (Nat.zero_le _) rfl ?_ (λ_=>rfl) λz hI=>?_
 ·rfl
 obtain⟨i,ao,co⟩:=z;dsimp only at hI ⊢;refine J.q hX λ_=>?_;refine J.cond rfl (λh1=>?_) (λh1=>?_)
 ·simp only[decide_eq_true_eq,Int.ofNat_lt]at h1;refine J.know (λh' s=>own_some (c:=(am,cm)) (by omega) (s.get (i:=2) rfl)) λhg=>?_;obtain⟨gm,rfl⟩:=hg;obtain⟨mk,hmk⟩:∃mk,(M.masks N b r)[i]? =some mk:=⟨_,List.getElem?_eq_getElem h1⟩;refine J.q hX λ_=>?_;refine J.val hX (.int .i64 mk) 0 rfl rfl (λhg a w he hw=>?_) rfl trivial ?_
  ·exact own1_run tk rfl rfl he rfl rfl rfl (hw.get (i:=2) rfl) (by rw[show 0+(i:Int).toNat*1=i from by omega];exact cellsI_get hmk)
  have hsb:=gslots_bd mk;have hlen:=look_len N b r mk;have hdat:=look_data hN b r mk;refine J.q hX λb7=>?_;refine J.cb hX (r_look p N hN hR b r mk) [1] ?_;rintro v As ⟨a1,c1,a2,c2,rfl,rfl⟩;refine⟨_,rfl,trivial,?_⟩;have hfnd:∀j,R.fnd (R.look N b r mk) b r mk j=if R.okAt (R.look N b r mk) j&&(R.enAt (R.look N b r mk) j).role !=3 then some ⟨R.enAt (R.look N b r mk) j,b,r,j,mk,(R.look N b r mk).whole,!((R.look N b r mk).good.getD j false)⟩else none:=λj=>rfl
  have hout:=outJ_succ N b r mk i;have hz:=outJ_zero N b r mk i;have hall:=outJ_all N b r mk i hmk;have hol:∀j,j<=7->(outJ N b r mk i j).length<=49:=λj hj=>outJ_len N b r mk i j (by omega) hj;have hnb:(G.slots mk).toNat<=7:=by omega
  rw[<- hz];generalize hf:R.look N b r mk=f at hlen hdat hfnd hout;generalize hn:(G.slots mk).toNat=n at hlen hall hnb;refine J.q hX λbbf=>?_;refine J.lo (α:=(Nat×Option Nat×Nat)) (λz=>z.1<=n) (λz=>[⟨32, .int .i64 z.1,0, .tt⟩,⟨31, .int .i64 n,0, .tt⟩,⟨30,slv a1 n c1,0, .tt⟩,⟨10, .pointer (some ⟨bbf 0,0,none⟩),7, .tt⟩,⟨9, .int .i64 mk,0, .tt⟩,⟨20, .int .i64 i,0, .tt⟩,⟨19, .int .i64 (M.masks N b r).length,0, .tt⟩,⟨18,slv (some gm) (M.masks N b r).length cm,0, .tt⟩,⟨7,slv z.2.1 (outJ N b r mk i z.1).length z.2.2,0, .tt⟩,⟨0, .pointer (some ⟨p,0,none⟩),2, .tt⟩,⟨1, .int .i64 b,0, .tt⟩,⟨2, .int .i64 r,0, .tt⟩]) [3] (λz=>[ownA 188 25 z.2.1 (outJ N b r mk i z.1).length z.2.2 (cellsF (outJ N b r mk i z.1))]) (λz=>n-z.1) ((0,ao,co)) (Nat.zero_le _) rfl ?_ (λ_=>rfl) λz hI=>?_
  ·rfl
  obtain⟨j,ao,co⟩:=z;dsimp only at hI ⊢;refine J.q hX λ_=>?_;refine J.cond rfl (λh2=>?_) (λh2=>?_)
  ·simp only[decide_eq_true_eq,Int.ofNat_lt]at h2;refine J.know (λh' s=>own_some (c:=(a1,c1)) (by omega) (s.get (i:=4) rfl)) λhg=>?_;obtain⟨g1,rfl⟩:=hg;refine J.know (λh' s=>own_some (c:=(a2,c2)) (by omega) (s.get (i:=5) rfl)) λhg=>?_;obtain⟨g2,rfl⟩:=hg;obtain⟨s,hs⟩:∃s,f.slots[j]? =some s:=⟨_,List.getElem?_eq_getElem (by omega)⟩;obtain⟨gk,hgd⟩:∃g,f.good[j]? =some g:=⟨_,List.getElem?_eq_getElem (by omega)⟩;have hgk:f.good.getD j false=gk:=by rw[List.getD_eq_getElem?_getD,hgd,Option.getD_some]
   have hsk:f.slots.getD j Sh.zero=s:=by rw[List.getD_eq_getElem?_getD,hs,Option.getD_some]
   refine J.q hX λ_=>?_;refine J.val hX (shV s) 0 rfl rfl (λhg a w he hw=>?_) rfl trivial ?_
   ·exact ownN_run tk rfl rfl he rfl rfl rfl (hw.get (i:=4) rfl) (by rw[show 0+(j:Int).toNat*23=j*23 from by omega];exact cellsS_get hs) rfl
   obtain⟨bb,hbb⟩:∃x,bbf 0=x:=⟨_,rfl⟩;rw[hbb];refine J.q hX λ_=>?_;refine J.plan (.take false 0 (.take true 2 (.take false 3 (.take true 4 (.take true 5 (.take false 6 (.alt false 1 ((.of [30,34,36])) (.alt false 7 ((.of [6,34,36])) .non)))))))) [9] [5,6,7] (by rw[hX.hP];kernel_rfl) (by kernel_rfl) ?_;refine J.join (α:=Nat) (λx=>[⟨14, .bool gk,0, .tt⟩,⟨13, .pointer (some ⟨x,0,none⟩),8, .tt⟩,⟨11, .int .i64 j,0, .tt⟩,⟨32, .int .i64 j,0, .tt⟩,⟨31, .int .i64 n,0, .tt⟩,⟨30,slv (some g1) n c1,0, .tt⟩,⟨10, .pointer (some ⟨bb,0,none⟩),7, .tt⟩,⟨9, .int .i64 mk,0, .tt⟩,⟨20, .int .i64 i,0, .tt⟩,⟨19, .int .i64 (M.masks N b r).length,0, .tt⟩,⟨18,slv (some gm) (M.masks N b r).length cm,0, .tt⟩,⟨7,slv ao (outJ N b r mk i j).length co,0, .tt⟩,⟨0, .pointer (some ⟨p,0,none⟩),2, .tt⟩,⟨1, .int .i64 b,0, .tt⟩,⟨2, .int .i64 r,0, .tt⟩]) (λx=>[.hp F,NandA p N,ownA 3 1 (some gm) (M.masks N b r).length cm (cellsI (M.masks N b r)),ownA 188 25 ao (outJ N b r mk i j).length co (cellsF (outJ N b r mk i j)),ownA 225 23 (some g1) n c1 (cellsS f.slots),ownA 4 1 (some g2) n c2 (cellsB f.good), .pt bb 227 (fdL (some g1) c1 (some g2) c2 n f.parity f.whole), .pt x 133 (enL s.en)]) (λhj=>?_) (λx=>?_)
   ·skip
    refine J.qn hX 5 λ_=>?_;refine J.valT hX (.bool gk) 0 rfl rfl (λ_ a w he hC=>own1_run tk rfl rfl he rfl rfl rfl (hC rfl _ (cget_mem (i:=5) rfl)) (by rw[show 0+(j:Int).toNat*1=j from by omega];exact cellsB_get hgd)) rfl ?_;refine J.alts ?_ ?_
    ·skip
     refine J.q hX λ_=>?_;refine J.cb hX (r_entry s) [] ?_;refine cpq ⟨_,rfl,⟨rfl,rfl,rfl,trivial⟩,?_⟩;refine J.qn hX 1 λb7=>?_;refine J.qn hX 3 λ_=>?_;exact J.goto [0,1,2,3,4,5,6,8] (hj (b7 0)) ⟨rfl,rfl,rfl,rfl,rfl,rfl,rfl,rfl,rfl,rfl,rfl,rfl,rfl,rfl,rfl,trivial⟩ rfl rfl
    ·skip
     refine J.qn hX 1 λb7=>?_;refine J.q hX λ_=>?_;refine J.cb hX (r_entry s) [] ?_;refine cpq ⟨_,rfl,⟨rfl,rfl,rfl,trivial⟩,?_⟩;refine J.qn hX 3 λ_=>?_;exact J.goto [0,1,2,3,4,5,6,8] (hj (b7 0)) ⟨rfl,rfl,rfl,rfl,rfl,rfl,rfl,rfl,rfl,rfl,rfl,rfl,rfl,rfl,rfl,trivial⟩ rfl rfl
   refine J.q hX λ_=>?_;refine J.join (α:=Unit) (λ_=>[⟨14, .bool (R.okAt f j),0, .tt⟩,⟨13, .pointer (some ⟨x,0,none⟩),8, .tt⟩,⟨11, .int .i64 j,0, .tt⟩,⟨32, .int .i64 j,0, .tt⟩,⟨31, .int .i64 n,0, .tt⟩,⟨30,slv (some g1) n c1,0, .tt⟩,⟨10, .pointer (some ⟨bb,0,none⟩),7, .tt⟩,⟨9, .int .i64 mk,0, .tt⟩,⟨20, .int .i64 i,0, .tt⟩,⟨19, .int .i64 (M.masks N b r).length,0, .tt⟩,⟨18,slv (some gm) (M.masks N b r).length cm,0, .tt⟩,⟨7,slv ao (outJ N b r mk i j).length co,0, .tt⟩,⟨0, .pointer (some ⟨p,0,none⟩),2, .tt⟩,⟨1, .int .i64 b,0, .tt⟩,⟨2, .int .i64 r,0, .tt⟩]) (λ_=>[.hp F,NandA p N,ownA 3 1 (some gm) (M.masks N b r).length cm (cellsI (M.masks N b r)),ownA 188 25 ao (outJ N b r mk i j).length co (cellsF (outJ N b r mk i j)),ownA 225 23 (some g1) n c1 (cellsS f.slots),ownA 4 1 (some g2) n c2 (cellsB f.good), .pt bb 227 (fdL (some g1) c1 (some g2) c2 n f.parity f.whole), .pt x 133 (enL (R.enAt f j))]) (λhj=>?_) (λ_=>?_)
   ·refine J.q hX λ_=>?_;refine J.cond rfl (λh3=>?_) (λh3=>?_)
    ·simp only[Bool.not_eq_true']at h3;subst h3;refine J.q hX λ_=>?_;refine J.cb hX (r_mended f n (by omega) hlen.1 hlen.2 hdat.1 hdat.2 (some g1) (some g2) c1 c2 j) [4,5] ?_;refine cpq ⟨_,rfl,trivial,?_⟩;rw[show R.okAt f j=R.mendB f j from by rw[R.okAt,hgk];rfl,show R.enAt f j=R.mend f j from by rw[R.enAt,hgk];rfl]at hj;refine J.qn hX 6 λ_=>?_;exact J.goto [0,1,2,3,4,5,6,7] (hj ()) ⟨rfl,rfl,rfl,rfl,rfl,rfl,rfl,rfl,rfl,rfl,rfl,rfl,rfl,rfl,rfl,trivial⟩ rfl rfl
    ·simp only[Bool.not_eq_false']at h3;subst h3;rw[show R.okAt f j=true from by rw[R.okAt,hgk];rfl,show R.enAt f j=s.en from by rw[R.enAt,hgk,if_pos rfl,hsk]]at hj;refine J.qn hX 1 λ_=>?_;exact J.goto [0,1,2,3,4,5,6,7] (hj ()) ⟨rfl,rfl,rfl,rfl,rfl,rfl,rfl,rfl,rfl,rfl,rfl,rfl,rfl,rfl,rfl,trivial⟩ rfl rfl
   have hf1:=hfnd j;have ho1:=hout j;have hol1:=hol j (by omega);generalize R.okAt f j=ok at hf1;generalize R.enAt f j=e at hf1;refine J.q hX λ_=>?_;refine J.cond rfl (λh4=>?_) (λh4=>?_)
   ·rw[if_pos h4,hgk]at hf1;rw[hf1,Option.toList_some]at ho1;have hsl:(outJ N b r mk i j).length+1=(outJ N b r mk i (j+1)).length:=by rw[ho1,List.length_append];rfl
    refine J.q hX λ_=>?_;refine J.plan (.of [0,5,8,12,16,20,24,28,33,36,41,44,48,53,56,60,66,70,72]) [18] [5,6,7] (by rw[hX.hP];kernel_rfl) (by kernel_rfl) ?_;refine J.qn hX 14 λ_=>?_;refine J.valT hX (.bool gk) 0 rfl rfl (λ_ a w he hC=>own1_run tk rfl rfl he rfl rfl rfl (hC rfl _ (cget_mem (i:=5) rfl)) (by rw[show 0+(j:Int).toNat*1=j from by omega];exact cellsB_get hgd)) rfl ?_;refine J.q hX λ_=>?_;refine J.append hX tk 3 8 0 rfl rfl rfl rfl rfl rfl rfl rfl rfl rfl rfl rfl rfl rfl rfl rfl ?_ ?_ (λ_=>rfl) λa4 c4=>⟨_,(congrArg (λz=>lset _ 3 (ownA _ _ _ _ _ z)) ((cellsF_snoc _ _).symm.trans (congrArg cellsF ho1.symm))).trans rfl,⟨rfl,rfl,rfl,trivial⟩,?_⟩
    ·simp only[maxLen];omega
    ·omega
    rw[hsl];refine J.q hX λ_=>?_;rw[<- hbb];refine J.q hX λ_=>?_;refine J.nS ((j+1,a4,c4)) (by dsimp only;omega) (by dsimp only;omega) [0,1,2,3,4,5,6] rfl rfl
   ·rw[if_neg (by rw[h4];exact Bool.false_ne_true)]at hf1;rw[hf1,Option.toList_none,List.append_nil]at ho1;rw[<- ho1];refine J.q hX λ_=>?_;rw[<- hbb];refine J.q hX λ_=>?_;refine J.nS ((j+1,ao,co)) (by dsimp only;omega) (by dsimp only;omega) [0,1,2,3,4,5,6] rfl rfl
  ·simp only[decide_eq_false_iff_not,Int.ofNat_lt]at h2;obtain rfl:j=n:=by omega
   rw[hall];refine J.q hX λ_=>?_;refine J.nS ((i+1,ao,co)) (by dsimp only;omega) (by dsimp only;omega) [0,1,2,3] rfl rfl
 ·simp only[decide_eq_false_iff_not,Int.ofNat_lt]at h1;obtain rfl:i=(M.masks N b r).length:=by omega
  have:outI N b r (M.masks N b r).length=R.all N b r:=by unfold outI R.all;rw[List.take_length]
  rw[this];refine J.q hX λ_=>?_;refine J.ru hX [1,3] ?_;exact⟨ao,co,rfl,rfl⟩
end Go.Proofs.YtkdlnfdjjifedaaGreat
namespace Go.Proofs.YtkdlnfdjjifedaaGreat
open Go
theorem go_Gd (b r:Int) {mm:Nat}:∀(q:List (Int×Sh)) (N:Nand) (f:Int) (k:Nat),(∀x∈q,x.2.data.length=16)->N.Gd (q.length+k) mm->(R.go b r q N f).1.Gd k mm
 | [],N,f,k,_,h=>by rw[R.go];exact h.less (by simp) (Nat.le_refl _)
 | (d,s)::q,N,f,k,hd,h=>by
  have h1:(N.progN d b r (putP s)).Gd (q.length+k) mm:=Nand.Gd.prog (h.less (by rw[List.length_cons];omega) (Nat.le_refl _)) d b r _ (putP_len s (hd (d,s) (by simp)));have hd':∀x∈q,x.2.data.length=16:=λx hx=>hd x (by simp[hx]);rw[R.go];split
  ·exact go_Gd b r q _ _ k hd' h1
  ·split
   ·exact h1.less (by omega) (Nat.le_refl _)
   ·exact go_Gd b r q _ _ k hd' h1
theorem job_data {b r m:Int} {l:List En} (hd:∀s∈l,s.data.length=16):∀x∈R.job b r m l,x.2.data.length=16:=by
 intro x hx;simp only[R.job,List.mem_append,List.mem_map,List.mem_range,List.mem_singleton]at hx;rcases hx with⟨k,hk,rfl⟩ | rfl
 ·refine hd _ ?_;rw[List.getD_eq_getElem?_getD,List.getElem?_eq_getElem hk];exact List.getElem_mem _
 ·exact fold_len (λt ht=>by obtain⟨e,he,rfl⟩:=List.mem_map.1 ht;exact hd e he) _ rfl
theorem parB_len {b r m:Int} {l:List En} (h:W.parB b r m l=true):(l.length:Int)=G.slots m/\1<=l.length/\l.length<=7/\∀e∈l,W.ok b r m e=true:=by
 simp only[W.parB,Bool.and_eq_true,decide_eq_true_eq,List.all_eq_true]at h;have:=gslots_bd m;refine⟨h.1.1,?_,by omega,h.2⟩;cases l with
 | nil=>simp at h
 | cons x l=>simp
theorem write_Gd {N:Nand} {b r m:Int} {l:List En} {k mm:Nat} (hd:∀s∈l,s.data.length=16) (h:N.Gd (8+k) mm):(R.write N b r m l).1.Gd k mm:=by
 unfold R.write;split
 ·rename_i hB;have:=parB_len hB;exact go_Gd b r _ _ _ k (job_data hd) (h.less (by rw[job_len];omega) (Nat.le_refl _))
 ·exact h.less (by omega) (Nat.le_refl _)
theorem go_like (b r:Int):∀(q:List (Int×Sh)) (N:Nand) (f:Int),N.Like (R.go b r q N f).1
 | [],N,f=>by rw[R.go];exact Nand.Like.refl N
 | (d,s)::q,N,f=>by
  rw[R.go];split
  ·exact(Nand.like_prog _ _ _ _ _).trans (go_like b r q _ _)
  ·split
   ·exact Nand.like_prog _ _ _ _ _
   ·exact(Nand.like_prog _ _ _ _ _).trans (go_like b r q _ _)
theorem write_like (N:Nand) (b r m:Int) (l:List En):N.Like (R.write N b r m l).1:=by
 unfold R.write;split
 ·exact go_like b r _ _ _
 ·exact Nand.Like.refl N
end Go.Proofs.YtkdlnfdjjifedaaGreat
namespace Go.Proofs.YtkdlnfdjjifedaaGreat
namespace Tl
def clean (t:Tl) (k:Int) (on:Bool):Tl:=t.set k {t.at_ k with used:=!on}
def hold (t:Tl) (k:Int) (on:Bool):Tl:=t.set k {t.at_ k with held:=on}
def die (t:Tl) (d:Int):Tl:=if t.hasDie d=true then⟨t.d,t.b,t.p,t.l,L.with_ t.dead d⟩else t
end Tl
def En.pad:En:=⟨0,0,3,zeros16⟩
structure Dv where
 N:Nand
 t:Tl
 T:Tb
 op:Int
 row:Int
 mask:Int
 next:Int
namespace Dv
def pick (S:Dv):Int:=pkLeast (λx y=>cmpI (S.t.wear x) (S.t.wear y)) (pkSome (pkFree S.t S.T) S.op S.t.b)
def left (S:Dv):Bool:=decide (S.op>=0)&&decide (S.row<S.N.pages)&&decide (G.slots S.mask>0)
def slots (S:Dv):Int:=if S.left then G.slots S.mask else G.slots (S.t.mask S.pick)
def opened (S:Dv):Dv:={S with t:=S.t.clean S.pick false,op:=S.pick,row:=0,mask:=(S.t.clean S.pick false).mask S.pick}
def lose (f:Int) (S:Dv) (d:Nat):Dv:=
 if L.has f d then
  {S with t:=if S.N.deadAt d then S.t.die d else S.t.bad d S.op,mask:=L.without S.mask d}
 else S
def loses (S:Dv) (f:Int):Dv:=(List.range S.N.dies).foldl (lose f) S
def numAt (l:List En) (next:Int) (k:Nat):En:=if k<l.length then {l.getD k En.zero with seq:=next+k}else En.pad
def num (l:List En) (next:Int) (n:Nat):List En:=(List.range n).map (numAt l next)
def puts (T:Tb) (b r m:Int) (es:List En) (k:Nat):Tb:=(List.range k).foldl (λT (i:Nat)=>T.put (es.getD i En.zero) b r i m) T
def fit (S:Dv) (l:List En):Nat:=min l.length (G.slots S.mask).toNat
def es (S:Dv) (l:List En):List En:=num l S.next (G.slots S.mask).toNat
def wr (S:Dv) (l:List En):Nand×Int×Int:=R.write S.N S.op S.row S.mask (S.es l)
def wrote (S:Dv) (l:List En):Dv:={S with N:=(S.wr l).1,row:=S.row+1,next:=S.next+S.fit l}
def write:Nat->Dv->List En->Dv×Int×Int
 | 0,S,_=>(S,0,0)
 | k+1,S,l=>
  if l.length=0 then(S,0,0)
  else if S.left=false/\S.pick<0 then(S,0,11)
  else
   let S1:=if S.left then S else S.opened
   if S1.next>1099511627775-(S1.fit l:Int)+1 then(S1,0,11)
   else if(S1.wr l).2.2=1 then({S1 with next:=S1.next+S1.fit l,N:=(S1.wr l).1},0,1)
   else if(S1.wr l).2.2=0 then({S1.wrote l with T:=puts S1.T S1.op S1.row S1.mask (S1.es l) (S1.fit l)},S1.fit l,0)
   else if(S1.wr l).2.2=9 then(S1.wrote l,0,9)
   else write k ((S1.wrote l).loses (S1.wr l).2.1) l
def fuel:Nat:=160
def pen (S:Dv) (l:List En):Dv×Int×Int:=write fuel S l
def rd (S:Dv) (i:Int):En×Int:=
 let a:=(Tb.look S.T.at_ i).getD AtV.zero
 let x:=R.read S.N a.block a.row a.slot a.mask
 if x.2=9 then(En.zero,9)
 else if x.2≠0\/x.1.lpn≠i\/x.1.seq≠a.seq then(⟨i,0,4,zeros16⟩,0)
 else(x.1,0)
def rds (S:Dv):List Int->List En×Int
 | []=>([],0)
 | i::l=>if(S.rd i).2≠0 then([],(S.rd i).2)else((S.rd i).1::(rds S l).1,(rds S l).2)
def carryGo:Nat->Dv->List Int->Int->Dv×Int×Int
 | 0,S,_,done=>(S,done,0)
 | k+1,S,l,done=>
  if l.length=0 then(S,done,0)
  else
   let r:=S.rds (l.take (max S.slots 1).toNat)
   if r.2≠0 then(S,done,r.2)
   else
    let w:=S.pen r.1
    if w.2.2≠0 then(w.1,done+w.2.1,w.2.2)
    else carryGo k w.1 (l.drop w.2.1.toNat) (done+w.2.1)
def carry (S:Dv) (b most:Int):Dv×Int×Int:=
 let l:=(S.T.ins b).take (max most 0).toNat
 carryGo l.length S l 0
def eraseD (b m:Int) (x:Nand×Tl×Int) (d:Nat):Nand×Tl×Int:=
 if x.2.2≠0 then x
 else if L.has m d=false then x
 else
  let e:=x.1.eraseE d b
  (x.1.eraseN d b,if e=0 then x.2.1 else if e=9 then x.2.1 else if e=8 then x.2.1.die d else x.2.1.bad d b,if e=9 then 9 else 0)
def eraseB (N:Nand) (t:Tl) (b:Int):Nand×Tl×Int:=(List.range N.dies).foldl (eraseD b (t.mask b)) (N,t,0)
def wores (N:Nand) (t:Tl) (b:Int):Tl:=(List.range N.dies).foldl (λt (d:Nat)=>t.wore b (N.wornAt d b)) t
def eraseT (N:Nand) (t:Tl) (b:Int):Tl:=if(wores N t b).usable b then(wores N t b).clean b true else wores N t b
def erase (N:Nand) (t:Tl) (b:Int):Nand×Tl×Int:=
 let x:=eraseB N t b
 if x.2.2≠0 then x else(x.1,eraseT x.1 x.2.1 b,0)
def clearGo:List Int->Nand->Tl->Nand×Tl×Int
 | [],N,t=>(N,t,0)
 | b::l,N,t=>
  let x:=erase N t b
  if x.2.2≠0 then x else clearGo l x.1 x.2.1
def clearX (N:Nand) (t:Tl) (T:Tb) (o:Int):Nand×Tl×Int:=clearGo (pkSome (pkSpent t T) o t.b) N t
def clear(S:Dv):Dv×Int:=
 let x:=clearX S.N S.t S.T S.op
 ({S with N:=x.1,t:=x.2.1},x.2.2)
def victim (S:Dv):Int:=pkLeast (λx y=>orI [cmpI (S.T.count x) (S.T.count y),cmpI (S.t.wear x) (S.t.wear y)]) (pkSome (pkUsed S.t S.T) S.op S.t.b)
def free (S:Dv):Nat:=(pkSome (pkFree S.t S.T) S.op S.t.b).length
def roomGo:Nat->Dv->Dv×Int
 | 0,S=>(S,0)
 | k+1,S=>
  if(S.free:Int)>4 then(S,0)
  else if S.victim<0\/S.T.count S.victim>=S.t.p*G.slots (S.t.mask S.victim)then(S,0)
  else
   let c:=S.carry S.victim (S.T.count S.victim)
   if c.2.2≠0 then(c.1,c.2.2)
   else
    let d:=c.1.clear
    if d.2≠0 then d else roomGo k d.1
def room (S:Dv):Dv×Int:=if S.clear.2≠0 then S.clear else roomGo S.t.b S.clear.1
def hurts (S:Dv):List Int:=pkSome (pkHurt S.t S.T) (-1) S.t.b
def leftN (S:Dv):Int:=(S.hurts.map S.T.count).sum
def seeDead (N:Nand) (t:Tl):Tl:=(List.range t.d).foldl (λt (d:Nat)=>if N.deadAt d then t.die d else t) t
def seen (S:Dv):Dv:={S with t:=seeDead S.N S.t}
def step (S:Dv) (most:Int):Dv×Int×Int:=
 let r:=S.seen.room
 if r.2≠0 then(r.1,0,r.2)
 else match r.1.hurts with
  | []=>(r.1,0,0)
  | b::_=>r.1.carry b most
def tornGo:Nat->Dv->List En->Dv×Int
 | 0,S,_=>(S,0)
 | k+1,S,l=>
  if l.length=0 then(S,0)
  else
   let r:=S.room
   if r.2≠0 then r
   else
    let w:=r.1.pen l
    if w.2.2≠0 then(w.1,w.2.2)else tornGo k w.1 (l.drop w.2.1.toNat)
def torn (S:Dv) (l:List En):Dv×Int:=tornGo l.length S l
end Dv
end Go.Proofs.YtkdlnfdjjifedaaGreat
namespace Go.Proofs.YtkdlnfdjjifedaaGreat
open Go.RowKit
set_option maxRecDepth 100000 in
theorem zig_1 (w:World):Calls Tryz.prog 323 #[.int .i64 (-1)] w λe w'=>e= .returned (.int .u64 1)/\w=w':=by
 go_enter Tryz.func323,Tryz.ntmps323
 go_wp2
 go_ret
 exact⟨by kernel_rfl,rfl⟩
set_option maxRecDepth 100000 in
theorem zag_1 (w:World):Calls Tryz.prog 324 #[.int .u64 1] w λe w'=>e= .returned (.int .i64 (-1))/\w=w':=by
 go_enter Tryz.func324,Tryz.ntmps324
 go_wp2
 go_ret
 exact⟨by kernel_rfl,rfl⟩
set_option maxRecDepth 100000 in
theorem narrow_1 (w:World):Calls Tryz.prog 325 #[.int .i64 255, .int .i64 8] w λe w'=>e= .returned (.int .i64 (-1))/\w=w':=by
 go_enter Tryz.func325,Tryz.ntmps325
 go_wp2
 go_ret
 exact⟨by kernel_rfl,rfl⟩
set_option maxRecDepth 100000 in
theorem narrow_2 (w:World):Calls Tryz.prog 325 #[.int .i64 1, .int .i64 0] w λe w'=>e= .returned (.int .i64 0)/\w=w':=by
 go_enter Tryz.func325,Tryz.ntmps325
 go_wp2
 go_ret
 exact⟨by kernel_rfl,rfl⟩
end Go.Proofs.YtkdlnfdjjifedaaGreat
namespace Go.Proofs.YtkdlnfdjjifedaaGreat
open Go Go.RowKit
def nk (k:Nat):Nat:=match k with | 0=>0 | _+1=>1
def vb (k:Nat):Int:=match k with | 0=>0 | 1=>128 | 2=>128 | _=>160
def vq (k:Nat):Int:=match k with | 0=>0 | _=>128
def vl (k:Nat):List Value:=match k with | 0=>[] | k+1=>[.int .u8 (vb (k+1))]
theorem b_may (n:Int):Fn Tryz.prog 273 [.int .i64 n] [] (λv As=>v= .bool (decide (n>=1)&&decide (n<=64))/\As=[]):=by
 refine Fn.enter [0] Tryz.func273 rfl rfl rfl λX F hX=>?_;refine J.q hX λ_=>?_;exact J.ru hX [] ⟨rfl,rfl⟩
theorem b_Put1 (g:Nat):Fn Tryz.prog 257 [.pointer (some ⟨g,0,none⟩), .int .u64 5, .int .i64 3] [.pt g 322 [.slice none 0 0, .int .i64 0]]
  (λv As=>v= .bool true/\∃a cap,As=[.pt g 322 [slv a 1 cap, .int .i64 3],ownA 5 1 a 1 cap [.int .u8 160]]):=by
 refine Fn.enter [2,0,0] Tryz.func257 rfl rfl rfl λX F hX=>?_;refine J.q hX λ_=>?_;refine J.cb hX (b_may 3) [] ?_;refine cpq ⟨_,rfl,trivial,?_⟩;refine J.q hX λ_=>?_;refine J.cF ?_;refine J.turn1 [] rfl (As:=[ownA 5 1 none 0 0 (vl 0)]) (λh s=>Sep.one ⟨rfl,rfl,rfl⟩) rfl ?_;refine J.q hX λ_=>?_;refine J.lo (α:=(Nat×Option Nat×Nat)) (λz=>z.1<=3) (λz=>[⟨7, .int .i64 (2-z.1),0, .tt⟩,⟨0, .pointer (some ⟨g,0,none⟩),2, .tt⟩,⟨1, .int .u64 5,0, .tt⟩]) [1,2] (λz=>[.pt g 322 [slv z.2.1 (nk z.1) z.2.2, .int .i64 z.1],ownA 5 1 z.2.1 (nk z.1) z.2.2 (vl z.1)]) (λz=>3-z.1) ((0,none,0)) (Nat.zero_le _) rfl ?_ (λ_=>rfl) λz hI=>?_
 ·rfl
 obtain⟨k,a,cap⟩:=z;dsimp only at hI ⊢;rcases(by omega:k=0\/k=1\/k=2\/k=3)with rfl | rfl | rfl | rfl
 ·--bit 0
  refine J.q hX λ_=>?_;refine J.cT ?_;refine J.q hX λ_=>?_;refine J.cT ?_;refine J.q hX λ_=>?_;refine J.append hX tk 2 3 0 rfl rfl rfl rfl rfl rfl rfl rfl rfl rfl rfl rfl rfl rfl rfl rfl (by decide) (by decide) (λ_=>rfl) λa cap=>⟨_,rfl,trivial,?_⟩;refine J.know (λh' s=>own_some (c:=(a,cap)) (by decide) (s.get (i:=2) rfl)) λhg=>?_;obtain⟨ga,rfl⟩:=hg;refine J.openOwn 2 rfl rfl (λ_=>rfl) λr q1 q2 q3 q4=>?_;refine J.q hX λ_=>?_;refine J.plan (.of [0,4,8,13,16,20,24,29,32,36,41,44,48,52,56,60,64,68,72,77,80,84,88,92,96,103]) [24,25] [1,2] (by rw[hX.hP];kernel_rfl) (by kernel_rfl) ?_;refine J.q hX λ_=>?_;refine J.valT hX (.int .u8 (vq 0)) 0 rfl rfl (λhg a w he hC=>?_) rfl ?_
  ·exact load1_run tk rfl rfl he hg rfl rfl (hC rfl _ (cget_mem (i:=2) rfl)) rfl
  refine J.q hX λ_=>?_;refine J.store1 hX tk 2 rfl rfl rfl rfl rfl rfl rfl rfl rfl rfl rfl rfl rfl ?_ (.int .u8 (vb 1)::r) ?_ rfl (λ_=>rfl) ⟨trivial,?_⟩
  ·exact Nat.succ_pos _
  ·rfl
  refine J.closeOwn (e:=5) (size:=1) (n:=1) (cap:=cap) (xs:=[.int .u8 (vb 1)]) 2 rfl rfl rfl q2 q3 (by rw[List.length_cons,Nat.add_comm];exact q4) rfl rfl ?_;refine J.q hX λ_=>?_;refine J.nS ((1,some ga,cap)) (by dsimp only;omega) (by dsimp only;omega) [0,1,2] rfl rfl
 ·--bit 1
  refine J.q hX λ_=>?_;refine J.cT ?_;refine J.q hX λ_=>?_;refine J.cF ?_;refine J.know (λh' s=>own_some (c:=(a,cap)) (by decide) (s.get (i:=2) rfl)) λhg=>?_;obtain⟨ga,rfl⟩:=hg;refine J.openOwn 2 rfl rfl (λ_=>rfl) λr q1 q2 q3 q4=>?_;refine J.q hX λ_=>?_;refine J.plan (.of [0,4,8,13,16,20,24,29,32,36,41,44,48,52,56,60,64,68,72,77,80,84,88,92,96,103]) [24,25] [1,2] (by rw[hX.hP];kernel_rfl) (by kernel_rfl) ?_;refine J.q hX λ_=>?_;refine J.valT hX (.int .u8 (vq 1)) 0 rfl rfl (λhg a w he hC=>?_) rfl ?_
  ·exact load1_run tk rfl rfl he hg rfl rfl (hC rfl _ (cget_mem (i:=2) rfl)) rfl
  refine J.q hX λ_=>?_;refine J.store1 hX tk 2 rfl rfl rfl rfl rfl rfl rfl rfl rfl rfl rfl rfl rfl ?_ (.int .u8 (vb 2)::r) ?_ rfl (λ_=>rfl) ⟨trivial,?_⟩
  ·exact Nat.succ_pos _
  ·rfl
  refine J.closeOwn (e:=5) (size:=1) (n:=1) (cap:=cap) (xs:=[.int .u8 (vb 2)]) 2 rfl rfl rfl q2 q3 (by rw[List.length_cons,Nat.add_comm];exact q4) rfl rfl ?_;refine J.q hX λ_=>?_;refine J.nS ((2,some ga,cap)) (by dsimp only;omega) (by dsimp only;omega) [0,1,2] rfl rfl
 ·--bit 2
  refine J.q hX λ_=>?_;refine J.cT ?_;refine J.q hX λ_=>?_;refine J.cF ?_;refine J.know (λh' s=>own_some (c:=(a,cap)) (by decide) (s.get (i:=2) rfl)) λhg=>?_;obtain⟨ga,rfl⟩:=hg;refine J.openOwn 2 rfl rfl (λ_=>rfl) λr q1 q2 q3 q4=>?_;refine J.q hX λ_=>?_;refine J.plan (.of [0,4,8,13,16,20,24,29,32,36,41,44,48,52,56,60,64,68,72,77,80,84,88,92,96,103]) [24,25] [1,2] (by rw[hX.hP];kernel_rfl) (by kernel_rfl) ?_;refine J.q hX λ_=>?_;refine J.valT hX (.int .u8 (vq 2)) 0 rfl rfl (λhg a w he hC=>?_) rfl ?_
  ·exact load1_run tk rfl rfl he hg rfl rfl (hC rfl _ (cget_mem (i:=2) rfl)) rfl
  refine J.q hX λ_=>?_;refine J.store1 hX tk 2 rfl rfl rfl rfl rfl rfl rfl rfl rfl rfl rfl rfl rfl ?_ (.int .u8 (vb 3)::r) ?_ rfl (λ_=>rfl) ⟨trivial,?_⟩
  ·exact Nat.succ_pos _
  ·rfl
  refine J.closeOwn (e:=5) (size:=1) (n:=1) (cap:=cap) (xs:=[.int .u8 (vb 3)]) 2 rfl rfl rfl q2 q3 (by rw[List.length_cons,Nat.add_comm];exact q4) rfl rfl ?_;refine J.q hX λ_=>?_;refine J.nS ((3,some ga,cap)) (by dsimp only;omega) (by dsimp only;omega) [0,1,2] rfl rfl
 ·refine J.q hX λ_=>?_;refine J.cF ?_;refine J.q hX λ_=>?_;refine J.ru hX [1,2] ?_;exact⟨rfl,a,cap,rfl⟩
theorem b_Put2 (g:Nat) (a:Option Nat) (cap:Nat):Fn Tryz.prog 257 [.pointer (some ⟨g,0,none⟩), .int .u64 2, .int .i64 1] [.pt g 322 [slv a 1 cap, .int .i64 3]]
  (λv As=>v= .bool false/\As=[.pt g 322 [slv a 1 cap, .int .i64 3]]):=by
 refine Fn.enter [2,0,0] Tryz.func257 rfl rfl rfl λX F hX=>?_;refine J.q hX λ_=>?_;refine J.cb hX (b_may 1) [] ?_;refine cpq ⟨_,rfl,trivial,?_⟩;refine J.q hX λ_=>?_;refine J.cT ?_;refine J.q hX λ_=>?_;exact J.ru hX [1] ⟨rfl,rfl⟩
theorem o_Len (g:Nat) (a:Option Nat) (m cap:Nat) (k:Int):Fn Tryz.prog 327 [.pointer (some ⟨g,0,none⟩)] [.pt g 322 [slv a m cap, .int .i64 k]]
  (λv As=>v= .int .i64 k/\As=[.pt g 322 [slv a m cap, .int .i64 k]]):=by
 refine Fn.enter [2] Tryz.func327 rfl rfl rfl λX F hX=>?_;refine J.q hX λ_=>?_;refine J.cF ?_;refine J.q hX λ_=>?_;exact J.ru hX [1] ⟨rfl,rfl⟩
theorem x_CloneB (a:Option Nat) (n cap:Nat) (l:List Value) (hl:l.length=n) (h1:∀u∈l,u.oneCell'=true) (hn:n<=1000000):Fn Tryz.prog 276 [slv a n cap] [ownA 5 1 a n cap l]
  (λv As=>∃a' c',v=slv a' n c'/\As=[ownA 5 1 a n cap l,ownA 5 1 a' n c' l]):=by
 refine Fn.enter [0] Tryz.func276 rfl rfl rfl λX F hX=>?_;cases a with
 | none=>
  refine J.know (λh' s=>(s.get (i:=1) rfl).2) λhn0=>?_;obtain⟨rfl,rfl⟩:=hn0;have:l=[]:=List.eq_nil_of_length_eq_zero hl;subst this;refine J.q hX λ_=>?_;refine J.cT ?_;refine J.turn1 [] rfl (As:=[ownA 5 1 none 0 0 []]) (λh s=>Sep.one ⟨rfl,rfl,rfl⟩) rfl ?_;refine J.q hX λ_=>?_;refine J.ru hX [1,2] ?_;exact⟨none,0,rfl,rfl⟩
 | some g=>
  refine J.q hX λ_=>?_;refine J.cF ?_;refine J.qn hX 5 λbb=>?_;refine J.closeOwn (e:=5) (size:=1) (n:=0) (cap:=0) (xs:=[]) 2 rfl rfl rfl (Nat.le_refl _) (Nat.zero_le _) rfl rfl rfl ?_;refine J.q hX λ_=>?_;refine J.appendR hX tk (a:=some (bb 0)) (n:=0) (cap:=0) (xs:=[]) (oo:=0) (Ay:=ownA 5 1 (some g) n cap l) 2 1 0 rfl rfl rfl rfl rfl rfl rfl rfl rfl rfl (own_rd _ _ (some g) _ _ _) rfl rfl rfl rfl h1 ?_ ?_ (λ_=>rfl) λa' c'=>⟨_,rfl,trivial,?_⟩
  ·simp only[maxLen];omega
  ·omega
  rw[Nat.zero_add n,List.nil_append];refine J.q hX λ_=>?_;refine J.ru hX [1,2] ?_;exact⟨a',c',rfl,rfl⟩
theorem b_Bytes (g:Nat) (a:Option Nat) (m cap:Nat) (k:Int) (l:List Value) (hl:l.length=m) (h1:∀u∈l,u.oneCell'=true) (hn:m<=1000000):Fn Tryz.prog 259 [.pointer (some ⟨g,0,none⟩)] [.pt g 322 [slv a m cap, .int .i64 k],ownA 5 1 a m cap l]
  (λv As=>∃a' c',v=slv a' m c'/\As=[.pt g 322 [slv a m cap, .int .i64 k],ownA 5 1 a m cap l,ownA 5 1 a' m c' l]):=by
 refine Fn.enter [2] Tryz.func259 rfl rfl rfl λX F hX=>?_;refine J.q hX λ_=>?_;refine J.cF ?_;refine J.q hX λ_=>?_;refine J.cb hX (x_CloneB a m cap l hl h1 hn) [2] ?_;rintro v As ⟨a',c',rfl,rfl⟩;refine⟨_,rfl,trivial,?_⟩;refine J.q hX λ_=>?_;refine J.ru hX [1,2,3] ?_;exact⟨a',c',rfl,rfl⟩
theorem b_Read (a:Option Addr) (n cap:Nat):Fn Tryz.prog 250 [.slice a n cap] [] (λv As=>∃g,v= .pointer (some ⟨g,0,none⟩)/\As=[.pt g 335 [.slice a n cap, .int .i64 0]]):=by
 refine Fn.enter [0] Tryz.func250 rfl rfl rfl λX F hX=>?_;refine J.q hX λbb=>?_;refine J.ru hX [1] ?_;exact⟨bb 0,rfl,rfl⟩
theorem b_Left (g b:Nat) (k:Int) (h0:0<=k) (h1:k<=8):Fn Tryz.prog 274 [.pointer (some ⟨g,0,none⟩)] [.pt g 335 [.slice (some ⟨b,0,none⟩) 1 1, .int .i64 k]]
  (λv As=>v= .int .i64 (8-k)/\As=[.pt g 335 [.slice (some ⟨b,0,none⟩) 1 1, .int .i64 k]]):=by
 refine Fn.enter [2] Tryz.func274 rfl rfl rfl λX F hX=>?_;refine J.q hX λ_=>?_;refine J.cF ?_;refine J.q hX λ_=>?_;refine J.plan (.of [0,4,8,13,16,20,24,28,32,37,40,44]) [11] [1] (by rw[hX.hP];kernel_rfl) (by kernel_rfl) ?_;refine J.q hX λ_=>?_;exact J.ru hX [1] ⟨rfl,rfl⟩
theorem b_Get9 (g b:Nat):Fn Tryz.prog 251 [.pointer (some ⟨g,0,none⟩), .int .i64 9] [.pt g 335 [.slice (some ⟨b,0,none⟩) 1 1, .int .i64 4]]
  (λv As=>v= .tuple #[.int .u64 0, .bool false]/\As=[.pt g 335 [.slice (some ⟨b,0,none⟩) 1 1, .int .i64 4]]):=by
 refine Fn.enter [2,0] Tryz.func251 rfl rfl rfl λX F hX=>?_;refine J.q hX λ_=>?_;refine J.cb hX (b_may 9) [] ?_;refine cpq ⟨_,rfl,trivial,?_⟩;refine J.q hX λ_=>?_;refine J.cb hX (b_Left g b 4 (by decide) (by decide)) [1] ?_;refine cpq ⟨_,rfl,trivial,?_⟩;refine J.q hX λ_=>?_;refine J.cT ?_;refine J.q hX λ_=>?_;exact J.ru hX [1] ⟨rfl,rfl⟩
def vg (k:Nat):Int:=match k with | 0=>0 | 1=>1 | 2=>2 | 3=>5 | _=>10
theorem b_Get4 (g b:Nat):Fn Tryz.prog 251 [.pointer (some ⟨g,0,none⟩), .int .i64 4] [.pt g 335 [.slice (some ⟨b,0,none⟩) 1 1, .int .i64 0], .pt b 5 [.int .u8 165]]
  (λv As=>v= .tuple #[.int .u64 10, .bool true]/\As=[.pt g 335 [.slice (some ⟨b,0,none⟩) 1 1, .int .i64 4], .pt b 5 [.int .u8 165]]):=by
 refine Fn.enter [2,0] Tryz.func251 rfl rfl rfl λX F hX=>?_;refine J.q hX λ_=>?_;refine J.cb hX (b_may 4) [] ?_;refine cpq ⟨_,rfl,trivial,?_⟩;refine J.q hX λ_=>?_;refine J.cb hX (b_Left g b 0 (by decide) (by decide)) [1] ?_;refine cpq ⟨_,rfl,trivial,?_⟩;refine J.q hX λ_=>?_;refine J.cF ?_;refine J.q hX λ_=>?_;refine J.lo (α:=Nat) (λk=>k<=4) (λk=>[⟨6, .int .u64 (vg k),0, .tt⟩,⟨7, .int .i64 4,0, .tt⟩,⟨0, .pointer (some ⟨g,0,none⟩),2, .tt⟩]) [1] (λk=>[.pt g 335 [.slice (some ⟨b,0,none⟩) 1 1, .int .i64 k]]) (λk=>4-k) (0) (Nat.zero_le _) rfl ?_ (λ_=>rfl) λk hI=>?_
 ·rfl
 rcases(by omega:k=0\/k=1\/k=2\/k=3\/k=4)with rfl | rfl | rfl | rfl | rfl
 ·refine J.q hX λ_=>?_;refine J.cT ?_;refine J.q hX λ_=>?_;refine J.plan (.of [0,4,8,12,16,21,24,28,32,37,40,44,49,52,56,60,65,68,72,76,80,84,88,92]) [23] [1,2] (by rw[hX.hP];kernel_rfl) (by kernel_rfl) ?_;refine J.q hX λ_=>?_;refine J.valT hX (.int .u8 165) 0 rfl rfl (λhg a w he hC=>?_) rfl ?_
  ·exact load1_run tk rfl rfl he hg rfl rfl (hC rfl _ (cget_mem (i:=2) rfl)) rfl
  refine J.q hX λ_=>?_;refine J.nS (1) (by omega) (by omega) [0,1,2] rfl rfl
 ·refine J.q hX λ_=>?_;refine J.cT ?_;refine J.q hX λ_=>?_;refine J.plan (.of [0,4,8,12,16,21,24,28,32,37,40,44,49,52,56,60,65,68,72,76,80,84,88,92]) [23] [1,2] (by rw[hX.hP];kernel_rfl) (by kernel_rfl) ?_;refine J.q hX λ_=>?_;refine J.valT hX (.int .u8 165) 0 rfl rfl (λhg a w he hC=>?_) rfl ?_
  ·exact load1_run tk rfl rfl he hg rfl rfl (hC rfl _ (cget_mem (i:=2) rfl)) rfl
  refine J.q hX λ_=>?_;refine J.nS (2) (by omega) (by omega) [0,1,2] rfl rfl
 ·refine J.q hX λ_=>?_;refine J.cT ?_;refine J.q hX λ_=>?_;refine J.plan (.of [0,4,8,12,16,21,24,28,32,37,40,44,49,52,56,60,65,68,72,76,80,84,88,92]) [23] [1,2] (by rw[hX.hP];kernel_rfl) (by kernel_rfl) ?_;refine J.q hX λ_=>?_;refine J.valT hX (.int .u8 165) 0 rfl rfl (λhg a w he hC=>?_) rfl ?_
  ·exact load1_run tk rfl rfl he hg rfl rfl (hC rfl _ (cget_mem (i:=2) rfl)) rfl
  refine J.q hX λ_=>?_;refine J.nS (3) (by omega) (by omega) [0,1,2] rfl rfl
 ·refine J.q hX λ_=>?_;refine J.cT ?_;refine J.q hX λ_=>?_;refine J.plan (.of [0,4,8,12,16,21,24,28,32,37,40,44,49,52,56,60,65,68,72,76,80,84,88,92]) [23] [1,2] (by rw[hX.hP];kernel_rfl) (by kernel_rfl) ?_;refine J.q hX λ_=>?_;refine J.valT hX (.int .u8 165) 0 rfl rfl (λhg a w he hC=>?_) rfl ?_
  ·exact load1_run tk rfl rfl he hg rfl rfl (hC rfl _ (cget_mem (i:=2) rfl)) rfl
  refine J.q hX λ_=>?_;refine J.nS (4) (by omega) (by omega) [0,1,2] rfl rfl
 ·refine J.q hX λ_=>?_;refine J.cF ?_;refine J.q hX λ_=>?_;exact J.ru hX [1,2] ⟨rfl,rfl⟩
theorem k_nil:Fn Tryz.prog 260 [.slice none 0 0] [] (λv As=>v= .int .u32 4294967295/\As=[]):=by
 refine Fn.enter [0] Tryz.func260 rfl rfl rfl λX F hX=>?_;refine J.q hX λ_=>?_;refine J.lo (α:=Nat) (λk=>k<=0) (λk=>[⟨8, .int .i64 0,0, .tt⟩,⟨7, .int .i64 0,0, .tt⟩,⟨3, .int .u32 4294967295,0, .tt⟩]) [] (λk=>[]) (λk=>0) (0) (Nat.zero_le _) rfl ?_ (λ_=>rfl) λk hI=>?_
 ·rfl
 refine J.q hX λ_=>?_;refine J.cF ?_;refine J.q hX λ_=>?_;exact J.ru hX [] ⟨rfl,rfl⟩
theorem k_step:Fn Tryz.prog 277 [.int .u32 0, .int .u8 128] [] (λv As=>v= .int .u32 (K.step 0 128:Nat)/\As=[]):=Fn.of_same (koop_Step 0 128 (by decide) (by decide))
theorem z_Zig:Fn Tryz.prog 323 [.int .i64 (-1)] [] (λv As=>v= .int .u64 1/\As=[]):=Fn.of_same zig_1
theorem z_Zag:Fn Tryz.prog 324 [.int .u64 1] [] (λv As=>v= .int .i64 (-1)/\As=[]):=Fn.of_same zag_1
theorem z_Narrow1:Fn Tryz.prog 325 [.int .i64 255, .int .i64 8] [] (λv As=>v= .int .i64 (-1)/\As=[]):=Fn.of_same narrow_1
theorem z_Narrow2:Fn Tryz.prog 325 [.int .i64 1, .int .i64 0] [] (λv As=>v= .int .i64 0/\As=[]):=Fn.of_same narrow_2
theorem z_Turn:Fn Tryz.prog 326 [.int .u32 1, .int .i64 33] [] (λv As=>v= .int .u32 2/\As=[]):=by
 refine Fn.enter [0,0] Tryz.func326 rfl rfl rfl λX F hX=>?_;refine J.q hX λ_=>?_;refine J.plan (.of [0,4,8,12,16,20,24,28,32]) [7,8] [] (by rw[hX.hP];kernel_rfl) (by kernel_rfl) ?_;refine J.q hX λ_=>?_;exact J.ru hX [] ⟨rfl,rfl⟩
theorem l1_begun:Fn Tryz.prog 321 [] [] (λv As=>v= .bool true/\As=[]):=by
 refine Fn.enter [] Tryz.func321 rfl rfl rfl λX F hX=>?_;refine J.q hX λb1=>?_;refine J.cb hX (b_Put1 (b1 0)) [1] ?_;rintro v As ⟨rfl,a,cap,rfl⟩;refine⟨_,rfl,trivial,?_⟩;refine J.q hX λ_=>?_;refine J.cb hX (b_Put2 (b1 0) a cap) [1] ?_;refine cpq ⟨_,rfl,trivial,?_⟩;refine J.q hX λb2=>?_;refine J.cb hX (b_Read (some ⟨b2 0,0,none⟩) 1 1) [] ?_;rintro v As ⟨g,rfl,rfl⟩;refine⟨_,rfl,trivial,?_⟩;refine J.q hX λ_=>?_;refine J.cb hX (b_Get4 g (b2 0)) [4,3] ?_;refine cpq ⟨_,rfl,trivial,?_⟩;refine J.q hX λ_=>?_;refine J.cb hX (b_Get9 g (b2 0)) [4] ?_;refine cpq ⟨_,rfl,trivial,?_⟩;refine J.q hX λ_=>?_;refine J.cb hX (b_Bytes (b1 0) a 1 cap 3 [.int .u8 160] rfl (by decide) (by decide)) [1,2] ?_;rintro v As ⟨a2,c2,rfl,rfl⟩;refine⟨_,rfl,trivial,?_⟩;refine J.know (λh' s=>own_some (c:=(a2,c2)) (by decide) (s.get (i:=5) rfl)) λhg=>?_;obtain⟨g2,rfl⟩:=hg;refine J.q hX λ_=>?_;refine J.cb hX (z_Zig) [] ?_;refine cpq ⟨_,rfl,trivial,?_⟩;refine J.q hX λ_=>?_;refine J.cb hX (z_Zag) [] ?_;refine cpq ⟨_,rfl,trivial,?_⟩;refine J.q hX λ_=>?_;refine J.cb hX (z_Narrow1) [] ?_;refine cpq ⟨_,rfl,trivial,?_⟩;refine J.q hX λ_=>?_;refine J.cb hX (z_Narrow2) [] ?_;refine cpq ⟨_,rfl,trivial,?_⟩;refine J.q hX λ_=>?_;refine J.cb hX (z_Turn) [] ?_;refine cpq ⟨_,rfl,trivial,?_⟩;refine J.q hX λ_=>?_;refine J.cb hX (o_Len (b1 0) a 1 cap 3) [1] ?_;refine cpq ⟨_,rfl,trivial,?_⟩;refine J.q hX λ_=>?_;refine J.val hX (.int .u8 160) 0 rfl rfl (λhg a w he hw=>?_) rfl trivial ?_
 ·exact own1_run tk rfl rfl he hg rfl rfl (hw.get (i:=5) rfl) rfl
 refine J.q hX λ_=>?_;refine J.cb hX (b_Left g (b2 0) 4 (by decide) (by decide)) [4] ?_;refine cpq ⟨_,rfl,trivial,?_⟩;refine J.q hX λ_=>?_;refine J.cb hX (k_nil) [] ?_;refine cpq ⟨_,rfl,trivial,?_⟩;refine J.q hX λ_=>?_;refine J.cb hX (k_step) [] ?_;refine cpq ⟨_,rfl,trivial,?_⟩;refine J.q hX λ_=>?_;refine J.cb hX (l_All 3) [] ?_;refine cpq ⟨_,rfl,trivial,?_⟩;refine J.q hX λ_=>?_;refine J.cb hX (l_At 6 0 (by decide) (by decide)) [] ?_;refine cpq ⟨_,rfl,trivial,?_⟩;refine J.q hX λ_=>?_;refine J.cb hX (l_Spot 6 2) [] ?_;refine cpq ⟨_,rfl,trivial,?_⟩;refine J.q hX λ_=>?_;refine J.cb hX (l_Count 6) [] ?_;refine cpq ⟨_,rfl,trivial,?_⟩;refine J.q hX λ_=>?_;refine J.ru hX [] ?_;exact⟨by kernel_rfl,rfl⟩
theorem l1_Begun:Fn Tryz.prog 317 [] [] (λv As=>v= .bool true/\As=[]):=by
 refine Fn.enter [] Tryz.func317 rfl rfl rfl λX F hX=>?_;refine J.q hX λ_=>?_;refine J.cb hX (l1_begun) [] ?_;refine cpq ⟨_,rfl,trivial,?_⟩;refine J.q hX λ_=>?_;exact J.ru hX [] ⟨rfl,rfl⟩
end Go.Proofs.YtkdlnfdjjifedaaGreat
