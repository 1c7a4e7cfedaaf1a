/- Helpers, proved here. No condition. -/
import Derived.Test.YtdocmcapegcoeaaGreatC05
import Derived.Test.YtdocmcapegcoeaaGreatC06
import Derived.Test.YtdocmcapegcoeaaGreatC12
import Derived.Test.YtdocmcapegcoeaaGreatC14
import Derived.Test.YtdocmcapegcoeaaGreatC15
import Derived.Test.YtdocmcapegcoeaaGreatC16
import Derived.Test.YtdocmcapegcoeaaGreatC19
import Derived.Test.YtdocmcapegcoeaaGreatC20
import Derived.Shelf.Sort.Plain
set_option maxRecDepth 20000
set_option linter.all false
namespace Go.Proofs.YtdocmcapegcoeaaGreat
open Go Go.RowKit
namespace B11
def N0:Nand:=Nand.new 3 8 2
def N1:Nand:=(R.write N0 1 0 7 [B9.e,B9.pad]).1
def N2:Nand:=(N1.fault 4 0 0 0 0 0).2
def fn:Fnd:=⟨B9.e,1,0,0,7,true,true⟩
theorem G0:N0.Gd 100 0:=Nand.Gd.new 3 8 2 rfl 100 (by decide)
theorem G1:N1.Gd 92 0:=write_Gd (by decide) G0
theorem G2:N2.Gd 92 0:=G1.fault0 4 0 0 0 0 0 (by decide)
theorem h_w:(R.write N0 1 0 7 [B9.e,B9.pad]).2=(0,0):=by kernel_rfl
theorem h_l1:(M.look N1 0 1 0).2=1:=by kernel_rfl
theorem h_l2:(M.look N1 0 1 0).1.lpn=3:=by kernel_rfl
theorem h_l3:(M.look N1 0 2 0).2=2:=by kernel_rfl
theorem h_r:R.read N2 1 0 0 7=(B9.e,0):=by kernel_rfl
theorem h_a:R.all N2 1 0=[fn]:=by kernel_rfl
theorem h_m:M.masks N2 1 0=[7]:=by kernel_rfl
end B11
open B11
theorem l11_begun:Fn Tryz.prog 181 [] [] (λv As=>v= .bool true/\As=[]):=by
 refine Fn.enter [] Tryz.func181 rfl rfl rfl λX F hX=>?_;refine J.q hX λb1=>?_;refine J.cb hX (n_New 3 8 2 rfl) [] ?_;rintro v As ⟨q,rfl,rfl⟩;refine⟨_,rfl,trivial,?_⟩;refine J.q hX λ_=>?_;refine J.cF ?_;refine J.q hX λb1=>?_;refine J.ca hX (by kernel_rfl) (r_Write q N0 (.pt (b1 (0+1)) 38 (cellsE [B9.e,B9.pad])) 1 0 7 (some ⟨b1 (0+1),0,none⟩) 2 2 0 [B9.e,B9.pad] (pt_rd _ _ _ _ _ rfl) rfl (by decide) (G0.less (by decide) (Nat.le_refl _))) [1,3] 0 rfl rfl rfl rfl rfl rfl (λ_=>rfl) ?_;refine cpq ⟨_,rfl,trivial,?_⟩;rw[h_w];refine J.q hX λ_=>?_;refine J.cb hX (m_Look q N1 G1.ok G1.room 0 1 0) [1] ?_;refine cpq ⟨_,rfl,trivial,?_⟩;rw[h_l1];refine J.q hX λ_=>?_;refine J.cb hX (m_Look q N1 G1.ok G1.room 0 2 0) [1] ?_;refine cpq ⟨_,rfl,trivial,?_⟩;rw[h_l3];refine J.q hX λ_=>?_;refine J.cb hX (n_Fault q N1 G1.ok 0 4 0 0 0 0 0) [1] ?_;refine cpq ⟨_,rfl,trivial,?_⟩;refine J.q hX λ_=>?_;refine J.cb hX (r_Read q N2 G2.ok G2.room 1 0 0 7 (by decide) (by decide)) [1] ?_;refine cpq ⟨_,rfl,trivial,?_⟩;rw[h_r];refine J.q hX λ_=>?_;refine J.cb hX (r_All q N2 G2.ok G2.room 1 0) [1] ?_;rintro v As ⟨a,c,rfl,rfl⟩;refine⟨_,rfl,trivial,?_⟩;rw[h_a];refine J.know (λh' s=>own_some (c:=(a,c)) (by decide) (s.get (i:=7) rfl)) λhg=>?_;obtain⟨ga,rfl⟩:=hg;refine J.q hX λ_=>?_;refine J.cb hX (l7_Begun) [] ?_;refine cpq ⟨_,rfl,trivial,?_⟩;refine J.q hX λ_=>?_;refine J.cb hX (l9_Begun) [] ?_;refine cpq ⟨_,rfl,trivial,?_⟩;refine J.q hX λ_=>?_;rw[h_l2];refine J.val hX (.bool true) 0 rfl rfl (λhg x w he hw=>(eqAgg_run (xs:=enL B9.e) (ys:=enL B9.e) rfl rfl rfl he hg rfl leavesEn (fitsEn _) (fitsEn _) mkEn gdEn).trans (by rw[(eqEn _ _ rfl rfl).2 rfl])) rfl trivial ?_;refine J.q hX λ_=>?_;refine J.val hX (.bool true) 0 rfl rfl (λhg x w he hw=>own1_run tk rfl rfl he hg rfl rfl (hw.get (i:=7) rfl) rfl) rfl trivial ?_;refine J.q hX λ_=>?_;refine J.val hX (.bool true) 0 rfl rfl (λhg x w he hw=>own1_run tk rfl rfl he hg rfl rfl (hw.get (i:=7) rfl) rfl) rfl trivial ?_;refine J.q hX λ_=>?_;refine J.val hX (.int .i64 7) 0 rfl rfl (λhg x w he hw=>own1_run tk rfl rfl he hg rfl rfl (hw.get (i:=7) rfl) rfl) rfl trivial ?_;refine J.q hX λ_=>?_;refine J.cb hX (m_Masks q N2 G2.ok G2.room 1 0) [1] ?_;rintro v As ⟨a2,c2,rfl,rfl⟩;refine⟨_,rfl,trivial,?_⟩;rw[h_m];refine J.q hX λ_=>?_;exact J.ru hX [] ⟨rfl,rfl⟩
end Go.Proofs.YtdocmcapegcoeaaGreat
namespace Go.Proofs.YtdocmcapegcoeaaGreat
open Go Go.RowKit
theorem tm_bd (a:Int) (n:Int) (hn:0<n): -n<a.tmod n/\a.tmod n<n:=by
 refine⟨?_,Int.tmod_lt_of_pos a hn⟩;obtain⟨k,rfl | rfl⟩:=Int.eq_nat_or_neg a
 ·have:=Int.tmod_nonneg (a:=(k:Int)) n (by omega);omega
 ·rw[Int.neg_tmod];have:=Int.tmod_lt_of_pos (k:Int) hn;omega
theorem tm_2 (a:Int) (n:Int) (hn:0<n):0<=(a.tmod n+n).tmod n/\(a.tmod n+n).tmod n<n:=by
 have:=tm_bd a n hn;exact⟨Int.tmod_nonneg _ (by omega),Int.tmod_lt_of_pos _ hn⟩
theorem l6_Geo (a b c:Int):Fn Tryz.prog 16 [.int .i64 a, .int .i64 b, .int .i64 c] [] (λv As=>∃D B P:Nat,v= .agg #[.int .i64 D, .int .i64 B, .int .i64 P]/\(3<=D/\D<=6)/\(8<=B/\B<=16)/\(2<=P/\P<=8)/\As=[]):=by
 have a1:=tm_bd a 4 (by decide);have a2:=tm_2 a 4 (by decide);have b1:=tm_bd b 9 (by decide);have b2:=tm_2 b 9 (by decide);have c1:=tm_bd c 7 (by decide);have c2:=tm_2 c 7 (by decide);refine Fn.enter [0,0,0] Tryz.func16 rfl rfl rfl λX F hX=>?_;refine J.q hX λb1=>?_;refine J.ru hX [] ?_;obtain⟨D,hD⟩:=Int.eq_ofNat_of_zero_le a2.1;obtain⟨B,hB⟩:=Int.eq_ofNat_of_zero_le b2.1;obtain⟨P,hP⟩:=Int.eq_ofNat_of_zero_le c2.1;refine⟨3+D,8+B,2+P,?_,by omega,by omega,by omega,rfl⟩;rw[hD,hB,hP,Int.natCast_add,Int.natCast_add,Int.natCast_add];rfl
theorem cellsF_cell:∀{l:List Fnd} {k:Nat} {x:Fnd},l[k]? =some x->∀j,j<25->(cellsF l)[k*25+j]? =(fnL x)[j]?:=by
 intro l k x h j hj;have h1:=cellsF_get h;rw[<- h1,List.getElem?_take,if_pos hj,List.getElem?_drop]
theorem cellsF_en {l:List Fnd} {k:Nat} {x:Fnd} (h:l[k]? =some x):((cellsF l).drop (k*25)).take 19=enL x.en:=by
 have h1:=congrArg (List.take 19) (cellsF_get h);rw[List.take_take]at h1;exact h1
namespace B13
def e1:En:={En.zero with lpn:=4,seq:=7,role:=1}
def e2:En:={En.zero with lpn:=4,seq:=6,role:=1}
def e3:En:={En.zero with lpn:=10,seq:=9,role:=1}
def T0:Tb:=⟨10,[],[],1⟩
def T1:Tb:=⟨10,[(4,⟨2,1,0,7,7,1⟩)],[(2,1)],8⟩
def t0:Tl:=Tl.new 3 8 2
def t1:Tl:=⟨3,8,2,⟨3,0,false,false⟩::List.replicate 7 Sb.zero,0⟩
def t2:Tl:=⟨3,8,2,[⟨3,0,false,false⟩,Sb.zero,⟨0,2,false,false⟩,Sb.zero,Sb.zero,Sb.zero,Sb.zero,Sb.zero],0⟩
theorem h0:Tb.new 10=T0:=by kernel_rfl
theorem h1:Tb.put T0 e1 2 1 0 7=T1:=by kernel_rfl
theorem h2:Tb.put T1 e2 0 0 0 7=T1:=by kernel_rfl
theorem h3:Tb.put T1 e3 0 0 0 7=T1:=by kernel_rfl
theorem p1:Tb.putB T0 e1=true:=by kernel_rfl
theorem p2:Tb.putB T1 e2=false:=by kernel_rfl
theorem p3:Tb.putB T1 e3=false:=by kernel_rfl
theorem w1:t0.wore 0 3=t1:=by kernel_rfl
theorem w2:t1.bad 1 2=t2:=by kernel_rfl
theorem c0 (k:Int):0<=T0.count k/\T0.count k<=1000000:=by
 have:T0.count k=0:=rfl;rw[this];omega
theorem c1 (k:Int):0<=T1.count k/\T1.count k<=1000000:=by
 have:T1.count k=(if k=2 then some (1:Int)else none).getD 0:=rfl;rw[this];split<;>simp
theorem o1:pkLeast (λx y=>cmpI (t2.wear x) (t2.wear y)) (pkSome (pkFree t2 T1) (-1) t2.b)=1:=by kernel_rfl
theorem o2:pkLeast (λx y=>orI [cmpI (T1.count x) (T1.count y),cmpI (t2.wear x) (t2.wear y)]) (pkSome (pkUsed t2 T1) (-1) t2.b)=2:=by kernel_rfl
theorem o3:(pkSome (pkFree t2 T1) (-1) t2.b).length=7:=by kernel_rfl
theorem o4:pkSome (pkSpent t2 T1) (-1) t2.b=[]:=by kernel_rfl
theorem o5:pkSome (pkHurt t2 T1) (-1) t2.b=[2]:=by kernel_rfl
theorem o6:T1.ins 2=[4]:=by kernel_rfl
theorem o7:t2.mask 2=5:=by kernel_rfl
theorem o8:t2.usable 2=true:=by kernel_rfl
theorem o9:t2.alive=7:=by kernel_rfl
theorem o10:t2.wear 0=3:=by kernel_rfl
theorem o11:t2.blank 3=true:=by kernel_rfl
theorem o12:T1.count 2=1:=by kernel_rfl
end B13
theorem l13_begun:Fn Tryz.prog 182 [] [] (λv As=>v= .bool true/\As=[]):=by
 refine Fn.enter [] Tryz.func182 rfl rfl rfl λX F hX=>?_;refine J.q hX λ_=>?_;refine J.cb hX (tb_New 10) [] ?_;rintro v As ⟨r,rfl,rfl⟩;refine⟨_,rfl,trivial,?_⟩;rw[B13.h0];refine J.q hX λ_=>?_;refine J.cb hX (tl_New 3 8 2 rfl) [] ?_;rintro v As ⟨q,rfl,rfl⟩;refine⟨_,rfl,trivial,?_⟩;rw[show Tl.new 3 8 2=B13.t0 from rfl];refine J.q hX λ_=>?_;refine J.cb hX (tl_NewZ) [] ?_;refine cpq ⟨_,rfl,trivial,?_⟩;refine J.q hX λ_=>?_;refine J.cF ?_;refine J.q hX λ_=>?_;refine J.cb hX (tb_Put r B13.T0 B13.e1 2 1 0 7 (by decide) B13.c0) [1] ?_;refine cpq ⟨_,rfl,trivial,?_⟩;rw[B13.h1,B13.p1];refine J.q hX λ_=>?_;refine J.cb hX (tb_Put r B13.T1 B13.e2 0 0 0 7 (by decide) B13.c1) [1] ?_;refine cpq ⟨_,rfl,trivial,?_⟩;rw[B13.h2,B13.p2];refine J.q hX λ_=>?_;refine J.cb hX (tb_Put r B13.T1 B13.e3 0 0 0 7 (by decide) B13.c1) [1] ?_;refine cpq ⟨_,rfl,trivial,?_⟩;rw[B13.h3,B13.p3];refine J.q hX λ_=>?_;refine J.cb hX (tb_Get r B13.T1 4) [1] ?_;refine cpq ⟨_,rfl,trivial,?_⟩;rw[show Tb.look B13.T1.at_ 4=some ⟨2,1,0,7,7,1⟩from rfl,Option.getD_some,Option.isSome_some];refine J.q hX λ_=>?_;refine J.cb hX (tl_Wore q B13.t0 (by decide) rfl 0 3) [2] ?_;refine cpq ⟨_,rfl,trivial,?_⟩;rw[B13.w1];refine J.q hX λ_=>?_;refine J.cb hX (tl_Bad q B13.t1 (by decide) rfl 1 2) [2] ?_;refine cpq ⟨_,rfl,trivial,?_⟩;rw[B13.w2];refine J.q hX λ_=>?_;refine J.cb hX (l7_Begun) [] ?_;refine cpq ⟨_,rfl,trivial,?_⟩;refine J.q hX λ_=>?_;refine J.cb hX (l9_Begun) [] ?_;refine cpq ⟨_,rfl,trivial,?_⟩;refine J.q hX λ_=>?_;refine J.cb hX (tb_Len r B13.T1) [1] ?_;refine cpq ⟨_,rfl,trivial,?_⟩;refine J.q hX λ_=>?_;refine J.cb hX (tb_Count r B13.T1 2) [1] ?_;refine cpq ⟨_,rfl,trivial,?_⟩;rw[B13.o12];refine J.q hX λ_=>?_;refine J.cb hX (tb_In r B13.T1 10 rfl (by decide) 2) [1] ?_;rintro v As ⟨a1,c1,rfl,rfl⟩;refine⟨_,rfl,trivial,?_⟩;rw[B13.o6];refine J.q hX λ_=>?_;refine J.cb hX (tb_Next r B13.T1) [1] ?_;refine cpq ⟨_,rfl,trivial,?_⟩;refine J.q hX λ_=>?_;refine J.cb hX (tl_Wear q B13.t2 (by decide) rfl 0) [2] ?_;refine cpq ⟨_,rfl,trivial,?_⟩;rw[B13.o10];refine J.q hX λ_=>?_;refine J.cb hX (tl_Mask q B13.t2 (by decide) rfl 2) [2] ?_;refine cpq ⟨_,rfl,trivial,?_⟩;rw[B13.o7];refine J.q hX λ_=>?_;refine J.cb hX (tl_Usable q B13.t2 (by decide) rfl 2) [2] ?_;refine cpq ⟨_,rfl,trivial,?_⟩;rw[B13.o8];refine J.q hX λ_=>?_;refine J.cb hX (tl_Alive q B13.t2) [2] ?_;refine cpq ⟨_,rfl,trivial,?_⟩;rw[B13.o9];refine J.q hX λ_=>?_;refine J.cb hX (p_Open q B13.t2 (by decide) rfl r B13.T1 (-1)) [2,1] ?_;refine cpq ⟨_,rfl,trivial,?_⟩;rw[B13.o1];refine J.q hX λ_=>?_;refine J.cb hX (p_Victim q B13.t2 (by decide) rfl r B13.T1 (-1)) [2,1] ?_;refine cpq ⟨_,rfl,trivial,?_⟩;rw[B13.o2];refine J.q hX λ_=>?_;refine J.cb hX (p_Free q B13.t2 (by decide) rfl r B13.T1 (-1)) [2,1] ?_;refine cpq ⟨_,rfl,trivial,?_⟩;rw[B13.o3];refine J.q hX λ_=>?_;refine J.cb hX (p_Spent q B13.t2 (by decide) rfl r B13.T1 (-1)) [2,1] ?_;rintro v As ⟨a2,c2,rfl,rfl⟩;refine⟨_,rfl,trivial,?_⟩;rw[B13.o4];refine J.q hX λ_=>?_;refine J.cb hX (p_Hurt q B13.t2 (by decide) rfl r B13.T1 10 rfl (by decide)) [2,1] ?_;rintro v As ⟨a3,c3,rfl,rfl⟩;refine⟨_,rfl,trivial,?_⟩;rw[B13.o5];refine J.q hX λ_=>?_;refine J.cb hX (tl_Blank q B13.t2 (by decide) rfl 3) [2] ?_;refine cpq ⟨_,rfl,trivial,?_⟩;rw[B13.o11];refine J.q hX λ_=>?_;exact J.ru hX [] ⟨rfl,rfl⟩
theorem l13_Begun:Fn Tryz.prog 140 [] [] (λv As=>v= .bool true/\As=[]):=by
 refine Fn.enter [] Tryz.func140 rfl rfl rfl λX F hX=>?_;refine J.q hX λ_=>?_;refine J.cb hX (l13_begun) [] ?_;refine cpq ⟨_,rfl,trivial,?_⟩;refine J.q hX λ_=>?_;exact J.ru hX [] ⟨rfl,rfl⟩
end Go.Proofs.YtdocmcapegcoeaaGreat
namespace Go.Proofs.YtdocmcapegcoeaaGreat
open Go
def EnBd (e:En):Prop:=(0<=e.lpn/\e.lpn<=65535)/\(0<=e.seq/\e.seq<=1099511627775)
theorem may_en {s:Sh} (h:S.may s=true):EnBd s.en:=by
 simp only[S.may,S.numbers,S.inB,Bool.and_eq_true,decide_eq_true_eq]at h;exact⟨h.1.2.1.2,h.1.2.1.1⟩
theorem get_may {p:List UInt8} {s:Sh} (h:S.get p=some s):S.may s=true:=by
 unfold S.get at h;split at h
 ·rename_i hh;injection h with h;subst h;exact hh.1
 ·cases h
theorem look_may {N:Nand} {x y z:Int} (h:(M.look N x y z).2=1):S.may (M.look N x y z).1=true:=by
 unfold M.look at h ⊢;dsimp only at h ⊢;split
 ·rename_i h0;rw[if_pos h0]at h;split
  ·rename_i h1;rw[if_pos h1]at h;simp at h
  ·rename_i h1;simp only[not_or]at h1;have hg:S.getE (N.readV x y z)=0:=by simpa using h1.1
   unfold S.getE at hg;cases hs:S.get (N.readV x y z)with
   | none=>rw[hs]at hg;simp at hg
   | some s=>simp only[S.getV,hs,Option.getD_some];exact get_may hs
 ·rename_i h0;rw[if_neg h0]at h;split at h
  ·simp at h
  ·split at h<;>simp at h
theorem ok_en {b r m:Int} {e:En} (h:W.ok b r m e=true):EnBd e:=may_en (s:=W.sh b r m e) h
theorem fnd_bd {N:Nand} {b r:Int} {f:Fnd} (h:f∈R.all N b r):f.block=b/\f.row=r/\EnBd f.en:=by
 unfold R.all at h;rw[List.mem_flatMap]at h;obtain⟨m,_,h⟩:=h;unfold R.allM at h;rw[List.mem_filterMap]at h;obtain⟨k,hk,h⟩:=h;rw[List.mem_range]at hk;unfold R.fnd at h;split at h
 ·rename_i hc;injection h with h;subst h;refine⟨rfl,rfl,?_⟩;simp only[Bool.and_eq_true]at hc;obtain⟨h1,_⟩:=hc;dsimp only;unfold R.enAt;unfold R.okAt at h1;split
  ·rename_i hg;have hlen:k<(R.ones N b r m (G.slots m).toNat).length:=by simpa[R.look]using hk
   have e1:(R.look N b r m).good.getD k false=((R.ones N b r m (G.slots m).toNat)[k]).2:=by simp[R.look,hlen]
   have e2:(R.look N b r m).slots.getD k Sh.zero=((R.ones N b r m (G.slots m).toNat)[k]).1:=by simp[R.look,hlen]
   rw[e1]at hg;rw[e2];simp only[R.ones,List.getElem_map,R.one,Bool.and_eq_true,beq_iff_eq]at hg ⊢;exact may_en (look_may hg.1)
  ·rename_i hg;rw[Bool.not_eq_true]at hg;rw[hg,Bool.false_or]at h1;unfold R.mendB at h1;simp only[Bool.and_eq_true]at h1;have hb:=h1.2;unfold R.mend;rw[if_pos (by rw[Bool.and_eq_true];exact h1.1),W.back,if_pos hb];unfold W.backB at hb;simp only[Bool.and_eq_true]at hb;exact ok_en hb.2
 ·cases h
theorem all_len (N:Nand) (hN:N.Ok):(V.all N).length<=6000:=by
 have hbd:=hN.bd;have h0:∀b r,(R.all N b r).length<=42:=λb r=>by
  have:=outI_len N b r (M.masks N b r).length (by omega);unfold outI at this
  rwa [List.take_length]at this
 have h1:∀(l:List Nat) (b:Int),(l.flatMap λr=>R.all N b (r:Nat)).length<=42*l.length:=by
  intro l b
  induction l with
  | nil=>simp
  | cons x l ih=>rw[List.flatMap_cons,List.length_append,List.length_cons];have:=h0 b x;omega
 have h2:∀l:List Nat,(l.flatMap λb=>(List.range N.pages).flatMap λr=>R.all N (b:Nat) (r:Nat)).length<=336*l.length:=by
  intro l
  induction l with
  | nil=>simp
  | cons x l ih=>
   rw[List.flatMap_cons,List.length_append,List.length_cons];have:=h1 (List.range N.pages) x;rw[List.length_range]at this;omega
 have:=h2 (List.range N.blocks);rw[List.length_range]at this;unfold V.all;omega
theorem all_bd {N:Nand} {f:Fnd} (h:f∈V.all N):(∃r:Nat,f.row=(r:Int)/\r<N.pages)/\EnBd f.en:=by
 unfold V.all at h;rw[List.mem_flatMap]at h;obtain⟨b,_,h⟩:=h;rw[List.mem_flatMap]at h;obtain⟨r,hr,h⟩:=h;have:=fnd_bd h;exact⟨⟨r,this.2.1,List.mem_range.1 hr⟩,this.2.2⟩
end Go.Proofs.YtdocmcapegcoeaaGreat
namespace Go.Proofs.YtdocmcapegcoeaaGreat
open Go Go.RowKit
abbrev fdV (x:Fnd):Value:= .agg (fnL x).toArray
def Fnd.zero:Fnd:=⟨En.zero,0,0,0,0,false,false⟩
theorem v_behind (a b:Fnd):Fn Tryz.prog 224 [fdV a,fdV b] [] (λv As=>v= .bool (V.behind a b)/\As=[]):=by
 refine Fn.enter [0,0] Tryz.func224 rfl rfl rfl λX F hX=>?_;refine J.q hX λ_=>?_;refine J.cond rfl (λh1=>?_) (λh1=>?_)
 ·refine J.q hX λ_=>?_;refine J.ru hX [] ?_;simp only[bne_iff_ne,ne_eq]at h1;exact⟨by rw[V.behind,if_pos h1],rfl⟩
 ·simp only[bne_eq_false_iff_eq]at h1;refine J.run hX tk 400 (λb3=>rfl) (λb3=>?_) (λb3=>?_)
  ·(repeat' (first | exact Conj.nil | refine Conj.cons ?_ ?_ | exact rfl | exact hq | (rw[hq];rfl) | (rw[(Bool.not_eq_true' _).mp hq]) | intro hq | omega | (simp;done) | (simp_all;done)))
  refine J.q hX λ_=>?_;refine J.ru hX [] ?_;exact⟨by rw[V.behind,if_neg (by simp[h1])],rfl⟩
theorem tops_succ {l:List Fnd} {k:Nat} {x:Fnd} (h:l[k]? =some x):V.tops (l.take (k+1))=V.topsStep (V.tops (l.take k)) x:=by
 unfold V.tops;rw[List.take_add_one,h,Option.toList_some,List.foldl_append];rfl
theorem topsStep_len (o:List Fnd) (x:Fnd):(V.topsStep o x).length<=o.length+1:=by
 cases o with
 | nil=>simp[V.topsStep]
 | cons h t=>
  simp only[V.topsStep];split
  ·simp
  ·split<;>simp
theorem tops_len (l:List Fnd):(V.tops l).length<=l.length:=by
 have:∀k,k<=l.length->(V.tops (l.take k)).length<=k:=by
  intro k
  induction k with
  | zero=>intro _;simp[V.tops]
  | succ k ih=>
   intro hk;rw[tops_succ (List.getElem?_eq_getElem (by omega))];have:=topsStep_len (V.tops (l.take k)) l[k];have:=ih (by omega);omega
 have:=this l.length (Nat.le_refl _)
 rwa [List.take_length]at this
theorem v_tops (a:Option Nat) (n cap:Nat) (l:List Fnd) (hl:l.length=n) (hn:n<=100000):Fn Tryz.prog 203 [slv a n cap] [ownA 142 25 a n cap (cellsF l)]
  (λv As=>∃a' c',v=slv a' (V.tops l).length c'/\As=[ownA 142 25 a n cap (cellsF l),ownA 142 25 a' (V.tops l).length c' (cellsF (V.tops l))]):=by
 refine Fn.enter [0] Tryz.func203 rfl rfl rfl λX F hX=>?_;refine J.turn1 [] rfl (As:=[ownA 142 25 none 0 0 (cellsF [])]) (λh s=>Sep.one ⟨rfl,rfl,rfl⟩) rfl ?_;refine J.q hX λ_=>?_;refine J.lo (α:=(Nat×Option Nat×Nat×List Fnd)) (λz=>z.1<=n/\V.tops (l.take z.1)=z.2.2.2) (λz=>[⟨8, .int .i64 z.1,0, .tt⟩,⟨7, .int .i64 n,0, .tt⟩,⟨6,slv a n cap,0, .tt⟩,⟨3,slv z.2.1 z.2.2.2.length z.2.2.1,0, .tt⟩]) [2] (λz=>[ownA 142 25 z.2.1 z.2.2.2.length z.2.2.1 (cellsF z.2.2.2)]) (λz=>n-z.1) ((0,none,0,[])) (⟨Nat.zero_le _,rfl⟩) rfl ?_ (λ_=>rfl) λz hI=>?_
 ·rfl
 obtain⟨k,a1,c1,out⟩:=z;dsimp only at hI ⊢;obtain⟨hI,hto⟩:=hI;refine J.q hX λ_=>?_;refine J.cond rfl (λh1=>?_) (λh1=>?_)
 ·simp only[decide_eq_true_eq,Int.ofNat_lt]at h1;cases a with
  | none=>
   refine J.know (λh' s=>(s.get (i:=1) rfl).2.1) λhn0=>?_;omega
  | some g=>
  obtain⟨x,hx⟩:∃x,l[k]? =some x:=⟨_,List.getElem?_eq_getElem (by omega)⟩;have hts:=tops_succ hx;have hlen:=tops_len (l.take k);rw[List.length_take,hto]at hlen;rw[hto]at hts;refine J.q hX λ_=>?_;refine J.val hX (fdV x) 0 rfl rfl (λhg a w he hs=>?_) rfl trivial ?_
  ·exact ownN_run tk rfl rfl he rfl rfl rfl (hs.get (i:=1) rfl) (by rw[show 0+(k:Int).toNat*25=k*25 from by omega];exact cellsF_get hx) rfl
  rcases out with _ | ⟨y,o⟩
  ·skip
   refine J.q hX λ_=>?_;refine J.plan (.of [0,4,8,12,16,20,25,29,34,36,40]) [] [1,2,3] (by rw[hX.hP];kernel_rfl) (by kernel_rfl) ?_;refine J.qn hX 5 λ_=>?_;refine J.valT hX (.pointer (some ⟨g,0,none⟩)) 0 rfl rfl (λhg a w he hC=>absurd hg (by simp[G.on])) rfl ?_;refine J.q hX λ_=>?_;refine J.valT hX (fdV x) 0 rfl rfl (λhg a w he hC=>absurd hg (by simp[G.on])) rfl ?_;refine J.q hX λ_=>?_;refine J.val hX (.bool true) 0 rfl rfl (λhg a w he hC=>absurd hg (by simp[G.on])) rfl (by first | exact trivial | (repeat' (first | exact trivial | refine⟨rfl,?_⟩))) ?_;refine J.q hX λ_=>?_;refine J.cT ?_;refine J.q hX λbs=>?_;refine J.closeOwn (e:=142) (size:=25) (n:=1) (cap:=1) (xs:=cellsF [x]) 4 rfl rfl rfl (Nat.le_refl _) (by decide) rfl rfl rfl ?_;have hs:V.tops (l.take (k+1))=[x]:=by rw[hts];rfl
   refine J.slot (k:=3) (s':=⟨3,slv (some (bs 0)) [x].length 1,0, .tt⟩) rfl rfl rfl ?_;refine J.q hX λ_=>?_;refine J.nS ((k+1,some (bs 0),1,[x])) (⟨by dsimp only;omega,hs⟩) (by dsimp only;omega) [0,1,4] rfl rfl
  ·refine J.know (λh' s=>own_some (c:=(a1,c1)) (by simp) (s.get (i:=2) rfl)) λhg=>?_;obtain⟨ga,rfl⟩:=hg;refine J.q hX λ_=>?_;refine J.plan (.of [0,4,8,12,16,20,25,29,34,36,40]) [] [1,2,3] (by rw[hX.hP];kernel_rfl) (by kernel_rfl) ?_;refine J.q hX λ_=>?_;refine J.valT hX (fdV y) 0 rfl rfl (λhg a w he hC=>?_) rfl ?_
   ·exact ownN_run tk rfl rfl he hg rfl rfl (hC rfl _ (cget_mem (i:=2) rfl)) rfl rfl
   have hnz:(((y::o).length:Int)==0)=false:=by rw[beq_eq_false_iff_ne,List.length_cons];omega
   rw[hnz];refine J.q hX λ_=>?_;refine J.cb hX (v_behind y x) [] ?_;refine cpq ⟨_,rfl,(by first | exact trivial | (repeat' (first | exact trivial | refine⟨rfl,?_⟩))),?_⟩;refine J.q hX λ_=>?_;refine J.cond rfl (λh2=>?_) (λh2=>?_)
   ·refine J.q hX λbs=>?_;refine J.closeOwn (e:=142) (size:=25) (n:=1) (cap:=1) (xs:=cellsF [x]) 4 rfl rfl rfl (Nat.le_refl _) (by decide) rfl rfl rfl ?_;have hs:V.tops (l.take (k+1))=[x]:=by rw[hts];rw[V.topsStep,if_pos (by simpa using h2)]
    refine J.slot (k:=3) (s':=⟨3,slv (some (bs 0)) [x].length 1,0, .tt⟩) rfl rfl rfl ?_;refine J.q hX λ_=>?_;refine J.nS ((k+1,some (bs 0),1,[x])) (⟨by dsimp only;omega,hs⟩) (by dsimp only;omega) [0,1,4] rfl rfl
   ·refine J.q hX λ_=>?_;refine J.plan (.of [1,4,8,13,19,20,24]) [4,5,6] [1,2,3] (by rw[hX.hP];kernel_rfl) (by kernel_rfl) ?_;refine J.q hX λ_=>?_;refine J.valT hX (fdV y) 0 rfl rfl (λhg a w he hC=>?_) rfl ?_
    ·exact ownN_run tk rfl rfl he hg rfl rfl (hC rfl _ (cget_mem (i:=2) rfl)) rfl rfl
    refine J.q hX λ_=>?_;refine J.cb hX (v_behind x y) [] ?_;refine cpq ⟨_,rfl,(by first | exact trivial | (repeat' (first | exact trivial | refine⟨rfl,?_⟩))),?_⟩;refine J.q hX λ_=>?_;refine J.cond rfl (λh3=>?_) (λh3=>?_)
    ·refine J.q hX λ_=>?_;have hs:V.tops (l.take (k+1))=y::o++[x]:=by rw[hts,V.topsStep,if_neg (by simpa using h2),if_neg (by simpa using h3)]
     refine J.append hX tk 2 4 0 rfl rfl rfl rfl rfl rfl rfl rfl rfl rfl rfl rfl rfl rfl rfl rfl ?_ ?_ (λ_=>rfl) λa3 c3=>⟨_,(congrArg (λz=>lset _ 2 (ownA _ _ _ _ _ z)) (cellsF_snoc (y::o) x).symm).trans rfl,trivial,?_⟩
     ·simp only[maxLen];omega
     ·omega
     rw[show(y::o).length+1=(y::o++[x]).length from by simp];refine J.q hX λ_=>?_;refine J.nS ((k+1,a3,c3,y::o++[x])) (⟨by dsimp only;omega,hs⟩) (by dsimp only;omega) [0,1,2] rfl rfl
    ·have hs:V.tops (l.take (k+1))=y::o:=by rw[hts,V.topsStep,if_neg (by simpa using h2),if_pos (by simpa using h3)]
     refine J.q hX λ_=>?_;refine J.nS ((k+1,some ga,c1,y::o)) (⟨by dsimp only;omega,hs⟩) (by dsimp only;omega) [0,1,2] rfl rfl
 ·simp only[decide_eq_false_iff_not,Int.ofNat_lt]at h1;obtain rfl:k=n:=by omega
  rw[List.take_of_length_le (by omega)]at hto;subst hto;refine J.q hX λ_=>?_;refine J.ru hX [1,2] ?_;exact⟨a1,c1,rfl,rfl⟩
def v_lastP (x:Int):Bool:=x !=2&&x !=4
theorem v_last1 (A:Atom) (x:Int):Fn Tryz.prog 205 [.int .i64 x] [A] (λv As=>v= .bool (v_lastP x)/\As=[A]):=by
 refine Fn.enter [0] Tryz.func205 rfl rfl rfl λX F hX=>?_;refine J.q hX λ_=>?_;exact J.ru hX [1] ⟨rfl,rfl⟩
theorem blankRow_any (N:Nand) (b r:Int):V.blankRow N b r= !(((M.rowN N b r N.dies).map (·.2)).any v_lastP):=by
 unfold V.blankRow;rw[List.any_map,List.not_any_eq_all_not];congr 1;funext x;show(x.2==2||x.2==4)= !(!(x.2==2)&& !(x.2==4));cases(x.2==2)<;>cases(x.2==4)<;>rfl
def V.upto (N:Nand) (f:Fnd) (k:Nat):Bool:=(List.range k).all λr:Nat=>decide ((r:Int)<=f.row)||V.blankRow N f.block r
theorem V.upto_succ (N:Nand) (f:Fnd) (k:Nat):V.upto N f (k+1)=(V.upto N f k&&(decide ((k:Int)<=f.row)||V.blankRow N f.block k)):=by
 unfold V.upto;rw[List.range_succ,List.all_append];simp
theorem V.upto_le (N:Nand) (f:Fnd) (k r0:Nat) (hr:f.row=(r0:Int)) (h:k<=r0+1):V.upto N f k=true:=by
 unfold V.upto;rw[List.all_eq_true];intro r hr2;rw[List.mem_range]at hr2;rw[decide_eq_true (by omega)];rfl
theorem v_last (p:Nat) (N:Nand) (hN:N.Ok) (hR:N.Room) (sp:Nat) (H:Value) (f:Fnd) (r0:Nat) (hr:f.row=(r0:Int)) (hr2:r0<=1000):Fn Tryz.prog 172 [.pointer (some ⟨sp,0,none⟩),fdV f] [NandA p N, .pt sp 220 [.pointer (some ⟨p,0,none⟩),H]]
  (λv As=>v= .bool (V.last N f)/\As=[NandA p N, .pt sp 220 [.pointer (some ⟨p,0,none⟩),H]]):=by
 have hbd:=hN.bd;refine Fn.enter [3,0] Tryz.func172 rfl rfl rfl λX F hX=>?_;refine J.q hX λbb=>?_;rw[hr];refine J.q hX λ_=>?_;refine J.lo (α:=Nat) (λk=>r0+1<=k/\V.upto N f k=true/\(k=r0+1\/k<=N.pages)) (λk=>[⟨5, .int .i64 k,0, .tt⟩,⟨0, .pointer (some ⟨sp,0,none⟩),3, .tt⟩,⟨3, .pointer (some ⟨bb 0,0,none⟩),4, .tt⟩]) [] (λk=>[]) (λk=>N.pages-k) (r0+1) (⟨Nat.le_refl _,V.upto_le N f _ r0 hr (Nat.le_refl _), .inl rfl⟩) rfl ?_ (λ_=>rfl) λk hI=>?_
 ·rfl
 refine J.q hX λ_=>?_;refine J.cb hX (n_Geo p N) [1] ?_;refine cpq ⟨_,rfl,trivial,?_⟩;refine J.q hX λ_=>?_;refine J.cond rfl (λh1=>?_) (λh1=>?_)
 ·simp only[decide_eq_true_eq,Int.ofNat_lt]at h1;refine J.q hX λ_=>?_;refine J.plan (.of [0,4,8,13,16,20,25,28,34,36,40,44,48,52]) [13] [1,2,3] (by rw[hX.hP];kernel_rfl) (by kernel_rfl) ?_;refine J.q hX λ_=>?_;refine J.cb hX (m_Row p N hN hR f.block k) [1] ?_;rintro v As ⟨a1,c1,a2,c2,rfl,rfl⟩;refine⟨_,rfl,(by first | exact trivial | (repeat' (first | exact trivial | refine⟨rfl,?_⟩))),?_⟩;refine J.q hX λ_=>?_;refine J.ca hX (by kernel_rfl) (x_ContainsI 205 [] v_lastP (NandA p N) (by kernel_rfl) ((M.rowN N f.block k N.dies).map (·.2)) (λx _=>v_last1 (NandA p N) x) a2 N.dies c2 (by simp[M.rowN]) (by omega)) [5,1] 0 rfl rfl rfl rfl rfl rfl (λ_=>rfl) ?_;refine cpq ⟨_,rfl,trivial,?_⟩;have hbl:=blankRow_any N f.block k;have hk:=V.upto_succ N f k;have hlt:decide ((k:Int)<=f.row)=false:=by rw[decide_eq_false_iff_not];omega
  rw[hI.2.1,hlt]at hk;refine J.q hX λ_=>?_;refine J.cond rfl (λh2=>?_) (λh2=>?_)
  ·rw[h2]at hbl;refine J.q hX λ_=>?_;refine J.ru hX [1,2] ?_;refine⟨?_,rfl⟩;have:V.last N f=false:=by
    unfold V.last;rw[Bool.and_eq_false_iff];left;rw[List.all_eq_false];exact⟨k,List.mem_range.2 h1,by rw[hlt,hbl];simp⟩
   rw[this]
  ·rw[h2]at hbl;rw[hbl]at hk;refine J.q hX λ_=>?_;refine J.nS (k+1) (⟨by omega,hk,by omega⟩) (by omega) [0,1,2,3] rfl rfl
 ·simp only[decide_eq_false_iff_not,Int.ofNat_lt]at h1;have hup:V.upto N f N.pages=true:=by
   rcases hI.2.2 with h | h
   ·exact V.upto_le N f _ r0 hr (by omega)
   ·rw[show N.pages=k by omega];exact hI.2.1
  refine J.q hX λ_=>?_;refine J.cb hX (g_Parity f.mask f.block f.row) [] ?_;refine cpq ⟨_,rfl,trivial,?_⟩;have hv:V.last N f=((M.look N (G.parity f.mask f.block f.row) f.block f.row).2 !=4):=by
   unfold V.last;have:((List.range N.pages).all λr:Nat=>decide ((r:Int)<=f.row)||V.blankRow N f.block r)=true:=hup;rw[this,Bool.true_and]
  refine J.q hX λ_=>?_;refine J.plan (.take true 0 (.take true 1 (.take true 2 (.take false 3 (.take true 4 (.take true 5 (.take true 6 (.take false 7 (.take true 8 (.take true 9 (.take false 10 (.take true 11 (.alt false 12 ((.of [52,56,60,66,70,72])) (.alt false 16 ((.of [50,52,56,60,70,72])) .non)))))))))))))) [18] [1,2,3] (by rw[hX.hP];kernel_rfl) (by kernel_rfl) ?_;refine J.q hX λ_=>?_;refine J.alts ?_ ?_
  ·skip
   refine J.q hX λ_=>?_;refine J.cb hX (m_Look p N hN hR (G.parity f.mask f.block f.row) f.block f.row) [1] ?_;refine cpq ⟨_,rfl,(by first | exact trivial | (repeat' (first | exact trivial | refine⟨rfl,?_⟩))),?_⟩;refine J.q hX λ_=>?_;refine J.ru hX [1,2] ?_;exact⟨by rw[hv],rfl⟩
  ·skip
   refine J.qn hX 1 λ_=>?_;refine J.q hX λ_=>?_;refine J.cb hX (m_Look p N hN hR (G.parity f.mask f.block f.row) f.block f.row) [1] ?_;refine cpq ⟨_,rfl,(by first | exact trivial | (repeat' (first | exact trivial | refine⟨rfl,?_⟩))),?_⟩;refine J.q hX λ_=>?_;refine J.ru hX [1,2] ?_;exact⟨by rw[hv],rfl⟩
theorem cellsF_at (l:List Fnd) (r:List Value) (k:Nat) (x:Fnd) (h:l[k]? =some x):((cellsF l++r).drop (k*25)).take 25=fnL x:=by
 have hk:k<l.length:=(List.getElem?_eq_some_iff.1 h).1;rw[List.drop_append_of_le_length (by rw[cellsF_len];omega),List.take_append_of_le_length (by rw[List.length_drop,cellsF_len];omega)];exact cellsF_get h
theorem cellsF_set:∀(l:List Fnd) (r:List Value) (k:Nat) (x:Fnd),k<l.length->(cellsF l++r).take (k*25)++fnL x++(cellsF l++r).drop (k*25+25)=cellsF (l.set k x)++r
 | [],_,_,_,h=>by simp at h
 | y::l,r,0,x,h=>by simp[cellsF,fnL]
 | y::l,r,k+1,x,h=>by
  have:=cellsF_set l r k x (by simpa using h);have hy:(fnL y).length=25:=rfl;have e1:cellsF (y::l)++r=fnL y++(cellsF l++r):=by simp[cellsF]
  have e2:cellsF ((y::l).set (k+1) x)++r=fnL y++(cellsF (l.set k x)++r):=by simp[cellsF]
  rw[e1,e2,<- this,show(k+1)*25=(fnL y).length+k*25 from by omega,List.take_length_add_append,show(fnL y).length+k*25+25=(fnL y).length+(k*25+25)from by omega,<- List.drop_drop,List.drop_left' rfl];simp only[List.append_assoc]
def idxF (p:Fnd->Bool) (l:List Fnd):Int:=match l.findIdx? p with
 | some k=>k
 | none=> -1
theorem idxF_step {p:Fnd->Bool} {l:List Fnd} {k:Nat} {x:Fnd} (h:l[k]? =some x) (h0:∀i<k,p (l.getD i Fnd.zero)=false) (hp:p x=true):l.findIdx? p=some k:=by
 rw[List.findIdx?_eq_some_iff_getElem];obtain⟨h1,h2⟩:=List.getElem?_eq_some_iff.1 h;refine⟨h1,by rw[h2];exact hp,λj hj=>?_⟩;have:=h0 j hj;rw[List.getD_eq_getElem?_getD,List.getElem?_eq_getElem (by omega),Option.getD_some]at this;simp[this]
theorem idxF_none {p:Fnd->Bool} {l:List Fnd} (h0:∀i<l.length,p (l.getD i Fnd.zero)=false):l.findIdx? p=none:=by
 rw[List.findIdx?_eq_none_iff];intro x hx;obtain⟨i,hi,rfl⟩:=List.mem_iff_getElem.1 hx;have:=h0 i hi
 rwa [List.getD_eq_getElem?_getD,List.getElem?_eq_getElem hi,Option.getD_some]at this
theorem x_IndexF (c:Nat) (cs:List Value) (p:Fnd->Bool) (A:Atom) (hcal:callable Tryz.prog c=true) (l:List Fnd) (hf:∀x∈l,Fn Tryz.prog c (fdV x::cs) [A] (λv As=>v= .bool (p x)/\As=[A]))
  (a:Option Nat) (n cap:Nat) (hl:l.length=n) (hn:n<=4611686018427387904):Fn Tryz.prog 225 [slv a n cap,fnC c cs] [ownA 142 25 a n cap (cellsF l),A]
  (λv As=>v= .int .i64 (idxF p l)/\As=[ownA 142 25 a n cap (cellsF l),A]):=by
 refine Fn.enter [0,0] Tryz.func225 rfl rfl rfl λX F hX=>?_;refine J.q hX λ_=>?_;refine J.lo (α:=Nat) (λk=>k<=n/\∀i<k,p (l.getD i Fnd.zero)=false) (λk=>[⟨8, .int .i64 k,0, .tt⟩,⟨7, .int .i64 n,0, .tt⟩,⟨0,slv a n cap,0, .tt⟩,⟨1,fnC c cs,0, .tt⟩]) [] (λk=>[]) (λk=>n-k) (0) (⟨by omega,by omega⟩) rfl ?_ (λ_=>rfl) λk hI=>?_
 ·rfl
 refine J.q hX λ_=>?_;refine J.cond rfl (λh1=>?_) (λh1=>?_)
 ·simp only[decide_eq_true_eq,Int.ofNat_lt]at h1;cases a with
  | none=>
   refine J.know (λh' s=>(s.get (i:=1) rfl).2.1) λhn0=>?_;omega
  | some g=>
   have hk:l[k]? =some (l.getD k Fnd.zero):=by rw[List.getD_eq_getElem?_getD,List.getElem?_eq_getElem (by omega),Option.getD_some]
   refine J.q hX λ_=>?_;refine J.val hX (fdV (l.getD k Fnd.zero)) 0 rfl rfl (λhg a w he hs=>?_) rfl trivial ?_
   ·exact ownN_run tk rfl rfl he rfl rfl rfl (hs.get (i:=1) rfl) (by rw[show 0+(k:Int).toNat*25=k*25 from by omega];have:=cellsF_at l [] k _ hk;rwa [List.append_nil]at this) rfl
   refine J.q hX λ_=>?_;refine J.call hX hcal (hf (l.getD k Fnd.zero) (List.mem_of_getElem? hk)) [2] 0 rfl rfl rfl rfl (by(repeat' (first | exact Conj.nil | refine Conj.cons ?_ ?_ | omega | exact hq0 | (simpa using hq0) | (exactλh=>h) | exact rfl | (intro hq;have hq0:=hq;try simp only[Bool.and_eq_true,Bool.or_eq_true,decide_eq_true_eq,Bool.not_eq_true',decide_eq_false_iff_not]at hq) | (simp;done) | (simp;omega) | decide))) rfl rfl (λ_=>rfl) ?_;refine cpq ⟨_,rfl,trivial,?_⟩;refine J.q hX λ_=>?_;refine J.cond rfl (λh2=>?_) (λh2=>?_)
   ·refine J.q hX λ_=>?_;refine J.ru hX [1,2] ?_;exact⟨by rw[idxF,idxF_step hk hI.2 h2],rfl⟩
   ·refine J.q hX λ_=>?_;refine J.nx (k+1) (⟨by omega,λi hi=>by
     rcases Nat.lt_succ_iff_lt_or_eq.1 hi with h3 | h3
     ·exact hI.2 i h3
     ·rw[h3];exact h2⟩) (by omega) (λ_ s=>s)
 ·simp only[decide_eq_false_iff_not,Int.ofNat_lt]at h1;refine J.q hX λ_=>?_;refine J.ru hX [1,2] ?_;exact⟨by rw[idxF,idxF_none (λi hi=>hI.2 i (by omega))],rfl⟩
theorem cellsF_one (l:List Fnd):∀u∈cellsF l,u.oneCell'=true:=by
 intro u hu;simp only[cellsF,List.mem_flatMap]at hu;obtain⟨s,_,hu⟩:=hu;simp only[fnL,List.mem_cons,List.not_mem_nil,or_false]at hu;rcases hu with rfl | rfl | rfl | rfl | rfl | rfl | rfl | rfl | rfl | rfl | rfl | rfl | rfl | rfl | rfl | rfl | rfl | rfl | rfl | rfl | rfl | rfl | rfl | rfl | rfl<;>rfl
theorem x_CloneF (a:Option Nat) (n cap:Nat) (l:List Fnd) (hl:l.length=n) (hn:n<=1000000):Fn Tryz.prog 207 [slv a n cap] [ownA 142 25 a n cap (cellsF l)]
  (λv As=>∃a' c',v=slv a' n c'/\As=[ownA 142 25 a n cap (cellsF l),ownA 142 25 a' n c' (cellsF l)]):=by
 refine Fn.enter [0] Tryz.func207 rfl rfl rfl λX F hX=>?_;cases a with
 | none=>
  refine J.know (λh' s=>(s.get (i:=1) rfl).2) λhn0=>?_;obtain⟨rfl,rfl⟩:=hn0;have:l=[]:=List.eq_nil_of_length_eq_zero hl;subst this;refine J.q hX λ_=>?_;refine J.cT ?_;refine J.turn1 [] rfl (As:=[ownA 142 25 none 0 0 (cellsF [])]) (λh s=>Sep.one ⟨rfl,rfl,rfl⟩) rfl ?_;refine J.q hX λ_=>?_;refine J.ru hX [1,2] ?_;exact⟨none,0,rfl,rfl⟩
 | some g=>
  refine J.q hX λ_=>?_;refine J.cF ?_;refine J.qn hX 5 λbb=>?_;refine J.closeOwn (e:=142) (size:=25) (n:=0) (cap:=0) (xs:=[]) 2 rfl rfl rfl (Nat.le_refl _) (Nat.zero_le _) rfl rfl rfl ?_;refine J.q hX λ_=>?_;refine J.appendR hX tk (a:=some (bb 0)) (n:=0) (cap:=0) (xs:=[]) (oo:=0) (Ay:=ownA 142 25 (some g) n cap (cellsF l)) 2 1 0 rfl rfl rfl rfl rfl rfl rfl rfl rfl rfl (own_rd _ _ (some g) _ _ _) rfl rfl rfl rfl (cellsF_one l) ?_ ?_ (λ_=>rfl) λa' c'=>⟨_,rfl,trivial,?_⟩
  ·simp only[maxLen];omega
  ·omega
  rw[Nat.zero_add n,List.nil_append];refine J.q hX λ_=>?_;refine J.ru hX [1,2] ?_;exact⟨a',c',rfl,rfl⟩
def DelF (p:Fnd->Bool) (l m:List Fnd) (i j:Nat):Prop:=m.length=l.length/\i<j/\j<=l.length/\m.drop j=l.drop j/\m.take i++(l.drop j).filter (λx=>!p x)=l.filter (λx=>!p x)
theorem DelF.start {p:Fnd->Bool} {l:List Fnd} {k:Nat} (h:l.findIdx? p=some k):DelF p l l k (k+1):=by
 rw[List.findIdx?_eq_some_iff_getElem]at h;obtain⟨h1,h2,h3⟩:=h;refine⟨rfl,by omega,by omega,rfl,?_⟩;have e:l=l.take k++l[k]::l.drop (k+1):=by rw[<- List.drop_eq_getElem_cons h1,List.take_append_drop]
 have e2:(l.take k).filter (λx=>!p x)=l.take k:=by
  rw[List.filter_eq_self];intro x hx;obtain⟨i,hi,rfl⟩:=List.mem_iff_getElem.1 hx;rw[List.getElem_take];have:=h3 i (by simp at hi;omega);simpa using this
 conv=>rhs;rw[e]
 rw[List.filter_append,e2,List.filter_cons_of_neg (by simp[h2])]
theorem DelF.skip {p:Fnd->Bool} {l m:List Fnd} {i j:Nat} (h:DelF p l m i j) (hj:j<l.length) (hp:p (m.getD j Fnd.zero)=true):DelF p l m i (j+1):=by
 obtain⟨h1,h2,h3,h4,h5⟩:=h;have e1:m[j]? =l[j]?:=by have:=congrArg (λz=>z[0]?) h4;simpa using this
 have hx:l[j]=m.getD j Fnd.zero:=by rw[List.getD_eq_getElem?_getD,e1,List.getElem?_eq_getElem hj,Option.getD_some]
 refine⟨h1,by omega,by omega,?_,?_⟩
 ·have:=congrArg (List.drop 1) h4;simpa[List.drop_drop]using this
 ·rw[<- h5,List.drop_eq_getElem_cons hj,List.filter_cons_of_neg (by rw[hx,hp];simp)]
theorem DelF.keep {p:Fnd->Bool} {l m:List Fnd} {i j:Nat} (h:DelF p l m i j) (hj:j<l.length) (hp:p (m.getD j Fnd.zero)=false):DelF p l (m.set i (m.getD j Fnd.zero)) (i+1) (j+1):=by
 obtain⟨h1,h2,h3,h4,h5⟩:=h;have e1:m[j]? =l[j]?:=by have:=congrArg (λz=>z[0]?) h4;simpa using this
 have hx:l[j]=m.getD j Fnd.zero:=by rw[List.getD_eq_getElem?_getD,e1,List.getElem?_eq_getElem hj,Option.getD_some]
 refine⟨by simp[h1],by omega,by omega,?_,?_⟩
 ·rw[List.drop_set_of_lt (by omega)];have:=congrArg (List.drop 1) h4;simpa[List.drop_drop]using this
 ·rw[<- h5,List.drop_eq_getElem_cons hj,List.filter_cons_of_pos (by rw[hx,hp];simp),hx,List.take_set,List.take_add_one,List.getElem?_eq_getElem (by omega)];rw[List.set_append_right _ _ (by simp;omega)];simp[List.length_take,Nat.min_eq_left (show i<=m.length by omega)]
theorem x_DeleteF (c:Nat) (cs:List Value) (p:Fnd->Bool) (A:Atom) (hcal:callable Tryz.prog c=true) (hf:∀x,Fn Tryz.prog c (fdV x::cs) [A] (λv As=>v= .bool (p x)/\As=[A]))
  (a:Option Nat) (n cap:Nat) (l:List Fnd) (hl:l.length=n) (hn:n<=4611686018427387904):Fn Tryz.prog 206 [slv a n cap,fnC c cs] [ownA 142 25 a n cap (cellsF l),A]
  (λv As=>∃l',l'=l.filter (λx=>!p x)/\v=slv a l'.length cap/\As=[ownA 142 25 a l'.length cap (cellsF l'),A]):=by
 refine Fn.enter [0,0] Tryz.func206 rfl rfl rfl λX F hX=>?_;refine J.q hX λ_=>?_;refine J.cb hX (x_IndexF c cs p A hcal l (λx _=>hf x) a n cap hl hn) [1,2] ?_;refine cpq ⟨_,rfl,trivial,?_⟩;rw[idxF];cases hx:l.findIdx? p with
 | none=>
  dsimp only;refine J.q hX λ_=>?_;refine J.cT ?_;refine J.q hX λ_=>?_;refine J.ru hX [1,2] ?_;have:l.filter (λx=>!p x)=l:=by
   rw[List.filter_eq_self];intro x hm;rw[List.findIdx?_eq_none_iff]at hx;simp[hx x hm]
  exact⟨l,this.symm,by rw[hl],by rw[hl];rfl⟩
 | some k=>
  dsimp only;refine J.q hX λ_=>?_;refine J.cond rfl (λh0=>?_) (λh0=>?_)
  ·simp only[beq_iff_eq]at h0;omega
  have hk:k<n:=by rw[List.findIdx?_eq_some_iff_getElem]at hx;obtain⟨h1,_⟩:=hx;omega
  cases a with
  | none=>
   refine J.know (λh' s=>(s.get (i:=1) rfl).2.1) λhn0=>?_;omega
  | some g=>
   refine J.openOwn 1 rfl rfl (λ_=>rfl) λr q1 q2 q3 q4=>?_;refine J.q hX λ_=>?_;rw[show(k:Int)+1=((k+1:Nat):Int)from by omega];refine J.q hX λ_=>?_;refine J.lo (α:=(Nat×Nat×List Fnd)) (λx=>DelF p l x.2.2 x.1 x.2.1) (λx=>[⟨6, .int .i64 x.2.1,0, .tt⟩,⟨5, .int .i64 x.1,0, .tt⟩,⟨0,slv (some g) n cap,0, .tt⟩,⟨1,fnC c cs,0, .tt⟩]) [1] (λx=>[.pt g 142 (cellsF x.2.2++r)]) (λx=>n-x.2.1) ((k,k+1,l)) (DelF.start hx) rfl ?_ (λ_=>rfl) λx hI=>?_
   ·rfl
   obtain⟨i,j,m⟩:=x;dsimp only at hI ⊢;have hml:m.length=n:=hI.1.trans hl;have hij:i<j:=hI.2.1;have hjn:j<=n:=by have:=hI.2.2.1;omega
   refine J.q hX λ_=>?_;refine J.cond rfl (λh1=>?_) (λh1=>?_)
   ·simp only[decide_eq_true_eq,Int.ofNat_lt]at h1;have hget:m[j]? =some (m.getD j Fnd.zero):=by rw[List.getD_eq_getElem?_getD,List.getElem?_eq_getElem (by omega),Option.getD_some]
    refine J.q hX λ_=>?_;refine J.val hX (fdV (m.getD j Fnd.zero)) 0 rfl rfl (λhg a w he hs=>?_) rfl trivial ?_
    ·exact loadN_run tk rfl rfl he rfl rfl rfl (hs.get (i:=1) rfl) (by rw[show 0+(j:Int).toNat*25=j*25 from by omega];exact cellsF_at m r _ _ hget) rfl
    refine J.q hX λ_=>?_;refine J.call hX hcal (hf (m.getD j Fnd.zero)) [2] 0 rfl rfl rfl rfl (by(repeat' (first | exact Conj.nil | refine Conj.cons ?_ ?_ | omega | exact hq0 | (simpa using hq0) | (exactλh=>h) | exact rfl | (intro hq;have hq0:=hq;try simp only[Bool.and_eq_true,Bool.or_eq_true,decide_eq_true_eq,Bool.not_eq_true',decide_eq_false_iff_not]at hq) | (simp;done) | (simp;omega) | decide))) rfl rfl (λ_=>rfl) ?_;refine cpq ⟨_,rfl,trivial,?_⟩;refine J.q hX λ_=>?_;refine J.cond rfl (λh2=>?_) (λh2=>?_)
    ·simp only[Bool.not_eq_true']at h2;refine J.q hX λ_=>?_;refine J.storeN hX tk 1 rfl rfl rfl rfl rfl rfl rfl rfl rfl rfl rfl rfl rfl ?_ (cellsF (m.set i (m.getD j Fnd.zero))++r) ?_ rfl (λ_=>rfl) ⟨trivial,?_⟩
     ·rw[List.length_append,cellsF_len];show 0+(i:Int).toNat*25+25<=_;omega
     ·rw[show 0+(i:Int).toNat*25=i*25 from by omega];exact cellsF_set m r i _ (by omega)
     refine J.q hX λ_=>?_;refine J.nS ((i+1,j+1,m.set i (m.getD j Fnd.zero))) (hI.keep (by omega) h2) (by dsimp only;omega) [0,1,2] rfl rfl
    ·simp only[Bool.not_eq_false']at h2;refine J.q hX λ_=>?_;refine J.nS ((i,j+1,m)) (hI.skip (by omega) h2) (by dsimp only;omega) [0,1,2] rfl rfl
   ·simp only[decide_eq_false_iff_not,Int.ofNat_lt]at h1;obtain rfl:j=n:=by omega
    have hfil:m.take i=l.filter (λx=>!p x):=by
     have h5:=hI.2.2.2.2;rw[List.drop_of_length_le (by omega)]at h5;simpa using h5
    refine J.q hX λ_=>?_;refine J.clear hX tk 1 rfl rfl rfl rfl rfl rfl rfl rfl rfl rfl rfl ?_ (λ_=>rfl) (λ_=>rfl) λcs' z1 z2=>⟨trivial,?_⟩
    ·rw[List.length_append,cellsF_len];rw[cellsF_len]at q4;show 0+(i:Int).toNat*25+(j-(i:Int).toNat)*25<=_;have:(i:Int).toNat=i:=by omega
     rw[this];omega
    have hilen:(l.filter (λx=>!p x)).length=i:=by rw[<- hfil,List.length_take];omega
    refine J.closeOwn (e:=142) (size:=25) (n:=i) (cap:=cap) (xs:=cellsF (l.filter (λx=>!p x))) 1 rfl rfl (by rw[cellsF_len,hilen]) (by omega) q3 (by rw[z1,List.length_append,cellsF_len,hml];rw[cellsF_len,hl]at q4;exact q4) ?_ rfl ?_
    ·have z3:(0+(i:Int).toNat*25)=i*25:=by omega
     rw[z3]at z2;rw[z2,<- hfil];have e:cellsF m=cellsF (m.take i)++cellsF (m.drop i):=by
      conv=>lhs;rw[<- List.take_append_drop i m]
      simp only[cellsF,List.flatMap_append]
     rw[e,List.append_assoc,List.take_left' (by rw[cellsF_len,List.length_take,Nat.min_eq_left (by omega)])]
    refine J.q hX λ_=>?_;refine J.ru hX [1,2] ?_;exact⟨_,rfl,by rw[hilen];rfl,by rw[hilen];rfl⟩
structure FSlot where
 a:Option Nat
 cap:Nat
 l:List Fnd
def FSlot.hdr (z:FSlot):Value:=slv z.a z.l.length z.cap
def FSlot.atom (z:FSlot):Atom:=ownA 142 25 z.a z.l.length z.cap (cellsF z.l)
def hdrs (Z:List FSlot):List Value:=Z.map FSlot.hdr
def fats (Z:List FSlot):List Atom:=Z.map FSlot.atom
theorem hdrs_get {Z:List FSlot} {k:Nat} {z:FSlot} (h:Z[k]? =some z):(hdrs Z)[0+(k:Int).toNat*1]? =some z.hdr:=by
 rw[show 0+(k:Int).toNat*1=k from by omega,hdrs,List.getElem?_map,h];rfl
theorem fats_get {Z:List FSlot} {k:Nat} {z:FSlot} (h:Z[k]? =some z):(fats Z)[k]? =some z.atom:=by
 rw[fats,List.getElem?_map,h];rfl
theorem fats_same {Z:List FSlot} {k:Nat} {z:FSlot} (h:Z[k]? =some z):(fats Z).set k z.atom=fats Z:=by
 apply List.ext_getElem?;intro i;rw[List.getElem?_set];split
 ·rename_i e;subst e;split
  ·exact(fats_get h).symm
  ·rename_i e2;rw[List.getElem?_eq_none (by omega)]
 ·rfl
theorem fats_set (Z:List FSlot) (k:Nat) (z:FSlot):(fats Z).set k z.atom=fats (Z.set k z):=by rw[fats,fats,List.map_set]
theorem hdrs_set (Z:List FSlot) (k:Nat) (z:FSlot):(hdrs Z).set k z.hdr=hdrs (Z.set k z):=by rw[hdrs,hdrs,List.map_set]
def V.standOf (l:List Fnd):Fnd×Bool:=match V.tops l with
 | []=>(Fnd.zero,false)
 | f::_=>(f,true)
def ScP (sp p g:Nat) (Z:List FSlot):List Atom:=[.pt sp 220 [.pointer (some ⟨p,0,none⟩), .slice (some ⟨g,0,none⟩) Z.length Z.length], .pt g 139 (hdrs Z), .hp (HP.of (fats Z))]
theorem v_stands (sp p g:Nat) (Z:List FSlot) (k:Nat) (z:FSlot) (hz:Z[k]? =some z) (hn:Z.length<=100000) (hl:z.l.length<=100000):Fn Tryz.prog 171 [.pointer (some ⟨sp,0,none⟩), .int .i64 k] (ScP sp p g Z)
  (λv As=>v= .tuple #[fdV (V.standOf z.l).1, .bool (V.standOf z.l).2]/\As=ScP sp p g Z):=by
 have hk:k<Z.length:=(List.getElem?_eq_some_iff.1 hz).1;refine Fn.enter [2,0] Tryz.func171 rfl rfl rfl λX F hX=>?_;refine J.q hX λ_=>?_;refine J.val hX z.hdr 0 rfl rfl (λhg a w he hs=>?_) rfl trivial ?_
 ·exact load1_run tk rfl rfl he rfl rfl rfl (hs.get (i:=2) rfl) (hdrs_get hz)
 refine J.openAt 3 k rfl rfl (fats_get hz) rfl ?_;refine J.q hX λ_=>?_;refine J.cb hX (v_tops z.a z.l.length z.cap z.l rfl hl) [5] ?_;rintro v As ⟨a',c',rfl,rfl⟩;refine⟨_,rfl,trivial,?_⟩;have hv:V.standOf z.l=match V.tops z.l with
  | []=>(Fnd.zero,false)
  | f::_=>(f,true):=rfl
 rcases ht:V.tops z.l with _ | ⟨f,o⟩
 ·rw[ht]at hv;refine J.q hX λ_=>?_;refine J.cT ?_;refine J.q hX λ_=>?_;refine J.closeAt (A:=z.atom) 3 5 k rfl rfl rfl ?_;rw[fats_same hz];refine J.q hX λ_=>?_;refine J.ru hX [1,2,3] ?_;exact⟨by rw[hv];rfl,rfl⟩
 ·rw[ht]at hv;refine J.know (λh' s=>own_some (c:=(a',c')) (by simp) (s.get (i:=6) rfl)) λhg=>?_;obtain⟨ga,rfl⟩:=hg;refine J.q hX λ_=>?_;refine J.cond rfl (λh1=>?_) (λh1=>?_)
  ·simp only[beq_iff_eq,List.length_cons]at h1;omega
  refine J.q hX λ_=>?_;refine J.val hX (fdV f) 0 rfl rfl (λhg a w he hs=>?_) rfl trivial ?_
  ·exact ownN_run tk rfl rfl he rfl rfl rfl (hs.get (i:=6) rfl) rfl rfl
  refine J.q hX λ_=>?_;refine J.closeAt (A:=z.atom) 3 5 k rfl rfl rfl ?_;rw[fats_same hz];refine J.q hX λ_=>?_;refine J.ru hX [1,2,3] ?_;exact⟨by rw[hv];rfl,rfl⟩
theorem v_holds1 (A:Atom) (x:Fnd):Fn Tryz.prog 208 [fdV x] [A] (λv As=>v= .bool (!x.whole)/\As=[A]):=by
 refine Fn.enter [0] Tryz.func208 rfl rfl rfl λX F hX=>?_;refine J.q hX λ_=>?_;exact J.ru hX [1] ⟨rfl,rfl⟩
theorem v_holds (sp p g:Nat) (Z:List FSlot) (k:Nat) (z:FSlot) (hz:Z[k]? =some z) (hn:Z.length<=100000) (hl:z.l.length<=100000):Fn Tryz.prog 173 [.pointer (some ⟨sp,0,none⟩), .int .i64 k] (ScP sp p g Z)
  (λv As=>∃a c,v=slv a (V.holds z.l).length c/\As=ScP sp p g Z++[ownA 3 1 a (V.holds z.l).length c (cellsI (V.holds z.l))]):=by
 have hk:k<Z.length:=(List.getElem?_eq_some_iff.1 hz).1;refine Fn.enter [2,0] Tryz.func173 rfl rfl rfl λX F hX=>?_;refine J.q hX λ_=>?_;refine J.val hX z.hdr 0 rfl rfl (λhg a w he hs=>?_) rfl trivial ?_
 ·exact load1_run tk rfl rfl he rfl rfl rfl (hs.get (i:=2) rfl) (hdrs_get hz)
 refine J.openAt 3 k rfl rfl (fats_get hz) rfl ?_;refine J.q hX λ_=>?_;refine J.cb hX (x_CloneF z.a z.l.length z.cap z.l rfl (by omega)) [4] ?_;rintro v As ⟨a1,c1,rfl,rfl⟩;refine⟨_,rfl,trivial,?_⟩;refine J.closeAt (A:=z.atom) 3 4 k rfl rfl rfl ?_;rw[fats_same hz];refine J.q hX λ_=>?_;refine J.ca hX (by kernel_rfl) (x_DeleteF 208 [] (λx=>!x.whole) (.pt sp 220 [.pointer (some ⟨p,0,none⟩), .slice (some ⟨g,0,none⟩) Z.length Z.length]) (by kernel_rfl) (λx=>v_holds1 _ x) a1 z.l.length c1 z.l rfl (by omega)) [5,1] 0 rfl rfl rfl rfl rfl rfl (λ_=>rfl) ?_;rintro v As ⟨l',hl',rfl,rfl⟩;refine⟨_,rfl,trivial,?_⟩;have hl2:l'=z.l.filter λf=>f.whole:=by rw[hl'];congr 1;funext x;simp
 have hll:l'.length<=z.l.length:=by rw[hl'];exact List.length_filter_le _ _
 have htl:=tops_len l';have hh:V.holds z.l=(V.tops l').map (·.block):=by rw[hl2];rfl
 refine J.q hX λ_=>?_;refine J.cb hX (v_tops a1 l'.length c1 l' rfl (by omega)) [5] ?_;rintro v As ⟨a2,c2,rfl,rfl⟩;refine⟨_,rfl,trivial,?_⟩;refine J.turn1 [] rfl (As:=[ownA 3 1 none 0 0 (cellsI [])]) (λh s=>Sep.one ⟨rfl,rfl,rfl⟩) rfl ?_;refine J.q hX λ_=>?_;refine J.lo (α:=(Nat×Option Nat×Nat)) (λw=>w.1<=(V.tops l').length) (λw=>[⟨21, .int .i64 w.1,0, .tt⟩,⟨20, .int .i64 (V.tops l').length,0, .tt⟩,⟨19,slv a2 (V.tops l').length c2,0, .tt⟩,⟨6,slv w.2.1 w.1 w.2.2,0, .tt⟩]) [7] (λw=>[ownA 3 1 w.2.1 w.1 w.2.2 (cellsI (((V.tops l').take w.1).map (·.block)))]) (λw=>(V.tops l').length-w.1) ((0,none,0)) (Nat.zero_le _) rfl ?_ (λ_=>rfl) λw hI=>?_
 ·rfl
 obtain⟨j,a3,c3⟩:=w;dsimp only at hI ⊢;refine J.q hX λ_=>?_;refine J.cond rfl (λh1=>?_) (λh1=>?_)
 ·simp only[decide_eq_true_eq,Int.ofNat_lt]at h1;obtain⟨x,hx⟩:∃x,(V.tops l')[j]? =some x:=⟨_,List.getElem?_eq_getElem h1⟩;have htk:((V.tops l').take (j+1)).map (·.block)=((V.tops l').take j).map (·.block)++[x.block]:=by rw[List.take_add_one,hx];simp
  refine J.know (λh' s=>own_some (c:=(a2,c2)) (by omega) (s.get (i:=6) rfl)) λhg=>?_;obtain⟨ga,rfl⟩:=hg;refine J.q hX λ_=>?_;refine J.val hX (fdV x) 0 rfl rfl (λhg a w he hs=>?_) rfl trivial ?_
  ·exact ownN_run tk rfl rfl he rfl rfl rfl (hs.get (i:=6) rfl) (by rw[show 0+(j:Int).toNat*25=j*25 from by omega];exact cellsF_get hx) rfl
  refine J.q hX λ_=>?_;refine J.append hX tk 7 9 0 rfl rfl rfl rfl rfl rfl rfl rfl rfl rfl rfl rfl rfl rfl rfl rfl ?_ ?_ (λ_=>rfl) λa4 c4=>⟨_,(congrArg (λz=>lset _ 7 (ownA _ _ _ _ _ z)) ((cellsI_snoc _ x.block).symm.trans (congrArg cellsI htk.symm))).trans rfl,trivial,?_⟩
  ·simp only[maxLen];omega
  ·omega
  refine J.q hX λ_=>?_;refine J.nS ((j+1,a4,c4)) (by dsimp only;omega) (by dsimp only;omega) [0,1,2,3,4,5,6,7] rfl rfl
 ·simp only[decide_eq_false_iff_not,Int.ofNat_lt]at h1;obtain rfl:j=(V.tops l').length:=by omega
  rw[List.take_length,<- hh];refine J.q hX λ_=>?_;refine J.ru hX [1,2,3,7] ?_;have hlen:(V.tops l').length=(V.holds z.l).length:=by rw[hh,List.length_map]
  rw[hlen];exact⟨a3,c3,rfl,rfl⟩
end Go.Proofs.YtdocmcapegcoeaaGreat
namespace Go.Proofs.YtdocmcapegcoeaaGreat
open Go Go.Shelf
def renn189:Ren:=⟨λn=>if n=125 then 210 else if n=128 then 235 else if n=129 then 236 else if n=189 then 174 else if n=215 then 145 else if n=216 then 232 else if n=257 then 209 else if n=294 then 226 else if n=295 then 227 else if n=296 then 228 else if n=297 then 229 else if n=298 then 230 else if n=299 then 231 else if n=300 then 233 else if n=301 then 234 else if n=328 then 244 else if n=329 then 245 else if n=330 then 246 else if n=331 then 247 else if n=332 then 248 else if n=343 then 266 else 0,λn=>if n=0 then 0 else if n=3 then 3 else if n=4 then 4 else if n=5 then 5 else if n=9 then 9 else if n=28 then 24 else if n=46 then 49 else if n=51 then 201 else if n=53 then 187 else if n=131 then 265 else if n=182 then 260 else if n=183 then 261 else if n=218 then 276 else if n=222 then 271 else if n=228 then 293 else if n=229 then 294 else 0,λn=>n⟩
theorem laysn189:Lays.n189 Tryz.prog renn189 where
 mixed:=by kernel_rfl
 f125:=by kernel_rfl
 f128:=by kernel_rfl
 f129:=by kernel_rfl
 f189:=by kernel_rfl
 f215:=by kernel_rfl
 f216:=by kernel_rfl
 f257:=by kernel_rfl
 f294:=by kernel_rfl
 f295:=by kernel_rfl
 f296:=by kernel_rfl
 f297:=by kernel_rfl
 f298:=by kernel_rfl
 f299:=by kernel_rfl
 f300:=by kernel_rfl
 f301:=by kernel_rfl
 f328:=by kernel_rfl
 f329:=by kernel_rfl
 f330:=by kernel_rfl
 f331:=by kernel_rfl
 f332:=by kernel_rfl
 f343:=by kernel_rfl
 t0:=by kernel_rfl
 a0:=λw=>by kernel_rfl
 z0:=λw=>by kernel_rfl
 v0:=λw=>by kernel_rfl
 t3:=by kernel_rfl
 a3:=λw=>by kernel_rfl
 z3:=λw=>by kernel_rfl
 v3:=λw=>by kernel_rfl
 t4:=by kernel_rfl
 a4:=λw=>by kernel_rfl
 z4:=λw=>by kernel_rfl
 v4:=λw=>by kernel_rfl
 t5:=by kernel_rfl
 a5:=λw=>by kernel_rfl
 z5:=λw=>by kernel_rfl
 v5:=λw=>by kernel_rfl
 t9:=by kernel_rfl
 a9:=λw=>by kernel_rfl
 z9:=λw=>by kernel_rfl
 v9:=λw=>by kernel_rfl
 t28:=by kernel_rfl
 a28:=λw=>by kernel_rfl
 z28:=λw=>by kernel_rfl
 v28:=λw=>by kernel_rfl
 t46:=by kernel_rfl
 a46:=λw=>by kernel_rfl
 z46:=λw=>by kernel_rfl
 v46:=λw=>by kernel_rfl
 t51:=by kernel_rfl
 a51:=λw=>by kernel_rfl
 z51:=λw=>by kernel_rfl
 v51:=λw=>by kernel_rfl
 t53:=by kernel_rfl
 a53:=λw=>by kernel_rfl
 z53:=λw=>by kernel_rfl
 v53:=λw=>by kernel_rfl
 t131:=by kernel_rfl
 a131:=λw=>by kernel_rfl
 z131:=λw=>by kernel_rfl
 v131:=λw=>by kernel_rfl
 t182:=by kernel_rfl
 a182:=λw=>by kernel_rfl
 z182:=λw=>by kernel_rfl
 v182:=λw=>by kernel_rfl
 t183:=by kernel_rfl
 a183:=λw=>by kernel_rfl
 z183:=λw=>by kernel_rfl
 v183:=λw=>by kernel_rfl
 t218:=by kernel_rfl
 a218:=λw=>by kernel_rfl
 z218:=λw=>by kernel_rfl
 v218:=λw=>by kernel_rfl
 t222:=by kernel_rfl
 a222:=λw=>by kernel_rfl
 z222:=λw=>by kernel_rfl
 v222:=λw=>by kernel_rfl
 t228:=by kernel_rfl
 a228:=λw=>by kernel_rfl
 z228:=λw=>by kernel_rfl
 v228:=λw=>by kernel_rfl
 t229:=by kernel_rfl
 a229:=λw=>by kernel_rfl
 z229:=λw=>by kernel_rfl
 v229:=λw=>by kernel_rfl
end Go.Proofs.YtdocmcapegcoeaaGreat
