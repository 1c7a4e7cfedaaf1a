/- Helpers, proved here. No condition. -/
import Derived.Test.YtdocmcapegcoeaaGreatA06
import Derived.Test.YtdocmcapegcoeaaGreatA18
import Derived.Test.YtdocmcapegcoeaaGreatA29
import Derived.Test.YtdocmcapegcoeaaGreatA33
set_option maxRecDepth 20000
set_option linter.all false
namespace Go.Proofs.YtdocmcapegcoeaaGreat
open Go Go.RowKit
theorem eL_drop (j i:Nat):(eL 0 j).drop i=eL i (j-i):=by
 refine List.ext_getElem? λk=>?_;rw[List.getElem?_drop];unfold eL;rw[List.getElem?_map,List.getElem?_map]
 by_cases h:i+k<j
 ·rw[List.getElem?_range h,List.getElem?_range (show k<j-i by omega)];simp only[Option.map_some];rw[show(0:Int)+((i+k:Nat):Int)=(i:Int)+(k:Int)from by omega]
 ·rw[List.getElem?_eq_none (by rw[List.length_range];omega),List.getElem?_eq_none (by rw[List.length_range];omega)];rfl
theorem s_SweepCarry (g0 g1 g2 cn mo:Int) (A:Atom):
  Fn Tryz.prog 11 [.agg #[.int .i64 g0, .int .i64 g1, .int .i64 g2], .int .i64 cn, .int .i64 mo] [A] (λv As=>v= .bool true/\As=[A]):=by
 refine Fn.enter [0,0,0] Tryz.func11 rfl rfl rfl λX F hX=>?_;refine J.q hX λbb=>?_;refine J.cb hX (l18_begun) [] ?_;refine cpq ⟨_,rfl,trivial,?_⟩;refine J.q hX λ_=>?_;refine J.cF ?_;refine J.q hX λ_=>?_;refine J.cb hX (l6_Geo g0 g1 g2) [] ?_;rintro v As ⟨D,B,P,rfl,hD,hB,hP,rfl⟩;refine⟨_,rfl,trivial,?_⟩;have hgm:geoMay D B P=true:=by simp[geoMay];omega
 refine J.q hX λ_=>?_;refine J.cb hX (l18_bench D B P hgm 500) [] ?_;rintro v As ⟨n,t,l,q,rfl,rfl⟩;refine⟨_,rfl,trivial,?_⟩;have hPk:P*(D-1)<=8*5:=Nat.mul_le_mul hP.2 (by omega);have hPk0:2*2<=P*(D-1):=Nat.mul_le_mul hP.1 (by omega);obtain⟨M,hM⟩:∃M,P*(D-1)=M:=⟨_,rfl⟩;have hMi:(P:Int)*((D:Int)-1)=(M:Int):=by rw[<- hM];push_cast [show 1<=D by omega];rfl
 rw[hM]at hPk hPk0;have hr1:=tm_bd cn ((P:Int)*((D:Int)-1)) (by omega);have hr2:=tm_2 cn ((P:Int)*((D:Int)-1)) (by omega);refine J.q hX λ_=>?_;refine J.plan (.of [0,4,9,12,16,20,24,29,32,36,40,44,49,52,56,60,64,68]) [17] [2] (by rw[hX.hP];kernel_rfl) (by kernel_rfl) ?_;refine J.q hX λ_=>?_;obtain⟨w,hw,hw1⟩:∃w:Nat,1+(cn.tmod ((P:Int)*((D:Int)-1))+(P:Int)*((D:Int)-1)).tmod ((P:Int)*((D:Int)-1))=(w:Int)/\1<=w/\w<=M:=
  ⟨(1+(cn.tmod ((P:Int)*((D:Int)-1))+(P:Int)*((D:Int)-1)).tmod ((P:Int)*((D:Int)-1))).toNat,by omega,by omega⟩
 rw[hw];refine J.turn1 [] rfl (As:=[ownA 38 19 none 0 0 (cellsE [])]) (λh s=>Sep.one ⟨rfl,rfl,rfl⟩) rfl ?_;refine J.q hX λ_=>?_;refine J.lo (α:=(Nat×Option Nat×Nat)) (λz=>z.1<=w) (λz=>[⟨14, .int .i64 z.1,0, .tt⟩,⟨13,slv z.2.1 (eL 0 z.1).length z.2.2,0, .tt⟩,⟨1, .int .i64 w,0, .tt⟩,⟨2, .int .i64 mo,0, .tt⟩,⟨12, .int .i64 ((D:Int)-1),0, .tt⟩,⟨3, .pointer (some ⟨bb 0,0,none⟩),3, .tt⟩,⟨8, .pointer (some ⟨n,0,none⟩),0, .tt⟩,⟨10, .pointer (some ⟨l,0,none⟩),0, .tt⟩,⟨11, .pointer (some ⟨q,0,none⟩),0, .tt⟩]) [7] (λz=>[ownA 38 19 z.2.1 (eL 0 z.1).length z.2.2 (cellsE (eL 0 z.1))]) (λz=>w-z.1) ((0,none,0)) (Nat.zero_le _) rfl ?_ (λ_=>rfl) λz hI=>?_
 ·rfl
 obtain⟨j,ga,ca⟩:=z;dsimp only at hI ⊢;have hel:=eL_len 0 j;refine J.q hX λ_=>?_;refine J.cond rfl (λh2=>?_) (λh2=>?_)
 ·simp only[decide_eq_true_eq,Int.ofNat_lt]at h2;have hsu:eL 0 (j+1)=eL 0 j++[e18 j ((j:Int)+1)]:=by rw[eL_succ,Int.zero_add]
  refine J.q hX λ_=>?_;refine J.cb hX (l18_entry j (j+1)) [] ?_;refine cpq ⟨_,rfl,trivial,?_⟩;refine J.q hX λ_=>?_;refine J.append hX tk 7 8 0 rfl rfl rfl rfl rfl rfl rfl rfl rfl rfl rfl rfl rfl rfl rfl rfl ?_ ?_ (λ_=>rfl) λa3 c3=>⟨_,(congrArg (λz=>lset _ 7 (ownA _ _ _ _ _ z)) (cellsE_snoc (eL 0 j) (e18 j (j+1)))).trans rfl,trivial,?_⟩
  ·simp only[maxLen];omega
  ·omega
  rw[<- hsu,show(eL 0 j).length+1=(eL 0 (j+1)).length from by rw[hsu];simp];refine J.q hX λ_=>?_;refine J.nS ((j+1,a3,c3)) (by dsimp only;omega) (by dsimp only;omega) [0,1,2,3,4,5,6,7] rfl rfl
 simp only[decide_eq_false_iff_not,Int.ofNat_lt]at h2;obtain rfl:j=w:=by omega
 refine J.know (λh' s=>own_some (c:=(ga,ca)) (by omega) (s.get (i:=7) rfl)) λhg=>?_;obtain⟨g,rfl⟩:=hg;refine J.know (p:=(eL 0 j).length<=ca) (λh' s=>by
  have h1:ownP 38 19 (some g) (eL 0 j).length ca (cellsE (eL 0 j)) _:=s.get (i:=7) rfl;obtain⟨_,_,_,h2,_⟩:=h1;exact h2) λhcap=>?_
 have hO0:(Dv.new D B P 500).Ok (1280*60+(Dv.costC+0)) 0:=Dv.Ok.new D B P 500 hgm _ (by decide);have hs0:SqC D B P j 0 0 (Dv.new D B P 500):=⟨SeqI.new D B P 500,by omega, .inl rfl,rfl,⟨rfl,λi e he=>by cases he⟩,λ_ h=>by omega,by rw[rows_new2];omega,rfl⟩;refine J.q hX λ_=>?_;refine J.lo (α:=(Nat×Nat×Dv)) (λz=>SqC D B P j z.1 z.2.1 z.2.2/\z.2.1<=z.1/\z.2.2.Ok (1280*(60-z.1)+(Dv.costC+0)) 0) (λz=>[⟨15, .int .i64 z.1,0, .tt⟩,⟨13, .slice (some ⟨g,0,none⟩) (eL 0 j).length ca,0, .tt⟩,⟨1, .int .i64 j,0, .tt⟩,⟨2, .int .i64 mo,0, .tt⟩,⟨12, .int .i64 ((D:Int)-1),0, .tt⟩,⟨3, .pointer (some ⟨bb 0,0,none⟩),3, .tt⟩,⟨8, .pointer (some ⟨n,0,none⟩),0, .tt⟩,⟨10, .pointer (some ⟨l,0,none⟩),0, .tt⟩,⟨11, .pointer (some ⟨q,0,none⟩),0, .tt⟩]) [3,4,5,6] (λz=>DvP q n t l z.2.2) (λz=>j-z.1) ((0,0,Dv.new D B P 500)) (⟨hs0,Nat.le_refl _,hO0⟩) rfl ?_ (λ_=>rfl) λz hI=>?_
 ·rfl
 obtain⟨i,r,S⟩:=z;dsimp only at hI ⊢;obtain⟨hS,hri,hO⟩:=hI;have hij:i<=j:=by have:=hS.ii;omega
 refine J.q hX λ_=>?_;refine J.cond rfl (λh3=>?_) (λh3=>?_)
 ·simp only[decide_eq_true_eq,Int.ofNat_lt]at h3;obtain⟨V,v1,v2,v3⟩:=hS.step (k:=1280*(60-(i+1))+(Dv.costC+0)) (hO.less (by unfold Dv.fuel;omega)) (by omega) h3;have hEd:Rd (ownA 38 19 (some g) (eL 0 j).length ca (cellsE (eL 0 j))) (some ⟨g,0+i*19,none⟩) 19 ((eL 0 j).length-i) (cellsE (eL i (j-i))):=by
   have:=Rd.drop (own_rd 38 19 (some g) (eL 0 j).length ca (cellsE (eL 0 j))) i (by omega)
   rwa [cellsE_drop,eL_drop]at this
  refine J.qn hX 7 λ_=>?_;refine J.val hX (.slice (some ⟨g,0+i*19,none⟩) ((eL 0 j).length-i) (ca-i)) 0 rfl rfl (λhg aa w he hw=>cutlo_run tk rfl rfl rfl he rfl rfl rfl rfl rfl (by omega) (by omega)) rfl trivial ?_;refine J.q hX λ_=>?_;refine J.ca hX (by kernel_rfl) (pn_Write q n t l S (1280*(60-(i+1))+(Dv.costC+0)) 0 (hO.less (by unfold Dv.fuel;omega)) (ownA 38 19 (some g) (eL 0 j).length ca (cellsE (eL 0 j))) (some ⟨g,0+i*19,none⟩) ((eL 0 j).length-i) (ca-i) (eL i (j-i)) hEd (by rw[eL_len];omega) (by omega) (eL_data _ _)) [3,4,5,6,7] 0 rfl rfl rfl rfl rfl rfl (λ_=>rfl) ?_;refine cpq ⟨_,rfl,trivial,?_⟩;rw[v1];dsimp only;obtain⟨κ,hκ⟩:∃κ,min (D-1) (j-i)=κ:=⟨_,rfl⟩;rw[hκ]at v2 ⊢;have hκ2:(if(j:Int)-i<(D:Int)-1 then(j:Int)-i else(D:Int)-1)=(κ:Int):=by split<;>omega
  refine J.qn hX 19 λ_=>?_;rw[hκ2,ne_selfI (κ:Int)];refine J.q hX λ_=>?_;refine J.cF ?_;refine J.q hX λ_=>?_;refine J.nS ((i+κ,r+1,V)) (⟨v2,by dsimp only;omega,v3.less (by dsimp only;omega)⟩) (by dsimp only;omega) [0,1,2,3,4,5,6,7] rfl rfl
 simp only[decide_eq_false_iff_not,Int.ofNat_lt]at h3;obtain rfl:i=j:=by omega
 obtain⟨V,v1,v2,v3,v4,v5,v6,v7⟩:=hS.carry (k:=0) (m:=0) (hO.less (by
  have:Dv.cost*i<=Dv.costC:=Nat.mul_le_mul_left _ (by omega);omega)) ⟨hw1.1,by omega⟩ mo
 refine J.q hX λ_=>?_;refine J.cb hX (sw_Carry n t l q S 0 0 (hO.less (by omega)) 0 mo) [3,4,5,6] ?_;refine cpq ⟨_,rfl,trivial,?_⟩;rw[v1];dsimp only;obtain⟨c,hc⟩:∃c,min (max mo 0).toNat i=c:=⟨_,rfl⟩;rw[hc]at v1 v6 v7 ⊢;have hc2:(if(if(i:Int)<mo then(i:Int)else mo)>0 then(if(i:Int)<mo then(i:Int)else mo)else 0)=(c:Int):=by
  by_cases z1:(i:Int)<mo
  ·rw[if_pos z1];split<;>omega
  ·rw[if_neg z1];split<;>omega
 refine J.qn hX 18 λ_=>?_;rw[hc2,ne_selfI (c:Int)];refine J.q hX λ_=>?_;refine J.cF ?_;refine J.q hX λbm=>?_;refine J.turn1 [8] rfl (As:=[mapA (bm 0) kI (wM (wI 0))]) (λh s=>?_) rfl ?_
 ·refine⟨λ_=>0,λi A hA=>?_⟩;cases i with
  | zero=>simp at hA;subst hA;exact⟨#[],0,res_some.2 ⟨rfl,s.get (i:=0) rfl⟩,rfl,by simp,by simp⟩
  | succ k=>simp at hA
 have hO3:=v3;refine J.q hX λ_=>?_;refine J.lo (α:=Nat) (λu=>u<=i) (λu=>[⟨21, .int .i64 u,0, .tt⟩,⟨20, .map (some (bm 0)),9, .tt⟩,⟨18, .int .i64 c,0, .tt⟩,⟨13, .slice (some ⟨g,0,none⟩) (eL 0 i).length ca,0, .tt⟩,⟨1, .int .i64 i,0, .tt⟩,⟨12, .int .i64 ((D:Int)-1),0, .tt⟩,⟨3, .pointer (some ⟨bb 0,0,none⟩),3, .tt⟩,⟨8, .pointer (some ⟨n,0,none⟩),0, .tt⟩,⟨10, .pointer (some ⟨l,0,none⟩),0, .tt⟩]) [8] (λu=>[mapA (bm 0) kI (wM (wI u))]) (λu=>i-u) (0) (Nat.zero_le _) rfl ?_ (λ_=>rfl) λu hI=>?_
 ·rfl
 refine J.q hX λ_=>?_;refine J.cond rfl (λh4=>?_) (λh4=>?_)
 ·simp only[decide_eq_true_eq,Int.ofNat_lt]at h4;have hget:(eL 0 i)[u]? =some (e18 u ((u:Int)+1)):=by
   rw[List.getElem?_eq_getElem (by omega)];have:=eL_get 0 (j:=i) (i:=u) h4;rw[List.getD_eq_getElem?_getD,List.getElem?_eq_getElem (by omega),Option.getD_some]at this;rw[this,Int.zero_add]
  refine J.q hX λ_=>?_;refine J.val hX (enV (e18 u ((u:Int)+1))) 0 rfl rfl (λhg aa w he hw=>ownN_run tk rfl rfl he rfl rfl rfl (hw.get (i:=7) rfl) (by rw[show 0+(u:Int).toNat*19=u*19 from by omega];exact cellsE_get hget) rfl) rfl trivial ?_;refine J.q hX λ_=>?_;refine J.mapUpdate hX keyI umapE (u:Int) 8 rfl rfl rfl rfl rfl rfl rfl rfl rfl rfl rfl rfl (λ_=>rfl) (by rw[aput_wM];rfl) ⟨trivial,?_⟩;rw[wI_put];refine J.q hX λ_=>?_;refine J.cb hX (tb_Get l V.T u) [6] ?_;refine cpq ⟨_,rfl,trivial,?_⟩;obtain⟨a,ha,hcs⟩:∃a,Tb.look V.T.at_ (u:Int)=some a/\((c<=u/\a=⟨0,((u/(D-1):Nat):Int),((u % (D-1):Nat):Int),L.all D,(u:Int)+1,1⟩)\/(u<c/\(a.block≠0\/(r:Int)<=a.row)/\u/(D-1)<r)):=by
   rcases Nat.lt_or_ge u c with z | z
   ·obtain⟨a,a1,a2,a3⟩:=v7 u z;exact⟨a,a1, .inr ⟨z,a2,a3⟩⟩
   ·exact⟨_,v6 u h4 z, .inl ⟨z,rfl⟩⟩
  rw[ha,Option.getD_some,Option.isSome_some];have hk1:(((D-1:Nat)):Int)=(D:Int)-1:=by omega
  have hquo:((i:Int)+((D:Int)-1)-1).tdiv ((D:Int)-1)=(r:Int):=by
   rw[<- hk1,show(i:Int)+((D-1:Nat):Int)-1=((i+(D-1)-1:Nat):Int)from by omega,Int.tdiv_eq_ediv_of_nonneg (by omega),<- Int.natCast_ediv,<- v5]
  have hq:(u:Int).tdiv ((D:Int)-1)=((u/(D-1):Nat):Int):=by
   rw[<- hk1,Int.tdiv_eq_ediv_of_nonneg (by omega),<- Int.natCast_ediv]
  have hm:(u:Int).tmod ((D:Int)-1)=((u % (D-1):Nat):Int):=by
   rw[<- hk1,Int.tmod_eq_emod_of_nonneg (by omega),<- Int.natCast_emod]
  have hle:u/(D-1)<=u:=Nat.div_le_self _ _;have hlm:u % (D-1)<=u:=Nat.mod_le _ _;obtain⟨qu,hqu⟩:∃x,u/(D-1)=x:=⟨_,rfl⟩;obtain⟨ru,hru⟩:∃x,u % (D-1)=x:=⟨_,rfl⟩;rw[hqu]at hq hle hcs;rw[hru]at hm hlm hcs;refine J.q hX λ_=>?_;rw[hquo];refine J.q hX λ_=>?_;refine J.plan (.of [0,4,8,12,16,20,24,30,35]) [8] [] (by rw[hX.hP];kernel_rfl) (by kernel_rfl) ?_;refine J.q hX λ_=>?_;rw[hq,hm];rcases hcs with⟨z,rfl⟩ | ⟨z,z2,z3⟩
  ·refine J.q hX λ_=>?_;refine J.val hX (.bool true) 0 rfl rfl (λhg aa w he hw=>(eqAgg_run (xs:=plL 0 qu ru) (ys:=plL 0 qu ru) rfl rfl rfl he rfl rfl leavesPc (fitsPc _ _ _) (fitsPc _ _ _) mkPc gdPc).trans (by rw[eqPc];simp)) rfl trivial ?_;refine J.qn hX 4 λ_=>?_;rw[decide_eq_false (show¬(u:Int)<(c:Int)by omega)];refine J.q hX λ_=>?_;refine J.val hX (.bool false) 0 rfl rfl (λhg aa w he hw=>(neAgg_run (xs:=plL 0 qu ru) (ys:=plL 0 qu ru) rfl rfl rfl he rfl rfl leavesPc (fitsPc _ _ _) (fitsPc _ _ _) mkPc gdPc).trans (by rw[eqPc];simp)) rfl trivial ?_;refine J.q hX λ_=>?_;refine J.cF ?_;refine J.q hX λ_=>?_;refine J.nS (u+1) (by omega) (by omega) [0,1,2,3,4,5,6,7,8] rfl rfl
  ·obtain⟨ab,ar,asl,am,aq,ao⟩:=a;dsimp only at z2;have hne:((ab==0)&&((ar==(qu:Int))&&(asl==(ru:Int))))=false:=by
    rcases z2 with y | y
    ·rw[show(ab==0)=false from by simpa using y];rfl
    ·rw[show(ar==(qu:Int))=false from by simp;omega];simp
   refine J.q hX λ_=>?_;refine J.val hX (.bool false) 0 rfl rfl (λhg aa w he hw=>(eqAgg_run (xs:=plL ab ar asl) (ys:=plL 0 qu ru) rfl rfl rfl he rfl rfl leavesPc (fitsPc _ _ _) (fitsPc _ _ _) mkPc gdPc).trans (by rw[eqPc,hne])) rfl trivial ?_;refine J.qn hX 4 λ_=>?_;rw[decide_eq_true (show(u:Int)<(c:Int)by omega)]
   by_cases hab:ab=0
   ·subst hab;have har:(r:Int)<=ar:=by rcases z2 with y | y;(· exact absurd rfl y);exact y
    refine J.q hX λ_=>?_;refine J.val hX (.bool true) 0 rfl rfl (λhg aa w he hw=>(neAgg_run (xs:=plL 0 ar asl) (ys:=plL 0 qu ru) rfl rfl rfl he rfl rfl leavesPc (fitsPc _ _ _) (fitsPc _ _ _) mkPc gdPc).trans (by rw[eqPc,hne];rfl)) rfl trivial ?_;refine J.qn hX 8 λ_=>?_;rw[decide_eq_false (show¬ar<(r:Int)by omega)];refine J.q hX λ_=>?_;refine J.cF ?_;refine J.q hX λ_=>?_;refine J.nS (u+1) (by omega) (by omega) [0,1,2,3,4,5,6,7,8] rfl rfl
   ·refine J.qn hX 8 λ_=>?_;rw[show((⟨ab,ar,asl,am,aq,ao⟩:AtV).block==0)=false from by simpa using hab];refine J.q hX λ_=>?_;refine J.val hX (.bool false) 0 rfl rfl (λhg aa w he hw=>absurd hg (by simp[G.on])) rfl trivial ?_;refine J.q hX λ_=>?_;refine J.cF ?_;refine J.q hX λ_=>?_;refine J.nS (u+1) (by omega) (by omega) [0,1,2,3,4,5,6,7,8] rfl rfl
 simp only[decide_eq_false_iff_not,Int.ofNat_lt]at h4;obtain rfl:u=i:=by omega
 refine J.q hX λ_=>?_;refine J.cb hX (l18_stands n l (bm 0) V.N v3.gd.ok v3.gd.room v4.lit.off V.T (wI u) (v2.sts v3.T)) [4,6,8] ?_;refine cpq ⟨_,rfl,trivial,?_⟩;refine J.q hX λ_=>?_;exact J.ru hX [1] ⟨rfl,rfl⟩
end Go.Proofs.YtdocmcapegcoeaaGreat
