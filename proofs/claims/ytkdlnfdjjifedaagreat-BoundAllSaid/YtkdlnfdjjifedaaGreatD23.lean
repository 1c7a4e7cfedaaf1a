/- Helpers, proved here. No condition. -/
import Derived.Test.YtkdlnfdjjifedaaGreatD02
import Derived.Test.YtkdlnfdjjifedaaGreatD05
import Derived.Test.YtkdlnfdjjifedaaGreatD06
import Derived.Test.YtkdlnfdjjifedaaGreatD12
import Derived.Test.YtkdlnfdjjifedaaGreatD13
import Derived.Test.YtkdlnfdjjifedaaGreatD14
import Derived.Test.YtkdlnfdjjifedaaGreatD15
import Derived.Test.YtkdlnfdjjifedaaGreatD16
import Derived.Test.YtkdlnfdjjifedaaGreatD17
import Derived.Test.YtkdlnfdjjifedaaGreatD18
import Derived.Test.YtkdlnfdjjifedaaGreatD19
import Derived.Test.YtkdlnfdjjifedaaGreatD21
import Derived.Test.YtkdlnfdjjifedaaGreatD22
import Derived.Test.YtkdlnfdjjifedaaGreatRows
import Derived.ProofKit
import Derived.OpenShut
import Derived.ChangeOld
import Derived.Below
import Derived.Deep.Slices
import Derived.Deep.Strs
import Derived.Lib.SmallJoins
set_option maxRecDepth 20000
set_option linter.all false
namespace Go.Proofs.YtkdlnfdjjifedaaGreat
open Go Go.RowKit
namespace B11
def N0:Nand:=Nand.new 3 8 2
def N1:Nand:=(R.write N0 1 0 7 [B9.e,B9.pad]).1
def N2:Nand:=(N1.fault 4 0 0 0 0 0).2
def fn:Fnd:=⟨B9.e,1,0,0,7,true,true⟩
theorem G0:N0.Gd 100 0:=Nand.Gd.new 3 8 2 rfl 100 (by decide)
theorem G1:N1.Gd 92 0:=write_Gd (by decide) G0
theorem G2:N2.Gd 92 0:=G1.fault0 4 0 0 0 0 0 (by decide)
theorem h_w:(R.write N0 1 0 7 [B9.e,B9.pad]).2=(0,0):=by kernel_rfl
theorem h_l1:(M.look N1 0 1 0).2=1:=by kernel_rfl
theorem h_l2:(M.look N1 0 1 0).1.lpn=3:=by kernel_rfl
theorem h_l3:(M.look N1 0 2 0).2=2:=by kernel_rfl
theorem h_r:R.read N2 1 0 0 7=(B9.e,0):=by kernel_rfl
theorem h_a:R.all N2 1 0=[fn]:=by kernel_rfl
theorem h_m:M.masks N2 1 0=[7]:=by kernel_rfl
end B11
open B11
theorem l11_begun:Fn Tryz.prog 271 [] [] (λv As=>v= .bool true/\As=[]):=by
 refine Fn.enter [] Tryz.func271 rfl rfl rfl λX F hX=>?_;refine J.q hX λb1=>?_;refine J.cb hX (n_New 3 8 2 rfl) [] ?_;rintro v As ⟨q,rfl,rfl⟩;refine⟨_,rfl,trivial,?_⟩;refine J.q hX λ_=>?_;refine J.cF ?_;refine J.q hX λb1=>?_;refine J.ca hX (by kernel_rfl) (r_Write q N0 (.pt (b1 (0+1)) 133 (cellsE [B9.e,B9.pad])) 1 0 7 (some ⟨b1 (0+1),0,none⟩) 2 2 0 [B9.e,B9.pad] (pt_rd _ _ _ _ _ rfl) rfl (by decide) (G0.less (by decide) (Nat.le_refl _))) [1,3] 0 rfl rfl rfl rfl rfl rfl (λ_=>rfl) ?_;refine cpq ⟨_,rfl,trivial,?_⟩;rw[h_w];refine J.q hX λ_=>?_;refine J.cb hX (m_Look q N1 G1.ok G1.room 0 1 0) [1] ?_;refine cpq ⟨_,rfl,trivial,?_⟩;rw[h_l1];refine J.q hX λ_=>?_;refine J.cb hX (m_Look q N1 G1.ok G1.room 0 2 0) [1] ?_;refine cpq ⟨_,rfl,trivial,?_⟩;rw[h_l3];refine J.q hX λ_=>?_;refine J.cb hX (n_Fault q N1 G1.ok 0 4 0 0 0 0 0) [1] ?_;refine cpq ⟨_,rfl,trivial,?_⟩;refine J.q hX λ_=>?_;refine J.cb hX (r_Read q N2 G2.ok G2.room 1 0 0 7 (by decide) (by decide)) [1] ?_;refine cpq ⟨_,rfl,trivial,?_⟩;rw[h_r];refine J.q hX λ_=>?_;refine J.cb hX (r_All q N2 G2.ok G2.room 1 0) [1] ?_;rintro v As ⟨a,c,rfl,rfl⟩;refine⟨_,rfl,trivial,?_⟩;rw[h_a];refine J.know (λh' s=>own_some (c:=(a,c)) (by decide) (s.get (i:=7) rfl)) λhg=>?_;obtain⟨ga,rfl⟩:=hg;refine J.q hX λ_=>?_;refine J.cb hX (l7_Begun) [] ?_;refine cpq ⟨_,rfl,trivial,?_⟩;refine J.q hX λ_=>?_;refine J.cb hX (l9_Begun) [] ?_;refine cpq ⟨_,rfl,trivial,?_⟩;refine J.q hX λ_=>?_;rw[h_l2];refine J.val hX (.bool true) 0 rfl rfl (λhg x w he hw=>(eqAgg_run (xs:=enL B9.e) (ys:=enL B9.e) rfl rfl rfl he hg rfl leavesEn (fitsEn _) (fitsEn _) mkEn gdEn).trans (by rw[(eqEn _ _ rfl rfl).2 rfl])) rfl trivial ?_;refine J.q hX λ_=>?_;refine J.val hX (.bool true) 0 rfl rfl (λhg x w he hw=>own1_run tk rfl rfl he hg rfl rfl (hw.get (i:=7) rfl) rfl) rfl trivial ?_;refine J.q hX λ_=>?_;refine J.val hX (.bool true) 0 rfl rfl (λhg x w he hw=>own1_run tk rfl rfl he hg rfl rfl (hw.get (i:=7) rfl) rfl) rfl trivial ?_;refine J.q hX λ_=>?_;refine J.val hX (.int .i64 7) 0 rfl rfl (λhg x w he hw=>own1_run tk rfl rfl he hg rfl rfl (hw.get (i:=7) rfl) rfl) rfl trivial ?_;refine J.q hX λ_=>?_;refine J.cb hX (m_Masks q N2 G2.ok G2.room 1 0) [1] ?_;rintro v As ⟨a2,c2,rfl,rfl⟩;refine⟨_,rfl,trivial,?_⟩;rw[h_m];refine J.q hX λ_=>?_;exact J.ru hX [] ⟨rfl,rfl⟩
end Go.Proofs.YtkdlnfdjjifedaaGreat
namespace Go.Proofs.YtkdlnfdjjifedaaGreat
open Go Go.RowKit
namespace B13
def e1:En:={En.zero with lpn:=4,seq:=7,role:=1}
def e2:En:={En.zero with lpn:=4,seq:=6,role:=1}
def e3:En:={En.zero with lpn:=10,seq:=9,role:=1}
def T0:Tb:=⟨10,[],[],1⟩
def T1:Tb:=⟨10,[(4,⟨2,1,0,7,7,1⟩)],[(2,1)],8⟩
def t0:Tl:=Tl.new 3 8 2
def t1:Tl:=⟨3,8,2,⟨3,0,false,false⟩::List.replicate 7 Sb.zero,0⟩
def t2:Tl:=⟨3,8,2,[⟨3,0,false,false⟩,Sb.zero,⟨0,2,false,false⟩,Sb.zero,Sb.zero,Sb.zero,Sb.zero,Sb.zero],0⟩
theorem h0:Tb.new 10=T0:=by kernel_rfl
theorem h1:Tb.put T0 e1 2 1 0 7=T1:=by kernel_rfl
theorem h2:Tb.put T1 e2 0 0 0 7=T1:=by kernel_rfl
theorem h3:Tb.put T1 e3 0 0 0 7=T1:=by kernel_rfl
theorem p1:Tb.putB T0 e1=true:=by kernel_rfl
theorem p2:Tb.putB T1 e2=false:=by kernel_rfl
theorem p3:Tb.putB T1 e3=false:=by kernel_rfl
theorem w1:t0.wore 0 3=t1:=by kernel_rfl
theorem w2:t1.bad 1 2=t2:=by kernel_rfl
theorem c0 (k:Int):0<=T0.count k/\T0.count k<=1000000:=by
 have:T0.count k=0:=rfl;rw[this];omega
theorem c1 (k:Int):0<=T1.count k/\T1.count k<=1000000:=by
 have:T1.count k=(if k=2 then some (1:Int)else none).getD 0:=rfl;rw[this];split<;>simp
theorem o1:pkLeast (λx y=>cmpI (t2.wear x) (t2.wear y)) (pkSome (pkFree t2 T1) (-1) t2.b)=1:=by kernel_rfl
theorem o2:pkLeast (λx y=>orI [cmpI (T1.count x) (T1.count y),cmpI (t2.wear x) (t2.wear y)]) (pkSome (pkUsed t2 T1) (-1) t2.b)=2:=by kernel_rfl
theorem o3:(pkSome (pkFree t2 T1) (-1) t2.b).length=7:=by kernel_rfl
theorem o4:pkSome (pkSpent t2 T1) (-1) t2.b=[]:=by kernel_rfl
theorem o5:pkSome (pkHurt t2 T1) (-1) t2.b=[2]:=by kernel_rfl
theorem o6:T1.ins 2=[4]:=by kernel_rfl
theorem o7:t2.mask 2=5:=by kernel_rfl
theorem o8:t2.usable 2=true:=by kernel_rfl
theorem o9:t2.alive=7:=by kernel_rfl
theorem o10:t2.wear 0=3:=by kernel_rfl
theorem o11:t2.blank 3=true:=by kernel_rfl
theorem o12:T1.count 2=1:=by kernel_rfl
end B13
theorem l13_begun:Fn Tryz.prog 272 [] [] (λv As=>v= .bool true/\As=[]):=by
 refine Fn.enter [] Tryz.func272 rfl rfl rfl λX F hX=>?_;refine J.q hX λ_=>?_;refine J.cb hX (tb_New 10) [] ?_;rintro v As ⟨r,rfl,rfl⟩;refine⟨_,rfl,trivial,?_⟩;rw[B13.h0];refine J.q hX λ_=>?_;refine J.cb hX (tl_New 3 8 2 rfl) [] ?_;rintro v As ⟨q,rfl,rfl⟩;refine⟨_,rfl,trivial,?_⟩;rw[show Tl.new 3 8 2=B13.t0 from rfl];refine J.q hX λ_=>?_;refine J.cb hX (tl_NewZ) [] ?_;refine cpq ⟨_,rfl,trivial,?_⟩;refine J.q hX λ_=>?_;refine J.cF ?_;refine J.q hX λ_=>?_;refine J.cb hX (tb_Put r B13.T0 B13.e1 2 1 0 7 (by decide) B13.c0) [1] ?_;refine cpq ⟨_,rfl,trivial,?_⟩;rw[B13.h1,B13.p1];refine J.q hX λ_=>?_;refine J.cb hX (tb_Put r B13.T1 B13.e2 0 0 0 7 (by decide) B13.c1) [1] ?_;refine cpq ⟨_,rfl,trivial,?_⟩;rw[B13.h2,B13.p2];refine J.q hX λ_=>?_;refine J.cb hX (tb_Put r B13.T1 B13.e3 0 0 0 7 (by decide) B13.c1) [1] ?_;refine cpq ⟨_,rfl,trivial,?_⟩;rw[B13.h3,B13.p3];refine J.q hX λ_=>?_;refine J.cb hX (tb_Get r B13.T1 4) [1] ?_;refine cpq ⟨_,rfl,trivial,?_⟩;rw[show Tb.look B13.T1.at_ 4=some ⟨2,1,0,7,7,1⟩from rfl,Option.getD_some,Option.isSome_some];refine J.q hX λ_=>?_;refine J.cb hX (tl_Wore q B13.t0 (by decide) rfl 0 3) [2] ?_;refine cpq ⟨_,rfl,trivial,?_⟩;rw[B13.w1];refine J.q hX λ_=>?_;refine J.cb hX (tl_Bad q B13.t1 (by decide) rfl 1 2) [2] ?_;refine cpq ⟨_,rfl,trivial,?_⟩;rw[B13.w2];refine J.q hX λ_=>?_;refine J.cb hX (l7_Begun) [] ?_;refine cpq ⟨_,rfl,trivial,?_⟩;refine J.q hX λ_=>?_;refine J.cb hX (l9_Begun) [] ?_;refine cpq ⟨_,rfl,trivial,?_⟩;refine J.q hX λ_=>?_;refine J.cb hX (tb_Len r B13.T1) [1] ?_;refine cpq ⟨_,rfl,trivial,?_⟩;refine J.q hX λ_=>?_;refine J.cb hX (tb_Count r B13.T1 2) [1] ?_;refine cpq ⟨_,rfl,trivial,?_⟩;rw[B13.o12];refine J.q hX λ_=>?_;refine J.cb hX (tb_In r B13.T1 10 rfl (by decide) 2) [1] ?_;rintro v As ⟨a1,c1,rfl,rfl⟩;refine⟨_,rfl,trivial,?_⟩;rw[B13.o6];refine J.q hX λ_=>?_;refine J.cb hX (tb_Next r B13.T1) [1] ?_;refine cpq ⟨_,rfl,trivial,?_⟩;refine J.q hX λ_=>?_;refine J.cb hX (tl_Wear q B13.t2 (by decide) rfl 0) [2] ?_;refine cpq ⟨_,rfl,trivial,?_⟩;rw[B13.o10];refine J.q hX λ_=>?_;refine J.cb hX (tl_Mask q B13.t2 (by decide) rfl 2) [2] ?_;refine cpq ⟨_,rfl,trivial,?_⟩;rw[B13.o7];refine J.q hX λ_=>?_;refine J.cb hX (tl_Usable q B13.t2 (by decide) rfl 2) [2] ?_;refine cpq ⟨_,rfl,trivial,?_⟩;rw[B13.o8];refine J.q hX λ_=>?_;refine J.cb hX (tl_Alive q B13.t2) [2] ?_;refine cpq ⟨_,rfl,trivial,?_⟩;rw[B13.o9];refine J.q hX λ_=>?_;refine J.cb hX (p_Open q B13.t2 (by decide) rfl r B13.T1 (-1)) [2,1] ?_;refine cpq ⟨_,rfl,trivial,?_⟩;rw[B13.o1];refine J.q hX λ_=>?_;refine J.cb hX (p_Victim q B13.t2 (by decide) rfl r B13.T1 (-1)) [2,1] ?_;refine cpq ⟨_,rfl,trivial,?_⟩;rw[B13.o2];refine J.q hX λ_=>?_;refine J.cb hX (p_Free q B13.t2 (by decide) rfl r B13.T1 (-1)) [2,1] ?_;refine cpq ⟨_,rfl,trivial,?_⟩;rw[B13.o3];refine J.q hX λ_=>?_;refine J.cb hX (p_Spent q B13.t2 (by decide) rfl r B13.T1 (-1)) [2,1] ?_;rintro v As ⟨a2,c2,rfl,rfl⟩;refine⟨_,rfl,trivial,?_⟩;rw[B13.o4];refine J.q hX λ_=>?_;refine J.cb hX (p_Hurt q B13.t2 (by decide) rfl r B13.T1 10 rfl (by decide)) [2,1] ?_;rintro v As ⟨a3,c3,rfl,rfl⟩;refine⟨_,rfl,trivial,?_⟩;rw[B13.o5];refine J.q hX λ_=>?_;refine J.cb hX (tl_Blank q B13.t2 (by decide) rfl 3) [2] ?_;refine cpq ⟨_,rfl,trivial,?_⟩;rw[B13.o11];refine J.q hX λ_=>?_;exact J.ru hX [] ⟨rfl,rfl⟩
theorem l13_Begun:Fn Tryz.prog 248 [] [] (λv As=>v= .bool true/\As=[]):=by
 refine Fn.enter [] Tryz.func248 rfl rfl rfl λX F hX=>?_;refine J.q hX λ_=>?_;refine J.cb hX (l13_begun) [] ?_;refine cpq ⟨_,rfl,trivial,?_⟩;refine J.q hX λ_=>?_;exact J.ru hX [] ⟨rfl,rfl⟩
section
variable {X : Cx} {P : Program} {K : List KI} {E : Env} {L : List Atom} {N : Nat} {F : HP} {Post : Value → List Atom → Prop} {rs : List ResultVar} {T : Tab}
theorem append_none_run (hT:TabOK P T) {o:Oper} {x y:Operand} {st e size by_ ks tgs ky tgy:Nat} {gs gy:G} {a:Option Nat} {n cap:Nat} {xs:List Value} {s1 b1:Nat} {z1:List Value} {ac:Act} {w:World} {NN:Nat}
  (hop:o.op= .call ⟨.builtin .append,#[x,y],#[st,st]⟩) (hx:ev E x=some ⟨ks,slv a n cap,tgs,gs⟩) (hvx:gs.on=true) (hy:ev E y=some ⟨ky, .slice none 0 0,tgy,gy⟩) (hvy:gy.on=true) (hen:EnvOK NN E ac)
  (hst:T.get st=some ⟨.slice e size,s1,z1,b1⟩) {td:TD} {z:List Value} (he:T.get e=some ⟨td,size,z,by_⟩) (hown:ownP e size a n cap xs (hl w)):
  (execOp ac.eval o).run P w= .ok (.value (slv a n cap)) w:=by
 obtain⟨d,f,zv,ok⟩:=tiOf_spec (hT.get hst);obtain⟨fe,rfl,g1,g2⟩:=ok.slice rfl;obtain⟨d',f',zv',ok'⟩:=tiOf_spec (hT.get he);have hf:fe=f':=by have:=g1.symm.trans ok'.hf;injection this
 subst hf;have ex:=ev_spec hen hx;have ey:=ev_spec hen hy;simp only[Slot.val,hvx,hvy]at ex ey;have hr:=run_append_owned_none (P:=P) w 0 st o.type e fe size ok.hd ok'.hf _ n xs (ownP_row hown);simp only[execOp,hop,resolve,Sem.run_bind,Sem.run_pure,Result.andThen_ok,invoke,builtin,List.map_toArray,List.map_cons,List.map_nil,ex,ey,hr]
theorem J.appendO (hX:IsCx X P rs N F Post) (hT:TabOK P T) {ops:Array Oper} {C:Cl} {lt:Bool} {i:Nat} {t:PT} {o:Oper} {x y:Operand} {st e size by_:Nat} {ks tgs:Nat} {gs:G} {a:Option Nat} {n cap:Nat} {xs:List Value} {ky tgy:Nat} {gy:G} {ay:Option Nat} {m cy:Nat} {cs:List Value} {s1 b1:Nat} {z1:List Value} {E':Value->Env} (is iy:Nat)
  (ho:lget ops.toList i=some o) (hg:gd ops.toList E o=some .tt) (hop:o.op= .call ⟨.builtin .append,#[x,y],#[st,st]⟩)
  (hx:ev E x=some ⟨ks,slv a n cap,tgs,gs⟩) (hvx:gs.on=true) (hy:ev E y=some ⟨ky,slv ay m cy,tgy,gy⟩) (hvy:gy.on=true)
  (hLs:lget L is=some (ownA e size a n cap xs)) (hLy:lget L iy=some (ownA e size ay m cy cs)) (hst:T.get st=some ⟨.slice e size,s1,z1,b1⟩) {td:TD} {z:List Value} (he:T.get e=some ⟨td,size,z,by_⟩) (hz:Nat.beq z.length size=true)
  (hsz:Nat.blt 0 size=true) (h1:∀u∈cs,u.oneCell'=true) (h63:n+m<=maxLen) (hbytes:(n+m)*by_<=140737488355328)
  (hd:∀v,putE N o.dst v 0 .tt E=some (E' v))
  (hJ:∀a' cap',∃L',lset L is (ownA e size a' (n+m) cap' (xs++cs))=some L'/\Conj (staysL lt C L')/\J X (.reg ops C t::K) (E' (slv a' (n+m) cap')) L'):J X (.reg ops C (.alt lt i t .non)::K) E L:=by
 cases ay with
 | some b=>exact J.appendR hX hT (oo:=0) is iy 0 ho hg rfl hop hx hvx hy hvy hLs hLy (own_rd _ _ (some b) _ _ _) hst he hz hsz h1 h63 hbytes hd hJ
 | none=>
  rw[lget_eq]at hLs hLy;refine J.know (p:=cs.length=m*size/\m=0/\cy=0) (λh s=>(show ownP e size none m cy cs h from s.get hLy)) λhk=>?_;obtain⟨q1,rfl,rfl⟩:=hk;have hcs:cs=[]:=List.eq_nil_of_length_eq_zero (by rw[q1,Nat.zero_mul]);subst hcs;obtain⟨L',e1,e2,e3⟩:=hJ a cap;rw[Nat.add_zero,List.append_nil]at e1;rw[Nat.add_zero]at e3;have hL:L'=L:=by
   rw[lset_eq e1];apply List.ext_getElem?;intro j;rw[List.getElem?_set];split
   ·rename_i e;subst e;split
    ·exact hLs.symm
    ·rename_i e4;rw[List.getElem?_eq_none (by omega)]
   ·rfl
  subst hL;exact J.val hX (slv a n cap) 0 ho hg (λ_ ac w hen hs=>append_none_run hT hop hx hvx hy hvy hen hst he (show ownP e size a n cap xs (hl w)from hs.get hLs)) (hd _) e2 e3
end
def FOk (m:Nat) (L:List Fnd) (Z:List FSlot):Prop:=Z.map (·.l)=(List.range m).map λk:Nat=>V.of L (k:Int)
theorem FOk.len {m:Nat} {L:List Fnd} {Z:List FSlot} (h:FOk m L Z):Z.length=m:=by have:=congrArg List.length h;simpa using this
theorem FOk.get {m:Nat} {L:List Fnd} {Z:List FSlot} (h:FOk m L Z) {k:Nat} (hk:k<m):∃z,Z[k]? =some z/\z.l=V.of L (k:Int):=by
 have hl:=h.len;refine⟨Z[k],List.getElem?_eq_getElem (by omega),?_⟩;have:=congrArg (λl=>l[k]?) h;simp only[List.getElem?_map,List.getElem?_range hk,List.getElem?_eq_getElem (show k<Z.length by omega),Option.map_some,Option.some.injEq]at this;exact this
theorem FOk.zero (m:Nat):FOk m [] (List.replicate m ⟨none,0,[]⟩):=by
 unfold FOk;apply List.ext_getElem?;intro i;rw[List.getElem?_map,List.getElem?_replicate,List.getElem?_map]
 by_cases h:i<m
 ·rw[if_pos h,List.getElem?_range h];simp[V.of]
 ·rw[if_neg h,List.getElem?_eq_none (by simp;omega)];rfl
theorem FOk.hit {m:Nat} {L:List Fnd} {Z:List FSlot} (h:FOk m L Z) {x:Fnd} {k:Nat} (hx:x.en.lpn=(k:Int)) {z z':FSlot} (hz:Z[k]? =some z) (hz':z'.l=z.l++[x]):FOk m (L++[x]) (Z.set k z'):=by
 have hl:=h.len;have hk:k<Z.length:=(List.getElem?_eq_some_iff.1 hz).1;have hzl:z.l=V.of L (k:Int):=by
  obtain⟨z2,h1,h2⟩:=h.get (k:=k) (by omega);rw[hz]at h1;injection h1 with h1;subst h1;exact h2
 unfold FOk;rw[List.map_set,show Z.map (·.l)=_ from h,hz',hzl];apply List.ext_getElem?;intro i;rw[List.getElem?_set,List.getElem?_map,List.getElem?_map]
 by_cases e:k=i
 ·subst e;rw[if_pos rfl,if_pos (by simp;omega),List.getElem?_range (by omega),Option.map_some,V.of_snoc,if_pos hx]
 ·rw[if_neg e]
  by_cases h2:i<m
  ·rw[List.getElem?_range h2,Option.map_some,Option.map_some,V.of_snoc,if_neg (by omega)]
  ·rw[List.getElem?_eq_none (by simp;omega)];rfl
theorem FOk.miss {m:Nat} {L:List Fnd} {Z:List FSlot} (h:FOk m L Z) {x:Fnd} (hx:(m:Int)<=x.en.lpn):FOk m (L++[x]) Z:=by
 unfold FOk;rw[show Z.map (·.l)=_ from h];apply List.map_congr_left;intro i hi;rw[List.mem_range]at hi;rw[V.of_snoc,if_neg (by omega)]
theorem FOk.le {m:Nat} {L:List Fnd} {Z:List FSlot} (h:FOk m L Z) {k:Nat} {z:FSlot} (hz:Z[k]? =some z):z.l.length<=L.length:=by
 have hl:=h.len;have hk:k<Z.length:=(List.getElem?_eq_some_iff.1 hz).1;obtain⟨z2,h1,h2⟩:=h.get (k:=k) (by omega);rw[hz]at h1;injection h1 with h1;subst h1
 rw[h2];exact V.of_len L k
theorem flatMap_le {α β:Type} (f:α->List β) (c:Nat) (l:List α) (h:∀x∈l,(f x).length<=c):(l.flatMap f).length<=c*l.length:=by
 induction l with
 | nil=>simp
 | cons x l ih=>
  rw[List.flatMap_cons,List.length_append,List.length_cons];have:=h x (List.mem_cons_self ..);have:=ih (λy hy=>h y (List.mem_cons_of_mem _ hy));rw[Nat.mul_add];omega
theorem rall_len (N:Nand) (hN:N.Ok) (b r:Int):(R.all N b r).length<=42:=by
 have hbd:=hN.bd;have:=outI_len N b r (M.masks N b r).length (by omega);unfold outI at this
 rwa [List.take_length]at this
theorem upB_len (N:Nand) (hN:N.Ok) (b:Nat) (hb:b<=16):(V.upB N b).length<=5376:=by
 have hbd:=hN.bd;unfold V.upB;have:=flatMap_le (λb:Nat=>(List.range N.pages).flatMap λr=>R.all N (b:Nat) (r:Nat)) 336 (List.range b) (λx _=>by
  have:=flatMap_le (λr:Nat=>R.all N (x:Nat) (r:Nat)) 42 (List.range N.pages) (λr _=>rall_len N hN _ _);rw[List.length_range]at this;omega)
 rw[List.length_range]at this;omega
theorem upR_len (N:Nand) (hN:N.Ok) (b r:Nat) (hb:b<=16) (hr:r<=8):(V.upR N b r).length<=5712:=by
 have h1:=upB_len N hN b hb;have:=flatMap_le (λr:Nat=>R.all N (b:Nat) (r:Nat)) 42 (List.range r) (λr _=>rall_len N hN _ _);rw[List.length_range]at this;unfold V.upR;rw[List.length_append];omega
theorem upI_len (N:Nand) (hN:N.Ok) (b r i:Nat) (hb:b<=16) (hr:r<=8):(V.upI N b r i).length<=5754:=by
 have h1:=upR_len N hN b r hb hr;have:=rall_len N hN b r;unfold V.upI;rw[List.length_append,List.length_take];omega
theorem upB_bd (N:Nand) (b:Nat):∀f∈V.upB N b,EnBd f.en:=by
 intro f h;unfold V.upB at h;rw[List.mem_flatMap]at h;obtain⟨_,_,h⟩:=h;rw[List.mem_flatMap]at h;obtain⟨_,_,h⟩:=h;exact(fnd_bd h).2.2
theorem upR_bd (N:Nand) (b r:Nat):∀f∈V.upR N b r,EnBd f.en:=by
 intro f h;unfold V.upR at h;rw[List.mem_append]at h;rcases h with h | h
 ·exact upB_bd N b f h
 ·rw[List.mem_flatMap]at h;obtain⟨_,_,h⟩:=h;exact(fnd_bd h).2.2
theorem upI_bd (N:Nand) (b r i:Nat):∀f∈V.upI N b r i,EnBd f.en:=by
 intro f h;unfold V.upI at h;rw[List.mem_append]at h;rcases h with h | h
 ·exact upR_bd N b r f h
 ·exact(fnd_bd (List.mem_of_mem_take h)).2.2
theorem Sep.ofAll {L:List Atom} {h:Hl} (hL:∀A∈L,∀h,A.sat h):Sep L h:=⟨λ_=>0,λi A hA=>hL A (List.mem_of_getElem? hA) _⟩
def svL (q:Nat) (torn:Value) (first:Int) (held:Value) (next pages:Int):List Value:=[.pointer (some ⟨q,0,none⟩),torn, .int .i64 first,held, .int .i64 next, .int .i64 pages]
def svV (q:Nat) (S:Scd) (a1:Option Nat) (c1:Nat) (a2:Option Nat) (c2:Nat):Value:= .agg (svL q (slv a1 S.torn.length c1) S.first (slv a2 S.held.length c2) S.next S.pages).toArray
def sv0 (q:Nat) (L:List Fnd):List Value:=svL q (.slice none 0 0) 0 (.slice none 0 0) (V.nextOf L) L.length
theorem flat_single {α:Type} (x:α):∀n:Nat,(List.replicate n [x]).flatten=List.replicate n x
 | 0=>rfl
 | n+1=>by rw[List.replicate_succ,List.replicate_succ,List.flatten_cons,flat_single x n];rfl
theorem hdrs_zero (m:Nat):(List.replicate m [Value.slice none 0 0]).flatten=hdrs (List.replicate m ⟨none,0,[]⟩):=by
 rw[flat_single];unfold hdrs;rw[List.map_replicate];rfl
theorem hdrs_getI {Z:List FSlot} {k:Int} {z:FSlot} (h:Z[k.toNat]? =some z):(hdrs Z)[0+k.toNat*1]? =some z.hdr:=by
 rw[show 0+k.toNat*1=k.toNat from by omega,hdrs,List.getElem?_map,h];rfl
theorem max_if (a b:Int):(if b>a then b else a)=max a b:=by split<;>omega
theorem cellsI_app (l m:List Int):cellsI l++cellsI m=cellsI (l++m):=by simp[cellsI]
theorem cellsE_app (l m:List En):cellsE l++cellsE m=cellsE (l++m):=by simp[cellsE]
theorem cellsI_one (l:List Int):∀u∈cellsI l,u.oneCell'=true:=by
 intro u hu;simp only[cellsI,List.mem_map]at hu;obtain⟨x,_,rfl⟩:=hu;rfl
theorem v_Scan (p:Nat) (N:Nand) (hN:N.Ok) (hR:N.Room) (hoff:N.off=false) (n:Int):Fn Tryz.prog 75 [.pointer (some ⟨p,0,none⟩), .int .i64 n] [NandA p N]
  (λv As=>∃q a1 c1 a2 c2,v= .tuple #[svV q (V.scan N n) a1 c1 a2 c2, .int .i64 0]/\As=[NandA p N,TbA q (V.scan N n).tb,ownA 133 19 a1 (V.scan N n).torn.length c1 (cellsE (V.scan N n).torn),ownA 3 1 a2 (V.scan N n).held.length c2 (cellsI (V.scan N n).held)]):=by
 have hbd:=hN.bd;refine Fn.enter [2,0] Tryz.func75 rfl rfl rfl λX F hX=>?_;refine J.q hX λbr=>?_;refine J.cF ?_;refine J.q hX λ_=>?_;refine J.cb hX (n_Power p N) [1] ?_;refine cpq ⟨_,rfl,trivial,?_⟩;rw[hoff];refine J.q hX λ_=>?_;refine J.cF ?_;refine J.q hX λ_=>?_;refine J.cb hX (tb_New n) [] ?_;rintro v As ⟨q,rfl,rfl⟩;refine⟨_,rfl,trivial,?_⟩;refine J.qn hX 11 λbo=>?_;rw[tb_mm];obtain⟨m,hm⟩:∃m:Nat,min (max n 0) 65536=(m:Int):=⟨(min (max n 0) 65536).toNat,by omega⟩;have hms:V.size n=m:=by unfold V.size;omega
 have hm1:m<=65536:=by omega
 rw[hm];refine J.makeMany hX tk 6 rfl rfl rfl rfl rfl rfl rfl rfl rfl rfl rfl ?_ ?_ (λ_=>rfl) (λ_=>rfl) λg=>⟨trivial,?_⟩
 ·simp only[maxLen];omega
 ·omega
 rw[hdrs_zero];refine J.q hX λbs=>?_;refine J.turn1 [] rfl (As:=[.hp (HP.of (fats (List.replicate m ⟨none,0,[]⟩)))]) (λh s=>Sep.hpOf.2 (Sep.ofAll λA hA h=>by
  unfold fats at hA;rw[List.map_replicate,List.mem_replicate]at hA;rw[hA.2];exact⟨rfl,rfl,rfl⟩)) rfl ?_
 refine J.q hX λ_=>?_;refine J.cb hX (n_Geo p N) [1] ?_;refine cpq ⟨_,rfl,trivial,?_⟩;refine J.q hX λ_=>?_;refine J.lo (α:=(Nat×List FSlot)) (λz=>z.1<=N.blocks/\FOk m (V.upB N z.1) z.2) (λz=>[⟨38, .int .i64 z.1,0, .tt⟩,⟨37, .int .i64 N.blocks,0, .tt⟩,⟨0, .pointer (some ⟨p,0,none⟩),2, .tt⟩,⟨4, .pointer (some ⟨br 0,0,none⟩),3, .tt⟩,⟨6, .pointer (some ⟨bo 0,0,none⟩),5, .tt⟩,⟨7, .pointer (some ⟨bs 0,0,none⟩),7, .tt⟩]) [4,5,7] (λz=>[.pt (bo 0) 117 (sv0 q (V.upB N z.1)), .pt g 185 (hdrs z.2), .hp (HP.of (fats z.2))]) (λz=>N.blocks-z.1) ((0,List.replicate m ⟨none,0,[]⟩)) (⟨Nat.zero_le _,FOk.zero m⟩) rfl ?_ (λ_=>rfl) λz hI=>?_
 ·rfl
 obtain⟨b,Z⟩:=z;dsimp only at hI ⊢;obtain⟨hb,hZ⟩:=hI;refine J.q hX λ_=>?_;refine J.cond rfl (λh1=>?_) (λh1=>?_)
 ·simp only[decide_eq_true_eq,Int.ofNat_lt]at h1;refine J.q hX λ_=>?_;refine J.cb hX (n_Geo p N) [1] ?_;refine cpq ⟨_,rfl,trivial,?_⟩;rw[<- V.upR_zero]at hZ;rw[<- V.upR_zero];refine J.q hX λ_=>?_;refine J.lo (α:=(Nat×List FSlot)) (λz=>z.1<=N.pages/\FOk m (V.upR N b z.1) z.2) (λz=>[⟨44, .int .i64 z.1,0, .tt⟩,⟨43, .int .i64 N.pages,0, .tt⟩,⟨8, .int .i64 b,0, .tt⟩,⟨38, .int .i64 b,0, .tt⟩,⟨37, .int .i64 N.blocks,0, .tt⟩,⟨0, .pointer (some ⟨p,0,none⟩),2, .tt⟩,⟨4, .pointer (some ⟨br 0,0,none⟩),3, .tt⟩,⟨6, .pointer (some ⟨bo 0,0,none⟩),5, .tt⟩,⟨7, .pointer (some ⟨bs 0,0,none⟩),7, .tt⟩]) [4,5,7] (λz=>[.pt (bo 0) 117 (sv0 q (V.upR N b z.1)), .pt g 185 (hdrs z.2), .hp (HP.of (fats z.2))]) (λz=>N.pages-z.1) ((0,Z)) (⟨Nat.zero_le _,hZ⟩) rfl ?_ (λ_=>rfl) λz hI=>?_
  ·rfl
  clear hZ Z;obtain⟨r,Z⟩:=z;dsimp only at hI ⊢;obtain⟨hr,hZ⟩:=hI;refine J.q hX λ_=>?_;refine J.cond rfl (λh2=>?_) (λh2=>?_)
  ·simp only[decide_eq_true_eq,Int.ofNat_lt]at h2;refine J.q hX λ_=>?_;refine J.cb hX (r_All p N hN hR b r) [1] ?_;rintro v As ⟨al,cl,rfl,rfl⟩;refine⟨_,rfl,trivial,?_⟩;rw[<- V.upI_zero]at hZ;rw[<- V.upI_zero];refine J.q hX λ_=>?_;refine J.lo (α:=(Nat×List FSlot)) (λz=>z.1<=(R.all N b r).length/\FOk m (V.upI N b r z.1) z.2) (λz=>[⟨52, .int .i64 z.1,0, .tt⟩,⟨51, .int .i64 (R.all N b r).length,0, .tt⟩,⟨50,slv al (R.all N b r).length cl,0, .tt⟩,⟨9, .int .i64 r,0, .tt⟩,⟨44, .int .i64 r,0, .tt⟩,⟨43, .int .i64 N.pages,0, .tt⟩,⟨8, .int .i64 b,0, .tt⟩,⟨38, .int .i64 b,0, .tt⟩,⟨37, .int .i64 N.blocks,0, .tt⟩,⟨0, .pointer (some ⟨p,0,none⟩),2, .tt⟩,⟨4, .pointer (some ⟨br 0,0,none⟩),3, .tt⟩,⟨6, .pointer (some ⟨bo 0,0,none⟩),5, .tt⟩,⟨7, .pointer (some ⟨bs 0,0,none⟩),7, .tt⟩]) [4,5,7] (λz=>[.pt (bo 0) 117 (sv0 q (V.upI N b r z.1)), .pt g 185 (hdrs z.2), .hp (HP.of (fats z.2))]) (λz=>(R.all N b r).length-z.1) ((0,Z)) (⟨Nat.zero_le _,hZ⟩) rfl ?_ (λ_=>rfl) λz hI=>?_
   ·rfl
   clear hZ Z;obtain⟨i,Z⟩:=z;dsimp only at hI ⊢;obtain⟨hi,hZ⟩:=hI;refine J.q hX λ_=>?_;refine J.cond rfl (λh3=>?_) (λh3=>?_)
   ·simp only[decide_eq_true_eq,Int.ofNat_lt]at h3;obtain⟨x,hx⟩:∃x,(R.all N b r)[i]? =some x:=⟨_,List.getElem?_eq_getElem h3⟩;have hup:=V.upI_succ hx;have hrl:=rall_len N hN b r;have hxb:=(fnd_bd (List.mem_of_getElem? hx)).2.2;have hul:=upI_len N hN b r i (by omega) (by omega);have hnb:=V.nextOf_bd (upI_bd N b r i);refine J.know (λh' s=>own_some (c:=(al,cl)) (by omega) (s.get (i:=8) rfl)) λhg=>?_;obtain⟨gl,rfl⟩:=hg;refine J.q hX λ_=>?_;refine J.val hX (fdV x) 0 rfl rfl (λhg a w he hs=>?_) rfl trivial ?_
    ·exact ownN_run tk rfl rfl he rfl rfl rfl (hs.get (i:=8) rfl) (by rw[show 0+(i:Int).toNat*25=i*25 from by omega];exact cellsF_get hx) rfl
    unfold EnBd at hxb;refine J.q hX λbf=>?_;have hn1:V.nextOf (V.upI N b r (i+1))=max (V.nextOf (V.upI N b r i)) (x.en.seq+1):=by rw[hup,V.nextOf_snoc]
    have hn2:((V.upI N b r i).length:Int)+1=((V.upI N b r (i+1)).length:Int):=by rw[hup,List.length_append];rfl
    rw[max_if,<- hn1,hn2];refine J.q hX λ_=>?_;refine J.plan (.of [0,4,9,12,16,20,25,28,32]) [] [6,9] (by rw[hX.hP];kernel_rfl) (by kernel_rfl) ?_;refine J.q hX λ_=>?_;refine J.cond rfl (λh4=>?_) (λh4=>?_)
    ·simp only[decide_eq_true_eq]at h4;obtain⟨z,hz,hzl⟩:=hZ.get (k:=x.en.lpn.toNat) (by omega);have hzle:=hZ.le hz;have hZl:=hZ.len;refine J.openAt 7 x.en.lpn.toNat rfl rfl (fats_get hz) rfl ?_;refine J.q hX λ_=>?_;refine J.plan (.of [0,4,8,13,16,20,25,28,32,36,41,44,48,53,56,61,65,70,74,76,83]) [19,20] [5,6,9] (by rw[hX.hP];kernel_rfl) (by kernel_rfl) ?_;refine J.qn hX 15 λ_=>?_;refine J.valT hX z.hdr 0 rfl rfl (λhg a w he hC=>load1_run tk rfl rfl he rfl rfl rfl (hC rfl _ (cget_mem (i:=5) rfl)) (hdrs_getI hz)) rfl ?_;refine J.q hX λ_=>?_;refine J.append hX tk 10 11 0 rfl rfl rfl rfl rfl rfl rfl rfl rfl rfl rfl rfl rfl rfl rfl rfl ?_ ?_ (λ_=>rfl) λa' c'=>⟨_,(congrArg (λy=>lset _ 10 (ownA _ _ _ _ _ y)) (cellsF_snoc z.l x).symm).trans rfl,⟨rfl,rfl,rfl,trivial⟩,?_⟩
     ·simp only[maxLen];omega
     ·omega
     rw[show z.l.length+1=(z.l++[x]).length from by simp];refine J.q hX λ_=>?_;have hhit:=hZ.hit (x:=x) (k:=x.en.lpn.toNat) (by omega) hz (z':=⟨a',c',z.l++[x]⟩) rfl;refine J.store1 hX tk 5 rfl rfl rfl rfl rfl rfl rfl rfl rfl rfl rfl rfl rfl ?_ (hdrs (Z.set x.en.lpn.toNat ⟨a',c',z.l++[x]⟩)) ?_ rfl (λ_=>rfl) ⟨(by first | exact trivial | (repeat' (first | exact trivial | refine⟨rfl,?_⟩))),?_⟩
     ·rw[show(hdrs Z).length=Z.length from by simp[hdrs]];omega
     ·rw[show 0+x.en.lpn.toNat*1=x.en.lpn.toNat from by omega];exact hdrs_set Z _ ⟨a',c',z.l++[x]⟩
     refine J.closeAt (A:=(FSlot.mk a' c' (z.l++[x])).atom) 7 10 x.en.lpn.toNat rfl rfl rfl ?_;rw[fats_set];refine J.q hX λ_=>?_;refine J.nS ((i+1,Z.set x.en.lpn.toNat ⟨a',c',z.l++[x]⟩)) (⟨by dsimp only;omega,by dsimp only;rw[hup];exact hhit⟩) (by dsimp only;omega) [0,1,2,3,4,5,6,7,8] rfl rfl
    ·simp only[decide_eq_false_iff_not]at h4;have hmiss:=hZ.miss (x:=x) (by omega);refine J.q hX λ_=>?_;refine J.nS ((i+1,Z)) (⟨by dsimp only;omega,by dsimp only;rw[hup];exact hmiss⟩) (by dsimp only;omega) [0,1,2,3,4,5,6,7,8] rfl rfl
   ·simp only[decide_eq_false_iff_not,Int.ofNat_lt]at h3;obtain rfl:i=(R.all N b r).length:=by omega
    rw[<- V.upR_succ]at hZ;rw[<- V.upR_succ];refine J.q hX λ_=>?_;refine J.nS ((r+1,Z)) (⟨by dsimp only;omega,hZ⟩) (by dsimp only;omega) [0,1,2,3,4,5,6,7] rfl rfl
  ·simp only[decide_eq_false_iff_not,Int.ofNat_lt]at h2;obtain rfl:r=N.pages:=by omega
   rw[<- V.upB_succ]at hZ;rw[<- V.upB_succ];refine J.q hX λ_=>?_;refine J.nS ((b+1,Z)) (⟨by dsimp only;omega,hZ⟩) (by dsimp only;omega) [0,1,2,3,4,5,6,7] rfl rfl
 simp only[decide_eq_false_iff_not,Int.ofNat_lt]at h1;obtain rfl:b=N.blocks:=by omega
 rw[V.upB_all]at hZ;rw[V.upB_all];have hZl:=hZ.len;have hLb:∀f∈V.all N,EnBd f.en:=λf hf=>(all_bd hf).2;have hLl:=all_len N hN;subst hZl;refine J.q hX λ_=>?_;refine J.turn1 [] rfl (As:=[ownA 133 19 none 0 0 (cellsE []),ownA 3 1 none 0 0 (cellsI []),ownA 133 19 none 0 0 (cellsE [])]) (λh s=>Sep.ofAll λA hA h=>by
  simp only[List.mem_cons,List.not_mem_nil,or_false]at hA;rcases hA with rfl | rfl | rfl<;>exact⟨rfl,rfl,rfl⟩) rfl ?_
 refine J.q hX λ_=>?_;refine J.lo (α:=(Nat×(Option Nat×Nat)×(Option Nat×Nat)×(Option Nat×Nat))) (λz=>z.1<=Z.length) (λz=>[⟨105, .int .i64 z.1,0, .tt⟩,⟨104, .int .i64 Z.length,0, .tt⟩,⟨12,slv z.2.2.2.1 (V.goS N (V.all N) n z.1).others.length z.2.2.2.2,0, .tt⟩,⟨0, .pointer (some ⟨p,0,none⟩),2, .tt⟩,⟨4, .pointer (some ⟨br 0,0,none⟩),3, .tt⟩,⟨6, .pointer (some ⟨bo 0,0,none⟩),5, .tt⟩,⟨7, .pointer (some ⟨bs 0,0,none⟩),7, .tt⟩]) [3,4,8,9,10] (λz=>[TbA q (V.goS N (V.all N) n z.1).tb, .pt (bo 0) 117 (svL q (slv z.2.1.1 (V.goS N (V.all N) n z.1).torn.length z.2.1.2) 0 (slv z.2.2.1.1 (V.goS N (V.all N) n z.1).held.length z.2.2.1.2) (V.nextOf (V.all N)) (V.all N).length),ownA 133 19 z.2.1.1 (V.goS N (V.all N) n z.1).torn.length z.2.1.2 (cellsE (V.goS N (V.all N) n z.1).torn),ownA 3 1 z.2.2.1.1 (V.goS N (V.all N) n z.1).held.length z.2.2.1.2 (cellsI (V.goS N (V.all N) n z.1).held),ownA 133 19 z.2.2.2.1 (V.goS N (V.all N) n z.1).others.length z.2.2.2.2 (cellsE (V.goS N (V.all N) n z.1).others)]) (λz=>Z.length-z.1) ((0,(none,0),(none,0),(none,0))) (Nat.zero_le _) rfl ?_ (λ_=>rfl) λz hI=>?_
 ·rfl
 obtain⟨k,⟨a1,c1⟩,⟨a2,c2⟩,⟨a3,c3⟩⟩:=z;dsimp only at hI ⊢;have hgl:=V.goS_len N (V.all N) n k;have hgh:=V.goS_held N (V.all N) n k;refine J.q hX λ_=>?_;refine J.cond rfl (λh2=>?_) (λh2=>?_)
 ·simp only[decide_eq_true_eq,Int.ofNat_lt]at h2;obtain⟨z,hz,hzl⟩:=hZ.get (k:=k) h2;have hzle:=hZ.le hz;have hstep:=V.goS_succ N (V.all N) n k;have hok:=V.goS_ok N (V.all N) n k;have hhl:=V.holds_len (V.of (V.all N) k);have hol:=V.of_len (V.all N) k;have hsm:=V.standOf_mem (l:=V.of (V.all N) k);generalize hS:V.goS N (V.all N) n k=S at hgl hgh hstep hok;refine J.q hX λ_=>?_;refine J.cb hX (v_stands (bs 0) p g Z k z hz (by omega) (by omega)) [6,5,7] ?_;refine cpq ⟨_,rfl,trivial,?_⟩;rw[hzl];unfold V.step at hstep;obtain⟨f,is,hs⟩:∃f is,V.standOf (V.of (V.all N) k)=(f,is):=⟨_,_,rfl⟩;rw[hs]at hsm hstep ⊢;dsimp only at hsm hstep ⊢;refine J.q hX λbf=>?_;refine J.cond rfl (λh3=>?_) (λh3=>?_)
  ·simp only[Bool.not_eq_true']at h3;subst h3;rw[if_neg Bool.false_ne_true]at hstep;rw[<- hstep];refine J.q hX λ_=>?_;refine J.nS ((k+1,(a1,c1),(a2,c2),(a3,c3))) (by dsimp only;omega) (by dsimp only;omega) [0,1,2,3,4,5,6,7,8,9,10] rfl rfl
  simp only[Bool.not_eq_false']at h3;subst h3;rw[if_pos rfl]at hstep;have hfm:f∈V.all N:=by have:=hsm rfl;unfold V.of at this;exact(List.mem_filter.1 this).1
  obtain⟨⟨r0,hr0,hr1⟩,hfb⟩:=all_bd hfm;unfold EnBd at hfb;refine J.q hX λ_=>?_;refine J.cb hX (tb_Put q S.tb f.en f.block f.row f.slot f.mask (by omega) hok.bd) [3] ?_;refine cpq ⟨_,rfl,trivial,?_⟩;refine J.q hX λ_=>?_;refine J.cond rfl (λh4=>?_) (λh4=>?_)
  ·rw[if_pos h4]at hstep;have e1:=congrArg Sst.tb hstep;have e2:=congrArg Sst.torn hstep;have e3:=congrArg Sst.held hstep;have e4:=congrArg Sst.others hstep;dsimp only at e1 e2 e3 e4;rw[<- e1,<- e2,<- e3,<- e4];refine J.q hX λ_=>?_;refine J.nS ((k+1,(a1,c1),(a2,c2),(a3,c3))) (by dsimp only;omega) (by dsimp only;omega) [0,1,2,3,4,5,6,7,8,9,10] rfl rfl
  rw[if_neg (by rw[h4];exact Bool.false_ne_true)]at hstep;refine J.q hX λ_=>?_;refine J.cb hX (v_last p N hN hR (bs 0) (.slice (some ⟨g,0,none⟩) Z.length Z.length) f r0 hr0 (by omega)) [1,6] ?_;refine cpq ⟨_,rfl,trivial,?_⟩;refine J.q hX λ_=>?_;refine J.cond rfl (λh5=>?_) (λh5=>?_)
  ·rw[if_pos h5]at hstep;have e1:=congrArg Sst.tb hstep;have e2:=congrArg Sst.torn hstep;have e3:=congrArg Sst.held hstep;have e4:=congrArg Sst.others hstep;dsimp only at e1 e2 e3 e4;refine J.q hX λ_=>?_;refine J.append hX tk 8 12 0 rfl rfl rfl rfl rfl rfl rfl rfl rfl rfl rfl rfl rfl rfl rfl rfl ?_ ?_ (λ_=>rfl) λa4 c4=>⟨_,(congrArg (λy=>lset _ 8 (ownA _ _ _ _ _ y)) (cellsE_snoc S.torn f.en)).trans rfl,trivial,?_⟩
   ·simp only[maxLen];omega
   ·omega
   rw[show S.torn.length+1=(S.torn++[f.en]).length from by simp];refine J.q hX λ_=>?_;refine J.plan (.of [0,5,8,12,18,23,24,31]) [5,6,7] [4] (by rw[hX.hP];kernel_rfl) (by kernel_rfl) ?_;refine J.q hX λ_=>?_;refine J.cb hX (v_holds (bs 0) p g Z k z hz (by omega) (by omega)) [6,5,7] ?_;rintro v As ⟨a5,c5,rfl,rfl⟩;refine⟨_,rfl,(by first | exact trivial | (repeat' (first | exact trivial | refine⟨rfl,?_⟩))),?_⟩;rw[hzl];refine J.q hX λ_=>?_;refine J.appendO hX tk 9 13 rfl rfl rfl rfl rfl rfl rfl rfl rfl rfl rfl rfl rfl (cellsI_one _) ?_ ?_ (λ_=>rfl) λa6 c6=>⟨_,(congrArg (λy=>lset _ 9 (ownA _ _ _ _ _ y)) (cellsI_app S.held (V.holds (V.of (V.all N) k)))).trans rfl,(by first | exact trivial | (repeat' (first | exact trivial | refine⟨rfl,?_⟩))),?_⟩
   ·simp only[maxLen];omega
   ·omega
   rw[show S.held.length+(V.holds (V.of (V.all N) k)).length=(S.held++V.holds (V.of (V.all N) k)).length from by simp];rw[<- e1,<- e2,<- e3,<- e4];refine J.q hX λ_=>?_;refine J.nS ((k+1,(a4,c4),(a6,c6),(a3,c3))) (by dsimp only;omega) (by dsimp only;omega) [0,1,2,3,4,5,6,7,8,9,10] rfl rfl
  ·rw[if_neg (by rw[h5];exact Bool.false_ne_true)]at hstep;have e1:=congrArg Sst.tb hstep;have e2:=congrArg Sst.torn hstep;have e3:=congrArg Sst.held hstep;have e4:=congrArg Sst.others hstep;dsimp only at e1 e2 e3 e4;refine J.q hX λ_=>?_;refine J.append hX tk 10 12 0 rfl rfl rfl rfl rfl rfl rfl rfl rfl rfl rfl rfl rfl rfl rfl rfl ?_ ?_ (λ_=>rfl) λa4 c4=>⟨_,(congrArg (λy=>lset _ 10 (ownA _ _ _ _ _ y)) (cellsE_snoc S.others f.en)).trans rfl,trivial,?_⟩
   ·simp only[maxLen];omega
   ·omega
   rw[show S.others.length+1=(S.others++[f.en]).length from by simp];rw[<- e1,<- e2,<- e3,<- e4];refine J.q hX λ_=>?_;refine J.nS ((k+1,(a1,c1),(a2,c2),(a4,c4))) (by dsimp only;omega) (by dsimp only;omega) [0,1,2,3,4,5,6,7,8,9,10] rfl rfl
 simp only[decide_eq_false_iff_not,Int.ofNat_lt]at h2;obtain rfl:k=Z.length:=by omega
 have hsc:V.scan N n=⟨(V.goS N (V.all N) n Z.length).tb,(V.goS N (V.all N) n Z.length).torn++(V.goS N (V.all N) n Z.length).others,(V.goS N (V.all N) n Z.length).torn.length,compactI (sortI (V.goS N (V.all N) n Z.length).held),V.nextOf (V.all N),(V.all N).length⟩:=by
  unfold V.scan V.scanOf;rw[hms]
 generalize V.goS N (V.all N) n Z.length=S at hgl hgh hsc;refine J.q hX λ_=>?_;refine J.appendO hX tk 8 10 rfl rfl rfl rfl rfl rfl rfl rfl rfl rfl rfl rfl rfl (cellsE_one _) ?_ ?_ (λ_=>rfl) λa6 c6=>⟨_,(congrArg (λy=>lset _ 8 (ownA _ _ _ _ _ y)) (cellsE_app S.torn S.others)).trans rfl,(by first | exact trivial | (repeat' (first | exact trivial | refine⟨rfl,?_⟩))),?_⟩
 ·simp only[maxLen];omega
 ·omega
 rw[show S.torn.length+S.others.length=(S.torn++S.others).length from by simp];refine J.q hX λ_=>?_;refine J.cb hX (x_SortN a2 S.held.length c2 S.held rfl (by omega)) [9] ?_;refine cpq ⟨_,rfl,trivial,?_⟩;refine J.q hX λ_=>?_;refine J.ca hX (by kernel_rfl) (x_Compact a2 S.held.length c2 (sortI S.held) (sortI_len _) (by omega)) [9] 0 rfl rfl rfl rfl rfl rfl (λ_=>rfl) ?_;rintro v As ⟨l',hl',rfl,rfl⟩;refine⟨_,rfl,trivial,?_⟩;refine J.q hX λ_=>?_;refine J.ru hX [1,3,8,9] ?_;rw[hsc,<- hl'];exact⟨q,a6,c6,a2,c2,rfl,rfl⟩
end Go.Proofs.YtkdlnfdjjifedaaGreat
namespace Go.Proofs.YtkdlnfdjjifedaaGreat
def normI (l:List Int):List Int:=compactI (sortI l)
theorem dedFrom_spec:∀(l:List Int) (p:Int),(p::l).Pairwise (· <= ·)->(dedFrom p l).Pairwise (· < ·)/\(∀c∈dedFrom p l,p<c)/\∀c,c∈dedFrom p l\/c=p↔c∈l\/c=p
 | [],p,_=>by simp[dedFrom]
 | x::l,p,h=>by
  have h1:=List.pairwise_cons.1 h;simp only[dedFrom]
  by_cases e:x=p
  ·subst e;obtain⟨a,b,c⟩:=dedFrom_spec l x h1.2;rw[if_pos rfl];refine⟨a,b,λd=>?_⟩;rw[c d,List.mem_cons];constructor
   ·rintro(h | h)<;>simp[h]
   ·rintro((h | h) | h)<;>simp[h]
  ·obtain⟨a,b,c⟩:=dedFrom_spec l x h1.2;have hx:p<x:=by have:=h1.1 x (List.mem_cons_self ..);omega
   rw[if_neg e];refine⟨List.pairwise_cons.2 ⟨b,a⟩,λd hd=>?_,λd=>?_⟩
   ·rcases List.mem_cons.1 hd with rfl | hd
    ·exact hx
    ·have:=b d hd;omega
   ·have:=c d;rw[List.mem_cons,List.mem_cons];constructor
    ·rintro((h | h) | h)
     ·simp[h]
     ·rcases this.1 (.inl h)with h | h<;>simp[h]
     ·simp[h]
    ·rintro((h | h) | h)
     ·simp[h]
     ·rcases this.2 (.inl h)with h | h<;>simp[h]
     ·simp[h]
theorem sortI_sorted (l:List Int):(sortI l).Pairwise (· <= ·):=by
 have:=List.pairwise_mergeSort (le:=leI) (λa b c h1 h2=>by simp only[leI,decide_eq_true_eq]at*;omega) (λa b=>by simp only[leI,Bool.or_eq_true,decide_eq_true_eq];omega) l;exact this.imp (λh=>by simpa[leI]using h)
theorem sortI_mem (l:List Int) (c:Int):c∈sortI l↔c∈l:=List.mem_mergeSort
theorem normI_spec (l:List Int):(normI l).Pairwise (· < ·)/\∀c,c∈normI l↔c∈l:=by
 have hs:=sortI_sorted l;have hm:=sortI_mem l;unfold normI
 revert hs hm
 cases sortI l with
 | nil=>intro _ hm;exact⟨by simp[compactI],λc=>by rw[<- hm c];simp[compactI]⟩
 | cons x m=>
  intro hs hm;obtain⟨a,b,c⟩:=dedFrom_spec m x hs;refine⟨List.pairwise_cons.2 ⟨b,a⟩,λd=>?_⟩;rw[<- hm d];show d∈x::dedFrom x m↔_;rw[List.mem_cons,List.mem_cons];have:=c d;constructor
  ·rintro(h | h)
   ·simp[h]
   ·rcases this.1 (.inl h)with h | h<;>simp[h]
  ·rintro(h | h)
   ·simp[h]
   ·rcases this.2 (.inl h)with h | h<;>simp[h]
theorem normI_nil:normI []=[]:=by have:=(normI_spec []).2;exact List.eq_nil_iff_forall_not_mem.2 (λc hc=>by simpa using(this c).1 hc)
theorem normI_len (l:List Int):(normI l).length<=l.length:=by
 have h:∀(l:List Int),(compactI l).length<=l.length:=λl=>by
  have:∀(l:List Int) (p:Int),(dedFrom p l).length<=l.length:=λl=>by
   induction l with
   | nil=>intro p;simp[dedFrom]
   | cons x l ih=>intro p;simp only[dedFrom];split<;>simp only[List.length_cons]<;>have:=ih x<;>have:=ih p<;>omega
  cases l with
  | nil=>simp[compactI]
  | cons x l=>have:=this l x;simp only[compactI,List.length_cons];omega
 have:=h (sortI l);rw[sortI_len]at this;exact this
namespace V
end V
end Go.Proofs.YtkdlnfdjjifedaaGreat
namespace Go.Proofs.YtkdlnfdjjifedaaGreat
open Go Go.RowKit
namespace B16
def e1:En:=⟨2,5,1,1::List.replicate 15 0⟩
def e2:En:=⟨2,4,1,2::List.replicate 15 0⟩
def e3:En:=⟨1,8,2,zeros16⟩
def w1:En:=⟨4,1,0,zeros16⟩
def w2:En:=⟨5,2,0,zeros16⟩
def w3:En:=⟨4,3,0,zeros16⟩
def N0:Nand:=Nand.new 3 8 2
def N1:Nand:=(R.write N0 1 0 7 [e1,B9.pad]).1
def N2:Nand:=(R.write N1 2 0 7 [e2,e3]).1
theorem G0:N0.Gd 100 0:=Nand.Gd.new 3 8 2 rfl 100 (by decide)
theorem G1:N1.Gd 92 0:=write_Gd (by decide) G0
theorem G2:N2.Gd 84 0:=write_Gd (by decide) G1
theorem off2:N2.off=false:=by kernel_rfl
def L:List Fnd:=[⟨e1,1,0,0,7,true,false⟩,⟨e2,2,0,0,7,true,false⟩,⟨e3,2,0,1,7,true,false⟩]
def T:Tb:=⟨3,[(1,⟨2,0,1,7,8,2⟩),(2,⟨1,0,0,7,5,1⟩)],[(2,1),(1,1)],9⟩
theorem h_all:V.all N2=L:=by kernel_rfl
theorem h_go:V.goS N2 L 3 3=⟨T,[],[],[]⟩:=by kernel_rfl
theorem h_size:V.size 3=3:=by kernel_rfl
theorem h_next:V.nextOf L=9:=by kernel_rfl
theorem h_scan:V.scan N2 3=⟨T,[],0,[],9,3⟩:=by
 unfold V.scan;rw[h_all];unfold V.scanOf;rw[h_size,h_go,h_next];have:compactI (sortI [])=[]:=normI_nil;dsimp only;rw[this];rfl
end B16
end Go.Proofs.YtkdlnfdjjifedaaGreat
namespace Go.Proofs.YtkdlnfdjjifedaaGreat
open Go Go.RowKit
theorem l11_Begun:Fn Tryz.prog 247 [] [] (λv As=>v= .bool true/\As=[]):=by
 refine Fn.enter [] Tryz.func247 rfl rfl rfl λX F hX=>?_;refine J.q hX λ_=>?_;refine J.cb hX (l11_begun) [] ?_;refine cpq ⟨_,rfl,trivial,?_⟩;refine J.q hX λ_=>?_;exact J.ru hX [] ⟨rfl,rfl⟩
open B16
theorem l16_begun:Fn Tryz.prog 210 [] [] (λv As=>v= .bool true/\As=[]):=by
 refine Fn.enter [] Tryz.func210 rfl rfl rfl λX F hX=>?_;refine J.q hX λ_=>?_;refine J.cb hX (n_New 3 8 2 rfl) [] ?_;rintro v As ⟨q,rfl,rfl⟩;refine⟨_,rfl,trivial,?_⟩;refine J.q hX λ_=>?_;refine J.cF ?_;refine J.q hX λbx=>?_;refine J.ca hX (by kernel_rfl) (r_Write q N0 (.pt (bx 0) 133 (cellsE [e1,B9.pad])) 1 0 7 (some ⟨bx 0,0,none⟩) 2 2 0 [e1,B9.pad] (pt_rd _ _ _ _ _ rfl) rfl (by decide) (G0.less (by decide) (Nat.le_refl _))) [1,2] 0 rfl rfl rfl rfl rfl rfl (λ_=>rfl) ?_;refine cpq ⟨_,rfl,trivial,?_⟩;refine J.q hX λby_=>?_;refine J.ca hX (by kernel_rfl) (r_Write q N1 (.pt (by_ 0) 133 (cellsE [e2,e3])) 2 0 7 (some ⟨by_ 0,0,none⟩) 2 2 0 [e2,e3] (pt_rd _ _ _ _ _ rfl) rfl (by decide) (G1.less (by decide) (Nat.le_refl _))) [1,3] 0 rfl rfl rfl rfl rfl rfl (λ_=>rfl) ?_;refine cpq ⟨_,rfl,trivial,?_⟩;refine J.q hX λ_=>?_;refine J.cb hX (v_Scan q N2 G2.ok G2.room off2 3) [1] ?_;rintro v As ⟨r,a1,c1,a2,c2,rfl,rfl⟩;refine⟨_,rfl,trivial,?_⟩;rw[h_scan];refine J.q hX λ_=>?_;refine J.cF ?_;refine J.q hX λ_=>?_;refine J.cb hX (tb_Get r T 2) [4] ?_;refine cpq ⟨_,rfl,trivial,?_⟩;rw[show Tb.look T.at_ 2=some ⟨1,0,0,7,5,1⟩from rfl,Option.getD_some,Option.isSome_some];refine J.q hX λ_=>?_;refine J.cb hX (d_New) [] ?_;rintro v As ⟨d,rfl,rfl⟩;refine⟨_,rfl,trivial,?_⟩;refine J.q hX λ_=>?_;refine J.cb hX (d_Put d [] (by decide) w1) [9] ?_;refine cpq ⟨_,rfl,trivial,?_⟩;rw[show dkPut [] w1=[w1]from rfl];refine J.q hX λ_=>?_;refine J.cb hX (d_Put d [w1] (by decide) w2) [9] ?_;refine cpq ⟨_,rfl,trivial,?_⟩;rw[show dkPut [w1] w2=[w1,w2]from rfl];refine J.q hX λ_=>?_;refine J.cb hX (d_Put d [w1,w2] (by decide) w3) [9] ?_;refine cpq ⟨_,rfl,trivial,?_⟩;rw[show dkPut [w1,w2] w3=[w2,w3]from rfl];refine J.q hX λ_=>?_;refine J.cb hX (d_First d [w2,w3] (by decide) 5) [9] ?_;rintro v As ⟨a3,c3,rfl,rfl⟩;refine⟨_,rfl,trivial,?_⟩;rw[show dkN [w2,w3] 5=2 from rfl,show[w2,w3].take 2=[w2,w3]from rfl];refine J.know (λh' s=>own_some (c:=(a3,c3)) (by decide) (s.get (i:=10) rfl)) λhg=>?_;obtain⟨ga,rfl⟩:=hg;refine J.know (λh' s=>ownP_cap (show ownP _ _ (some ga) 2 c3 _ _ from s.get (i:=10) rfl)) λhcap=>?_;refine J.q hX λ_=>?_;refine J.cb hX (d_Get d [w2,w3] (by decide) 4) [9] ?_;refine cpq ⟨_,rfl,trivial,?_⟩;rw[show dkGet [w2,w3] 4=(w3,true)from rfl];refine J.q hX λ_=>?_;refine J.cb hX (l11_Begun) [] ?_;refine cpq ⟨_,rfl,trivial,?_⟩;refine J.q hX λ_=>?_;refine J.cb hX (l13_Begun) [] ?_;refine cpq ⟨_,rfl,trivial,?_⟩;refine J.q hX λ_=>?_;refine J.cb hX (tb_Len r T) [4] ?_;refine cpq ⟨_,rfl,trivial,?_⟩;refine J.q hX λ_=>?_;refine J.val hX (.int .i64 5) 0 rfl rfl (λhg a w he hw=>own1_run tk rfl rfl he hg rfl rfl (hw.get (i:=10) rfl) rfl) rfl trivial ?_;refine J.q hX λ_=>?_;have hRd:Rd (ownA 133 19 (some ga) 2 c3 (cellsE [w2,w3])) (some ⟨ga,0,none⟩) 19 1 (cellsE [w2]):=(own_rd 133 19 (some ga) 2 c3 (cellsE [w2,w3])).take 1 (by decide);refine J.q hX λ_=>?_;refine J.cb hX (d_Done d [w2,w3] (by decide) (ownA 133 19 (some ga) 2 c3 (cellsE [w2,w3])) (some ⟨ga,0,none⟩) 1 c3 [w2] hRd rfl (by decide)) [9,10] ?_;refine cpq ⟨_,rfl,trivial,?_⟩;rw[show dkDone [w2,w3] [w2]=[w3]from rfl];refine J.q hX λ_=>?_;refine J.cb hX (d_Len d [w3]) [9] ?_;refine cpq ⟨_,rfl,trivial,?_⟩;refine J.q hX λ_=>?_;exact J.ru hX [] ⟨rfl,rfl⟩
end Go.Proofs.YtkdlnfdjjifedaaGreat
namespace Go.Proofs.YtkdlnfdjjifedaaGreat
end Go.Proofs.YtkdlnfdjjifedaaGreat
namespace Go.Proofs.YtkdlnfdjjifedaaGreat
open Go
namespace K
end K
namespace Bt
end Bt
namespace S
end S
namespace Bt
end Bt
namespace K
end K
namespace S
end S
end Go.Proofs.YtkdlnfdjjifedaaGreat
namespace Go.Proofs.YtkdlnfdjjifedaaGreat
open Go Go.RowKit
section
variable {P : Program} {T : Tab} {E : Env} {n : Nat} {ac : Act} {w : World}
end
theorem Rd.drop {A:Atom} {b o size n:Nat} {xs:List Value} (h:Rd A (some ⟨b,o,none⟩) size n xs) (k:Nat) (hk:k<=n):Rd A (some ⟨b,o+k*size,none⟩) size (n-k) (xs.drop (k*size)):=by
 intro h' s;obtain⟨h0,h1⟩:=h h' s;have hle:k*size<=n*size:=Nat.mul_le_mul_right _ hk;refine⟨by rw[List.length_drop,h0,Nat.sub_mul],λhk0=>?_⟩;obtain⟨b',o',cs,ty,fr,e1,e2,e3⟩:=h1 (by omega);simp only[Option.some.injEq,Addr.mk.injEq,and_true]at e1;obtain⟨rfl,rfl⟩:=e1;refine⟨b,_,cs,ty,fr,rfl,e2,?_⟩;rw[<- e3,List.drop_take,List.drop_drop,Nat.sub_mul]
theorem leavesD:leaves Tryz.prog 100 30=some lvD:=by kernel_rfl
theorem mkD (zs:List Value):mkV Tryz.prog 30 zs= .agg zs.toArray:=by simp[mkV,Tryz.underlying30]
theorem gdD:Tryz.prog.eqGuardType Tryz.prog.depth 30=false:=by kernel_rfl
section
variable {X : Cx} {P : Program} {T : Tab} {K : List KI} {E : Env} {L : List Atom} {N : Nat} {F : HP} {Post : Value → List Atom → Prop} {rs : List ResultVar}
end
namespace F9
end F9
namespace T2
end T2
end Go.Proofs.YtkdlnfdjjifedaaGreat
namespace Go.Proofs.YtkdlnfdjjifedaaGreat
open Go
namespace Nand
end Nand
end Go.Proofs.YtkdlnfdjjifedaaGreat
namespace Go.Proofs.YtkdlnfdjjifedaaGreat
open Go Go.RowKit
theorem flat_get {α:Type} (f:α->List Value) (w:Nat) (hw:∀x,(f x).length=w):∀(l:List α) (k:Nat) (x:α),l[k]? =some x->((l.flatMap f).drop (k*w)).take w=f x
 | [],k,x,h=>by simp at h
 | y::l,0,x,h=>by
  simp at h;subst h;rw[List.flatMap_cons,Nat.zero_mul,List.drop_zero,List.take_left' (hw y)]
 | y::l,k+1,x,h=>by
  have ih:=flat_get f w hw l k x (by simpa using h);rw[List.flatMap_cons,show(k+1)*w=(f y).length+k*w from by rw[hw y,Nat.add_mul,Nat.one_mul,Nat.add_comm],<- List.drop_drop,List.drop_left' rfl];exact ih
end Go.Proofs.YtkdlnfdjjifedaaGreat
namespace Go.Proofs.YtkdlnfdjjifedaaGreat
open Go Go.RowKit
open Go.ChangeShapes Go.WideShapes
def frz (W:World):Atom:= .hp ⟨Hle (hl W),λ_ _ l s=>s.trans l⟩
theorem Fn.whole {P:Program} {f:FuncId} {args:List Value} {r:Value} {W:World} (h:Fn P f args [frz W] (λv As=>v=r/\As=[frz W])):Calls P f args.toArray W λe w'=>e= .returned r/\Below W.heap.size W w':=by
 have hs:Sep (.hp ⟨λ_=>True,λ_ _ _ s=>s⟩::[frz W]) (hl W):=by
  refine⟨λ_=>1,λi A hA=>?_⟩
  match i,hA with
  | 0,hA=>simp at hA;subst hA;trivial
  | 1,hA=>
   simp at hA;subst hA;intro b o hb;exact res_some.2 ⟨rfl,hb⟩
  | i+2,hA=>simp at hA
 refine(h _ W hs).mono λe w' ⟨v,As,e1,⟨e2,e3⟩,s,x⟩=>?_;subst e2 e3;have hle:Hle (hl W) (hl w'):=s.get (i:=1) rfl;refine⟨e1,x.os,x.tape,x.output,x.size,λk hk=>?_⟩;have:W.heap[k]? =some W.heap[k]:=Array.getElem?_eq_getElem hk;rw[this];exact hle k _ this
section
variable {H : Type} {enc : TypeId × Value → H} {w : World} {base : Nat} {spare : Nat → Bool} {held : Bool}
theorem one_i64 {t:TypeId} (ht:Tryz.prog.underlying t=some (.int .i64)) {fuel:Nat} {cs:List Value} {y:DataW H×List MemPlace} (h:DataW.trod enc Tryz.prog w base spare held fuel t cs=some y):∃n,cs=[.int .i64 n]:=by
 obtain⟨n,rfl,_,_⟩:=DataW.trod_int ht h;exact⟨n,rfl⟩
end
end Go.Proofs.YtkdlnfdjjifedaaGreat
namespace Go.Proofs.YtkdlnfdjjifedaaGreat
open Go Go.RowKit
open Go.ChangeShapes Go.WideShapes Go.ChangeAt
section
variable {H : Type} {enc : TypeId × Value → H} {w : World} {base : Nat} {spare : Nat → Bool} {held : Bool}
end
end Go.Proofs.YtkdlnfdjjifedaaGreat
namespace Go.Proofs.YtkdlnfdjjifedaaGreat
open Go Go.RowKit
open Go.ChangeShapes Go.WideShapes Go.ChangeAt
section
variable {H : Type} {enc : TypeId × Value → H} {w : World} {base : Nat} {spare : Nat → Bool} {held : Bool}
end
end Go.Proofs.YtkdlnfdjjifedaaGreat
