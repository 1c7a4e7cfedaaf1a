/- Helpers. No condition. -/
import Derived.Test.YtnffkcabeecopaaGreatRows
import Derived.Test.YtnffkcabeecopaaGreatW03
import Derived.Test.YtnffkcabeecopaaGreatW04
import Derived.Test.YtnffkcabeecopaaGreatW06
import Derived.Test.YtnffkcabeecopaaGreatW07
import Derived.Test.YtnffkcabeecopaaGreatW08
import Derived.Test.YtnffkcabeecopaaGreatW09
import Derived.Test.YtnffkcabeecopaaGreatW10
import Derived.Test.YtnffkcabeecopaaGreatW11
import Derived.ProofKit
import Derived.OpenShut
import Derived.ChangeOld
import Derived.Below
import Derived.Deep.Slices
import Derived.Deep.Strs
import Derived.Lib.SmallJoins
set_option maxRecDepth 20000
set_option linter.all false
namespace Go.Proofs.YtnffkcabeecopaaGreat
open Go Go.RowKit
theorem b1d (x:Int):FP 302 [.int .u8 x] [] (Ps (.bool (x !=255)) []):=by
 refine FE [0] Tryz.func302 λX F hX=>?_;exact J.qx []
theorem b3N (b:Nat) (p:List UInt8) (h:(((p.getD 0 0).toNat:Int) !=255)=true):FP 314 [.slice (some ⟨b,0,none⟩) 32 32, .func (.func 302) #[] #[]] [.pt b 106 (y9 p)] (Ps (iI 0) []):=by
 refine FE [2,0] Tryz.func314 λX F hX=>?_;refine J.q λ_=>?_;refine J.l (α:=Nat) (λk=>k=0) (λk=>[si 8 0,si 7 32,⟨0, .slice (some ⟨b,0,none⟩) 32 32,2, .tt⟩,⟨1, .func (.func 302) #[] #[],0, .tt⟩]) [] (λk=>[]) (λk=>0) (0) (rfl) λk hI=>?_;refine J.qT λ_=>?_;refine J.q λ_=>?_;refine J.v (byC p 0) rfl rfl (λhg a w he hw=>i7 tk rfl rfl he rfl rfl rfl (hw.get (i:=1) rfl) rfl) ?_;refine J.qp (b1d ((p.getD 0 0).toNat:Int)) [] λ_=>?_;rw[h];refine J.qT λ_=>?_;exact J.qx []
theorem a7Q (b:Nat) (p:List UInt8) (h:(((p.getD 0 0).toNat:Int) !=255)=true):FP 301 [.slice (some ⟨b,0,none⟩) 32 32, .func (.func 302) #[] #[]] [.pt b 106 (y9 p)] (Ps (.bool true) []):=by
 refine FE [2,0] Tryz.func301 λX F hX=>?_;refine J.qp (b3N b p h) [1] λ_=>?_;exact J.qx []
theorem b3O (p:List UInt8) (h:(((p.getD 0 0).toNat:Int) !=255)=true):FP 295 [pgV p] [] (Ps (.bool false) []):=by
 refine FE [0] Tryz.func295 λX F hX=>?_;refine J.q λbb=>?_;refine J.cb (a7Q (bb 0) p h) [1] ?_;refine cpq ⟨_,rfl,trivial,?_⟩;exact J.qx []
namespace B9
def e:En:=⟨3,9,1,[1,2,0,0,0,0,0,0,0,0,0,0,0,0,0,0]⟩
def pad:En:=⟨0,0,3,zeros16⟩
def a:Sh:=W.sh 2 1 7 e
def b:Sh:=W.sh 2 1 7 pad
def p:Sh:=W.par 2 1 7 [e,pad]
def pg:List UInt8:=C8 a
theorem h_a:W.own 2 1 7 e=a:=by kernel_rfl
theorem h_a2:W.ok 2 1 7 e=true:=by kernel_rfl
theorem h_b:W.own 2 1 7 pad=b:=by kernel_rfl
theorem h_b2:W.ok 2 1 7 pad=true:=by kernel_rfl
theorem h_p2:W.parB 2 1 7 [e,pad]=true:=by kernel_rfl
theorem h_pl:p.data.length=16:=by kernel_rfl
theorem h_m:S.may a=true:=by kernel_rfl
theorem h_g:S.getV pg=a:=by kernel_rfl
theorem h_g2:S.getE pg=0:=by kernel_rfl
theorem h_z2:S.getE U0=1:=by kernel_rfl
theorem h_k:W.back p [b]=e:=by kernel_rfl
theorem h_k2:W.backB p [b]=true:=by kernel_rfl
theorem h_meta:S.meta_ 2 5 77=144120685633994829:=by kernel_rfl
theorem h_mp:S.may p=true:=by kernel_rfl
theorem h_mz:S.may Sh.zero=false:=by kernel_rfl
theorem h_bl:(((pg.getD 0 0).toNat:Int) !=255)=true:=by kernel_rfl
theorem h_pgl:pg.length=32:=X6 a rfl
end B9
open B9
theorem b2H:FP 282 [] [] (Ps (.bool true) []):=by
 refine FE [] Tryz.func282 λX F hX=>?_;refine J.qp (a6D 2 1 7 e rfl) [] λ_=>?_;rw[h_a,h_a2];refine J.qp (a6D 2 1 7 pad rfl) [] λ_=>?_;rw[h_b,h_b2];refine J.q λb1=>?_;refine J.ca hX (by kernel_rfl) (a6C 2 1 7 (.pt (b1 (0+1)) 155 (d6 [e,pad])) (some ⟨b1 (0+1),0,none⟩) 2 2 [e,pad] (W4 _ _ _ _ _ rfl) rfl (by decide)) [5] 0 rfl rfl rfl rfl rfl rfl (λ_=>rfl) ?_;refine cpq ⟨_,rfl,trivial,?_⟩;rw[show W.par 2 1 7 [e,pad]=p from rfl,h_p2];refine J.qp (b3h a rfl) [] λ_=>?_;rw[show C8 a=pg from rfl,h_m];refine J.qp (b3j pg h_pgl) [] λ_=>?_;rw[h_g,h_g2];refine J.qp (b3j U0 rfl) [] λ_=>?_;rw[h_z2];refine J.q λb2=>?_;refine J.cO 234 23 1 1 (m7 [b]) 10 ?_;refine J.qp (b1n p h_pl (some (b2 (0+1))) 1 1 [b] rfl (by decide) (by decide)) [10] λ_=>?_;rw[h_k,h_k2];refine J.qp (b3i 2 5 77) [] λ_=>?_;rw[h_meta];refine J.qp (b6w 144120685633994829 (by decide)) [] λ_=>?_;refine J.qp (a7o) [] λ_=>?_;refine J.q λ_=>?_;refine J.v (.bool true) rfl rfl (λhg x w he hw=>(x5 (xs:=shL a) (ys:=shL a) rfl rfl rfl he hg rfl b2C (b3p _) (b3p _) b7G b7K).trans (by rw[b7L _ _ rfl rfl];simp)) ?_;refine J.q λ_=>?_;refine J.v (.bool true) rfl rfl (λhg x w he hw=>(x5 (xs:=enL e) (ys:=enL e) rfl rfl rfl he hg rfl a7k (a6c _) (a6c _) b7n b7u).trans (by rw[(b7z _ _ rfl rfl).2 rfl])) ?_;refine J.qp (a5c p h_pl) [] λ_=>?_;rw[h_mp];refine J.qp (a5c Sh.zero rfl) [] λ_=>?_;rw[h_mz];refine J.qp (b3O pg h_bl) [] λ_=>?_;refine J.qr [] λ_=>?_;exact⟨by kernel_rfl,rfl⟩
theorem a7m:FP 278 [] [] (Ps (.bool true) []):=by
 refine FE [] Tryz.func278 λX F hX=>?_;refine J.qp (b2H) [] λ_=>?_;exact J.qx []
end Go.Proofs.YtnffkcabeecopaaGreat
namespace Go.Proofs.YtnffkcabeecopaaGreat
open Go Go.RowKit
namespace B11
def N0:Nand:=Nand.new 3 8 2
def N1:Nand:=(R.write N0 1 0 7 [B9.e,B9.pad]).1
def N2:Nand:=(N1.fault 4 0 0 0 0 0).2
def fn:Fnd:=⟨B9.e,1,0,0,7,true,true⟩
theorem G0:N0.Gd 100 0:=Nand.Gd.new 3 8 2 rfl 100 (by decide)
theorem G1:N1.Gd 92 0:=a0y (by decide) G0
theorem G2:N2.Gd 92 0:=G1.fault0 4 0 0 0 0 0 (by decide)
theorem h_w:(R.write N0 1 0 7 [B9.e,B9.pad]).2=(0,0):=by kernel_rfl
theorem h_l1:(M.look N1 0 1 0).2=1:=by kernel_rfl
theorem h_l2:(M.look N1 0 1 0).1.lpn=3:=by kernel_rfl
theorem h_l3:(M.look N1 0 2 0).2=2:=by kernel_rfl
theorem h_r:R.read N2 1 0 0 7=(B9.e,0):=by kernel_rfl
theorem h_a:R.all N2 1 0=[fn]:=by kernel_rfl
theorem h_m:M.masks N2 1 0=[7]:=by kernel_rfl
end B11
open B11
theorem b0t:FP 266 [] [] (Ps (.bool true) []):=by
 refine FE [] Tryz.func266 λX F hX=>?_;refine J.q λb1=>?_;refine J.cb (a4L 3 8 2 rfl) [] ?_;rintro v As ⟨q,rfl,rfl⟩;refine⟨_,rfl,trivial,?_⟩;refine J.qF λ_=>?_;refine J.q λb1=>?_;refine J.ca hX (by kernel_rfl) (a2y q N0 (.pt (b1 (0+1)) 155 (d6 [B9.e,B9.pad])) 1 0 7 (some ⟨b1 (0+1),0,none⟩) 2 2 0 [B9.e,B9.pad] (W4 _ _ _ _ _ rfl) rfl (by decide) (G0.less (by decide) (Nat.le_refl _))) [1,3] 0 rfl rfl rfl rfl rfl rfl (λ_=>rfl) ?_;refine cpq ⟨_,rfl,trivial,?_⟩;rw[h_w];refine J.qp (a1u q N1 G1.ok G1.room 0 1 0) [1] λ_=>?_;rw[h_l1];refine J.qp (a1u q N1 G1.ok G1.room 0 2 0) [1] λ_=>?_;rw[h_l3];refine J.qp (a0c q N1 G1.ok 0 4 0 0 0 0 0) [1] λ_=>?_;refine J.qp (a5N q N2 G2.ok G2.room 1 0 0 7 (by decide) (by decide)) [1] λ_=>?_;rw[h_r];refine J.qc (b5G q N2 G2.ok G2.room 1 0) [1] λ_=>?_;rintro v As ⟨a,c,rfl,rfl⟩;refine⟨_,rfl,trivial,?_⟩;rw[h_a];refine J.know (λh' s=>i9 (c:=(a,c)) (by decide) (s.get (i:=7) rfl)) λhg=>?_;obtain⟨ga,rfl⟩:=hg;refine J.qp (a7n) [] λ_=>?_;refine J.qp (a7m) [] λ_=>?_;refine J.q λ_=>?_;rw[h_l2];refine J.v (.bool true) rfl rfl (λhg x w he hw=>(x5 (xs:=enL B9.e) (ys:=enL B9.e) rfl rfl rfl he hg rfl a7k (a6c _) (a6c _) b7n b7u).trans (by rw[(b7z _ _ rfl rfl).2 rfl])) ?_;refine J.q λ_=>?_;refine J.v (.bool true) rfl rfl (λhg x w he hw=>j9 tk rfl rfl he hg rfl rfl (hw.get (i:=7) rfl) rfl) ?_;refine J.q λ_=>?_;refine J.v (.bool true) rfl rfl (λhg x w he hw=>j9 tk rfl rfl he hg rfl rfl (hw.get (i:=7) rfl) rfl) ?_;refine J.q λ_=>?_;refine J.v (iI 7) rfl rfl (λhg x w he hw=>j9 tk rfl rfl he hg rfl rfl (hw.get (i:=7) rfl) rfl) ?_;refine J.qc (a9i q N2 G2.ok G2.room 1 0) [1] λ_=>?_;rintro v As ⟨a2,c2,rfl,rfl⟩;refine⟨_,rfl,trivial,?_⟩;rw[h_m];exact J.qx []
end Go.Proofs.YtnffkcabeecopaaGreat
namespace Go.Proofs.YtnffkcabeecopaaGreat
open Go Go.RowKit
namespace B13
def e1:En:={En.zero with lpn:=4,seq:=7,role:=1}
def e2:En:={En.zero with lpn:=4,seq:=6,role:=1}
def e3:En:={En.zero with lpn:=10,seq:=9,role:=1}
def T0:Tb:=⟨10,[],[],1⟩
def T1:Tb:=⟨10,[(4,⟨2,1,0,7,7,1⟩)],[(2,1)],8⟩
def t0:Tl:=Tl.new 3 8 2
def t1:Tl:=⟨3,8,2,⟨3,0,false,false⟩::List.replicate 7 Sb.zero,0⟩
def t2:Tl:=⟨3,8,2,[⟨3,0,false,false⟩,Sb.zero,⟨0,2,false,false⟩,Sb.zero,Sb.zero,Sb.zero,Sb.zero,Sb.zero],0⟩
theorem h0:Tb.new 10=T0:=by kernel_rfl
theorem h1:Tb.put T0 e1 2 1 0 7=T1:=by kernel_rfl
theorem h2:Tb.put T1 e2 0 0 0 7=T1:=by kernel_rfl
theorem h3:Tb.put T1 e3 0 0 0 7=T1:=by kernel_rfl
theorem p1:Tb.putB T0 e1=true:=by kernel_rfl
theorem p2:Tb.putB T1 e2=false:=by kernel_rfl
theorem p3:Tb.putB T1 e3=false:=by kernel_rfl
theorem w1:t0.wore 0 3=t1:=by kernel_rfl
theorem w2:t1.bad 1 2=t2:=by kernel_rfl
theorem c0 (k:Int):0<=T0.count k/\T0.count k<=1000000:=by
 have:T0.count k=0:=rfl;rw[this];omega
theorem c1 (k:Int):0<=T1.count k/\T1.count k<=1000000:=by
 have:T1.count k=(if k=2 then some (1:Int)else none).getD 0:=rfl;rw[this];split<;>simp
theorem o1:H3 (λx y=>y8 (t2.wear x) (t2.wear y)) (f7 (A5 t2 T1) (-1) t2.b)=1:=by kernel_rfl
theorem o2:H3 (λx y=>orI [y8 (T1.count x) (T1.count y),y8 (t2.wear x) (t2.wear y)]) (f7 (B3 t2 T1) (-1) t2.b)=2:=by kernel_rfl
theorem o3:(f7 (A5 t2 T1) (-1) t2.b).length=7:=by kernel_rfl
theorem o4:f7 (j3 t2 T1) (-1) t2.b=[]:=by kernel_rfl
theorem o5:f7 (J4 t2 T1) (-1) t2.b=[2]:=by kernel_rfl
theorem o6:T1.ins 2=[4]:=by kernel_rfl
theorem o7:t2.mask 2=5:=by kernel_rfl
theorem o8:t2.usable 2=true:=by kernel_rfl
theorem o9:t2.alive=7:=by kernel_rfl
theorem o10:t2.wear 0=3:=by kernel_rfl
theorem o11:t2.blank 3=true:=by kernel_rfl
theorem o12:T1.count 2=1:=by kernel_rfl
end B13
theorem b0r:FP 267 [] [] (Ps (.bool true) []):=by
 refine FE [] Tryz.func267 λX F hX=>?_;refine J.qc (a7X 10) [] λ_=>?_;rintro v As ⟨r,rfl,rfl⟩;refine⟨_,rfl,trivial,?_⟩;rw[B13.h0];refine J.qc (a7V 3 8 2 rfl) [] λ_=>?_;rintro v As ⟨q,rfl,rfl⟩;refine⟨_,rfl,trivial,?_⟩;rw[show Tl.new 3 8 2=B13.t0 from rfl];refine J.qp (b4g) [] λ_=>?_;refine J.qF λ_=>?_;refine J.qp (a2N r B13.T0 B13.e1 2 1 0 7 (by decide) B13.c0) [1] λ_=>?_;rw[B13.h1,B13.p1];refine J.qp (a2N r B13.T1 B13.e2 0 0 0 7 (by decide) B13.c1) [1] λ_=>?_;rw[B13.h2,B13.p2];refine J.qp (a2N r B13.T1 B13.e3 0 0 0 7 (by decide) B13.c1) [1] λ_=>?_;rw[B13.h3,B13.p3];refine J.qp (a1n r B13.T1 4) [1] λ_=>?_;rw[show Tb.look B13.T1.at_ 4=some ⟨2,1,0,7,7,1⟩from rfl,Option.getD_some,Option.isSome_some];refine J.qp (a5z q B13.t0 (by decide) rfl 0 3) [2] λ_=>?_;rw[B13.w1];refine J.qp (a7W q B13.t1 (by decide) rfl 1 2) [2] λ_=>?_;rw[B13.w2];refine J.qp (a7n) [] λ_=>?_;refine J.qp (a7m) [] λ_=>?_;refine J.qp (b1A r B13.T1) [1] λ_=>?_;refine J.qp (H1 r B13.T1 2) [1] λ_=>?_;rw[B13.o12];refine J.qc (b1B r B13.T1 10 rfl (by decide) 2) [1] λ_=>?_;rintro v As ⟨a1,c1,rfl,rfl⟩;refine⟨_,rfl,trivial,?_⟩;rw[B13.o6];refine J.qp (b4h r B13.T1) [1] λ_=>?_;refine J.qp (a0B q B13.t2 (by decide) rfl 0) [2] λ_=>?_;rw[B13.o10];refine J.qp (Q3 q B13.t2 (by decide) rfl 2) [2] λ_=>?_;rw[B13.o7];refine J.qp (Z8 q B13.t2 (by decide) rfl 2) [2] λ_=>?_;rw[B13.o8];refine J.qp (b1x q B13.t2) [2] λ_=>?_;rw[B13.o9];refine J.qp (a8e q B13.t2 (by decide) rfl r B13.T1 (-1)) [2,1] λ_=>?_;rw[B13.o1];refine J.qp (a6W q B13.t2 (by decide) rfl r B13.T1 (-1)) [2,1] λ_=>?_;rw[B13.o2];refine J.qp (b2f q B13.t2 (by decide) rfl r B13.T1 (-1)) [2,1] λ_=>?_;rw[B13.o3];refine J.qc (a8Y q B13.t2 (by decide) rfl r B13.T1 (-1)) [2,1] λ_=>?_;rintro v As ⟨a2,c2,rfl,rfl⟩;refine⟨_,rfl,trivial,?_⟩;rw[B13.o4];refine J.qc (a8f q B13.t2 (by decide) rfl r B13.T1 10 rfl (by decide)) [2,1] λ_=>?_;rintro v As ⟨a3,c3,rfl,rfl⟩;refine⟨_,rfl,trivial,?_⟩;rw[B13.o5];refine J.qp (a2M q B13.t2 (by decide) rfl 3) [2] λ_=>?_;rw[B13.o11];exact J.qx []
theorem b0s:FP 243 [] [] (Ps (.bool true) []):=by
 refine FE [] Tryz.func243 λX F hX=>?_;refine J.qp (b0r) [] λ_=>?_;exact J.qx []
section
variable {X : Cx} {P : Program} {K : List KI} {E : Env} {L : List Atom} {N : Nat} {F : HP} {Post : Value → List Atom → Prop} {rs : List ResultVar} {T : Tab}
theorem W9 (hT:TabOK P T) {o:Oper} {x y:Operand} {st e size by_ ks tgs ky tgy:Nat} {gs gy:G} {a:Option Nat} {n cap:Nat} {xs:List Value} {s1 b1:Nat} {z1:List Value} {ac:Act} {w:World} {NN:Nat}
  (hop:o.op= .call ⟨.builtin .append,#[x,y],#[st,st]⟩) (hx:ev E x=some ⟨ks,slv a n cap,tgs,gs⟩) (hvx:gs.on=true) (hy:ev E y=some ⟨ky, .slice none 0 0,tgy,gy⟩) (hvy:gy.on=true) (hen:EnvOK NN E ac)
  (hst:T.get st=some ⟨.slice e size,s1,z1,b1⟩) {td:TD} {z:List Value} (he:T.get e=some ⟨td,size,z,by_⟩) (hown:J5 e size a n cap xs (hl w)):
  (execOp ac.eval o).run P w= .ok (.value (slv a n cap)) w:=by
 obtain⟨d,f,zv,ok⟩:=i3 (hT.get hst);obtain⟨fe,rfl,g1,g2⟩:=ok.slice rfl;obtain⟨d',f',zv',ok'⟩:=i3 (hT.get he);have hf:fe=f':=by have:=g1.symm.trans ok'.hf;injection this
 subst hf;have ex:=i5 hen hx;have ey:=i5 hen hy;simp only[Slot.val,hvx,hvy]at ex ey;have hr:=run_append_owned_none (P:=P) w 0 st o.type e fe size ok.hd ok'.hf _ n xs (a3i hown);simp only[execOp,hop,resolve,Sem.run_bind,Sem.run_pure,Result.andThen_ok,invoke,builtin,List.map_toArray,List.map_cons,List.map_nil,ex,ey,hr]
theorem J.appendO (hX:IsCx X P rs N F Post) (hT:TabOK P T) {ops:Array Oper} {C:Cl} {lt:Bool} {i:Nat} {t:PT} {o:Oper} {x y:Operand} {st e size by_:Nat} {ks tgs:Nat} {gs:G} {a:Option Nat} {n cap:Nat} {xs:List Value} {ky tgy:Nat} {gy:G} {ay:Option Nat} {m cy:Nat} {cs:List Value} {s1 b1:Nat} {z1:List Value} {E':Value->Env} (is iy:Nat)
  (ho:n7 ops.toList i=some o) (hg:gd ops.toList E o=some .tt) (hop:o.op= .call ⟨.builtin .append,#[x,y],#[st,st]⟩)
  (hx:ev E x=some ⟨ks,slv a n cap,tgs,gs⟩) (hvx:gs.on=true) (hy:ev E y=some ⟨ky,slv ay m cy,tgy,gy⟩) (hvy:gy.on=true)
  (hLs:n7 L is=some (c9 e size a n cap xs)) (hLy:n7 L iy=some (c9 e size ay m cy cs)) (hst:T.get st=some ⟨.slice e size,s1,z1,b1⟩) {td:TD} {z:List Value} (he:T.get e=some ⟨td,size,z,by_⟩) (hz:Nat.beq z.length size=true)
  (hsz:Nat.blt 0 size=true) (h1:∀u∈cs,u.oneCell'=true) (h63:n+m<=maxLen) (hbytes:(n+m)*by_<=140737488355328)
  (hd:∀v,C5 N o.dst v 0 .tt E=some (E' v))
  (hJ:∀a' cap',∃L',B1 L is (c9 e size a' (n+m) cap' (xs++cs))=some L'/\Conj (p9 lt C L')/\J X (.reg ops C t::K) (E' (slv a' (n+m) cap')) L'):J X (.reg ops C (.alt lt i t .non)::K) E L:=by
 cases ay with
 | some b=>exact J.appendR hX hT (oo:=0) is iy 0 ho hg rfl hop hx hvx hy hvy hLs hLy (D0 _ _ (some b) _ _ _) hst he hz hsz h1 h63 hbytes hd hJ
 | none=>
  rw[m9]at hLs hLy;refine J.know (p:=cs.length=m*size/\m=0/\cy=0) (λh s=>(show J5 e size none m cy cs h from s.get hLy)) λhk=>?_;obtain⟨q1,rfl,rfl⟩:=hk;have hcs:cs=[]:=List.eq_nil_of_length_eq_zero (by rw[q1,Nat.zero_mul]);subst hcs;obtain⟨L',e1,e2,e3⟩:=hJ a cap;rw[Nat.add_zero,List.append_nil]at e1;rw[Nat.add_zero]at e3;have hL:L'=L:=by
   rw[A8 e1];apply List.ext_getElem?;intro j;rw[List.getElem?_set];split
   ·rename_i e;subst e;split
    ·exact hLs.symm
    ·rename_i e4;rw[List.getElem?_eq_none (by omega)]
   ·rfl
  subst hL;exact J.val hX (slv a n cap) 0 ho hg (λ_ ac w hen hs=>W9 hT hop hx hvx hy hvy hen hst he (show J5 e size a n cap xs (hl w)from hs.get hLs)) (hd _) e2 e3
end
def FOk (m:Nat) (L:List Fnd) (Z:List FSlot):Prop:=Z.map (·.l)=(List.range m).map λk:Nat=>V.of L (k:Int)
theorem FOk.len {m:Nat} {L:List Fnd} {Z:List FSlot} (h:FOk m L Z):Z.length=m:=by have:=congrArg List.length h;simpa using this
theorem FOk.get {m:Nat} {L:List Fnd} {Z:List FSlot} (h:FOk m L Z) {k:Nat} (hk:k<m):∃z,Z[k]? =some z/\z.l=V.of L (k:Int):=by
 have hl:=h.len;refine⟨Z[k],List.getElem?_eq_getElem (by omega),?_⟩;have:=congrArg (λl=>l[k]?) h;simp only[List.getElem?_map,List.getElem?_range hk,List.getElem?_eq_getElem (show k<Z.length by omega),Option.map_some,Option.some.injEq]at this;exact this
theorem FOk.zero (m:Nat):FOk m [] (List.replicate m ⟨none,0,[]⟩):=by
 unfold FOk;apply List.ext_getElem?;intro i;rw[List.getElem?_map,List.getElem?_replicate,List.getElem?_map]
 by_cases h:i<m
 ·rw[if_pos h,List.getElem?_range h];simp[V.of]
 ·rw[if_neg h,List.getElem?_eq_none (by simp;omega)];rfl
theorem FOk.hit {m:Nat} {L:List Fnd} {Z:List FSlot} (h:FOk m L Z) {x:Fnd} {k:Nat} (hx:x.en.lpn=(k:Int)) {z z':FSlot} (hz:Z[k]? =some z) (hz':z'.l=z.l++[x]):FOk m (L++[x]) (Z.set k z'):=by
 have hl:=h.len;have hk:k<Z.length:=(List.getElem?_eq_some_iff.1 hz).1;have hzl:z.l=V.of L (k:Int):=by
  obtain⟨z2,h1,h2⟩:=h.get (k:=k) (by omega);rw[hz]at h1;injection h1 with h1;subst h1;exact h2
 unfold FOk;rw[List.map_set,show Z.map (·.l)=_ from h,hz',hzl];apply List.ext_getElem?;intro i;rw[List.getElem?_set,List.getElem?_map,List.getElem?_map]
 by_cases e:k=i
 ·subst e;rw[if_pos rfl,if_pos (by simp;omega),List.getElem?_range (by omega),Option.map_some,V.of_snoc,if_pos hx]
 ·rw[if_neg e]
  by_cases h2:i<m
  ·rw[List.getElem?_range h2,Option.map_some,Option.map_some,V.of_snoc,if_neg (by omega)]
  ·rw[List.getElem?_eq_none (by simp;omega)];rfl
theorem FOk.miss {m:Nat} {L:List Fnd} {Z:List FSlot} (h:FOk m L Z) {x:Fnd} (hx:(m:Int)<=x.en.lpn):FOk m (L++[x]) Z:=by
 unfold FOk;rw[show Z.map (·.l)=_ from h];apply List.map_congr_left;intro i hi;rw[List.mem_range]at hi;rw[V.of_snoc,if_neg (by omega)]
theorem FOk.le {m:Nat} {L:List Fnd} {Z:List FSlot} (h:FOk m L Z) {k:Nat} {z:FSlot} (hz:Z[k]? =some z):z.l.length<=L.length:=by
 have hl:=h.len;have hk:k<Z.length:=(List.getElem?_eq_some_iff.1 hz).1;obtain⟨z2,h1,h2⟩:=h.get (k:=k) (by omega);rw[hz]at h1;injection h1 with h1;subst h1
 rw[h2];exact V.of_len L k
theorem a0s {α β:Type} (f:α->List β) (c:Nat) (l:List α) (h:∀x∈l,(f x).length<=c):(l.flatMap f).length<=c*l.length:=by
 induction l with
 | nil=>simp
 | cons x l ih=>
  rw[List.flatMap_cons,List.length_append,List.length_cons];have:=h x (List.mem_cons_self ..);have:=ih (λy hy=>h y (List.mem_cons_of_mem _ hy));rw[Nat.mul_add];omega
theorem a0H (N:Nand) (hN:N.Ok) (b r:Int):(R.all N b r).length<=42:=by
 have hbd:=hN.bd;have:=a3k N b r (M.masks N b r).length (by omega);unfold a0M at this
 rwa [List.take_length]at this
theorem b4a (N:Nand) (hN:N.Ok) (b:Nat) (hb:b<=16):(V.upB N b).length<=5376:=by
 have hbd:=hN.bd;unfold V.upB;have:=a0s (λb:Nat=>(List.range N.pages).flatMap λr=>R.all N (b:Nat) (r:Nat)) 336 (List.range b) (λx _=>by
  have:=a0s (λr:Nat=>R.all N (x:Nat) (r:Nat)) 42 (List.range N.pages) (λr _=>a0H N hN _ _);rw[List.length_range]at this;omega)
 rw[List.length_range]at this;omega
theorem b3Y (N:Nand) (hN:N.Ok) (b r:Nat) (hb:b<=16) (hr:r<=8):(V.upR N b r).length<=5712:=by
 have h1:=b4a N hN b hb;have:=a0s (λr:Nat=>R.all N (b:Nat) (r:Nat)) 42 (List.range r) (λr _=>a0H N hN _ _);rw[List.length_range]at this;unfold V.upR;rw[List.length_append];omega
theorem b3Z (N:Nand) (hN:N.Ok) (b r i:Nat) (hb:b<=16) (hr:r<=8):(V.upI N b r i).length<=5754:=by
 have h1:=b3Y N hN b r hb hr;have:=a0H N hN b r;unfold V.upI;rw[List.length_append,List.length_take];omega
theorem b5T (N:Nand) (b:Nat):∀f∈V.upB N b,a1K f.en:=by
 intro f h;unfold V.upB at h;rw[List.mem_flatMap]at h;obtain⟨_,_,h⟩:=h;rw[List.mem_flatMap]at h;obtain⟨_,_,h⟩:=h;exact(a1C h).2.2
theorem b5R (N:Nand) (b r:Nat):∀f∈V.upR N b r,a1K f.en:=by
 intro f h;unfold V.upR at h;rw[List.mem_append]at h;rcases h with h | h
 ·exact b5T N b f h
 ·rw[List.mem_flatMap]at h;obtain⟨_,_,h⟩:=h;exact(a1C h).2.2
theorem b5S (N:Nand) (b r i:Nat):∀f∈V.upI N b r i,a1K f.en:=by
 intro f h;unfold V.upI at h;rw[List.mem_append]at h;rcases h with h | h
 ·exact b5R N b r f h
 ·exact(a1C (List.mem_of_mem_take h)).2.2
theorem Sep.ofAll {L:List Atom} {h:Hl} (hL:∀A∈L,∀h,A.sat h):Sep L h:=⟨λ_=>0,λi A hA=>hL A (List.mem_of_getElem? hA) _⟩
def svL (q:Nat) (torn:Value) (first:Int) (held:Value) (next pages:Int):List Value:=[pp q,torn,iI first,held,iI next,iI pages]
def svV (q:Nat) (S:Scd) (a1:Option Nat) (c1:Nat) (a2:Option Nat) (c2:Nat):Value:= .agg (svL q (slv a1 S.torn.length c1) S.first (slv a2 S.held.length c2) S.next S.pages).toArray
def sv0 (q:Nat) (L:List Fnd):List Value:=svL q (.slice none 0 0) 0 (.slice none 0 0) (V.nextOf L) L.length
theorem a2b {α:Type} (x:α):∀n:Nat,(List.replicate n [x]).flatten=List.replicate n x
 | 0=>rfl
 | n+1=>by rw[List.replicate_succ,List.replicate_succ,List.flatten_cons,a2b x n];rfl
theorem b0G (m:Nat):(List.replicate m [Value.slice none 0 0]).flatten=Y5 (List.replicate m ⟨none,0,[]⟩):=by
 rw[a2b];unfold Y5;rw[List.map_replicate];rfl
theorem b0H {Z:List FSlot} {k:Int} {z:FSlot} (h:Z[k.toNat]? =some z):(Y5 Z)[0+k.toNat*1]? =some z.hdr:=by
 rw[show 0+k.toNat*1=k.toNat from by omega,Y5,List.getElem?_map,h];rfl
theorem b6q (a b:Int):(if b>a then b else a)=max a b:=by split<;>omega
theorem a8B (l m:List Int):f8 l++f8 m=f8 (l++m):=by simp[f8]
theorem a8D (l m:List En):d6 l++d6 m=d6 (l++m):=by simp[d6]
theorem a8A (l:List Int):∀u∈f8 l,u.oneCell'=true:=by
 intro u hu;simp only[f8,List.mem_map]at hu;obtain⟨x,_,rfl⟩:=hu;rfl
theorem b1s (p:Nat) (N:Nand) (hN:N.Ok) (hR:N.Room) (hoff:N.off=false) (n:Int):FP 79 [pp p,iI n] [i4 p N]
  (λv As=>∃q a1 c1 a2 c2,v= .tuple #[svV q (V.scan N n) a1 c1 a2 c2,iI 0]/\As=[i4 p N,TbA q (V.scan N n).tb,c9 155 19 a1 (V.scan N n).torn.length c1 (d6 (V.scan N n).torn),c9 3 1 a2 (V.scan N n).held.length c2 (f8 (V.scan N n).held)]):=by
 have hbd:=hN.bd;refine FE [2,0] Tryz.func79 λX F hX=>?_;refine J.q λbr=>?_;refine J.cF ?_;refine J.qp (a0N p N) [1] λ_=>?_;rw[hoff];refine J.qF λ_=>?_;refine J.qc (a7X n) [] λ_=>?_;rintro v As ⟨q,rfl,rfl⟩;refine⟨_,rfl,trivial,?_⟩;refine J.qn 11 λbo=>?_;rw[b1z];obtain⟨m,hm⟩:∃m:Nat,min (max n 0) 65536=(m:Int):=⟨(min (max n 0) 65536).toNat,by omega⟩;have hms:V.size n=m:=by unfold V.size;omega
 have hm1:m<=65536:=by omega
 rw[hm];refine J.mk 6 λg=>?_;rw[b0G];refine J.q λbs=>?_;refine J.turn1 [] rfl (As:=[.hp (HP.of (a1b (List.replicate m ⟨none,0,[]⟩)))]) (λh s=>Sep.hpOf.2 (Sep.ofAll λA hA h=>by
  unfold a1b at hA;rw[List.map_replicate,List.mem_replicate]at hA;rw[hA.2];exact⟨rfl,rfl,rfl⟩)) rfl ?_
 refine J.qp (R9 p N) [1] λ_=>?_;refine J.q λ_=>?_;refine J.l (α:=(Nat×List FSlot)) (λz=>z.1<=N.blocks/\FOk m (V.upB N z.1) z.2) (λz=>[si 38 z.1,si 37 N.blocks,⟨0,pp p,2, .tt⟩,⟨4,pp (br 0),3, .tt⟩,⟨6,pp (bo 0),5, .tt⟩,⟨7,pp (bs 0),7, .tt⟩]) [4,5,7] (λz=>[.pt (bo 0) 134 (sv0 q (V.upB N z.1)), .pt g 199 (Y5 z.2), .hp (HP.of (a1b z.2))]) (λz=>N.blocks-z.1) ((0,List.replicate m ⟨none,0,[]⟩)) (⟨Nat.zero_le _,FOk.zero m⟩) λz hI=>?_;obtain⟨b,Z⟩:=z;dsimp only at hI ⊢;obtain⟨hb,hZ⟩:=hI;refine J.qd (λ_ h1=>?_) λ_ h1=>?_
 ·simp only[decide_eq_true_eq,Int.ofNat_lt]at h1;refine J.qp (R9 p N) [1] λ_=>?_;rw[<- V.upR_zero]at hZ;rw[<- V.upR_zero];refine J.q λ_=>?_;refine J.l (α:=(Nat×List FSlot)) (λz=>z.1<=N.pages/\FOk m (V.upR N b z.1) z.2) (λz=>[si 44 z.1,si 43 N.pages,si 8 b,si 38 b,si 37 N.blocks,⟨0,pp p,2, .tt⟩,⟨4,pp (br 0),3, .tt⟩,⟨6,pp (bo 0),5, .tt⟩,⟨7,pp (bs 0),7, .tt⟩]) [4,5,7] (λz=>[.pt (bo 0) 134 (sv0 q (V.upR N b z.1)), .pt g 199 (Y5 z.2), .hp (HP.of (a1b z.2))]) (λz=>N.pages-z.1) ((0,Z)) (⟨Nat.zero_le _,hZ⟩) λz hI=>?_;clear hZ Z;obtain⟨r,Z⟩:=z;dsimp only at hI ⊢;obtain⟨hr,hZ⟩:=hI;refine J.qd (λ_ h2=>?_) λ_ h2=>?_
  ·simp only[decide_eq_true_eq,Int.ofNat_lt]at h2;refine J.qc (b5G p N hN hR b r) [1] λ_=>?_;rintro v As ⟨al,cl,rfl,rfl⟩;refine⟨_,rfl,trivial,?_⟩;rw[<- V.upI_zero]at hZ;rw[<- V.upI_zero];refine J.q λ_=>?_;refine J.l (α:=(Nat×List FSlot)) (λz=>z.1<=(R.all N b r).length/\FOk m (V.upI N b r z.1) z.2) (λz=>[si 52 z.1,⟨51,iI (R.all N b r).length,0, .tt⟩,sv 50 (slv al (R.all N b r).length cl),si 9 r,si 44 r,si 43 N.pages,si 8 b,si 38 b,si 37 N.blocks,⟨0,pp p,2, .tt⟩,⟨4,pp (br 0),3, .tt⟩,⟨6,pp (bo 0),5, .tt⟩,⟨7,pp (bs 0),7, .tt⟩]) [4,5,7] (λz=>[.pt (bo 0) 134 (sv0 q (V.upI N b r z.1)), .pt g 199 (Y5 z.2), .hp (HP.of (a1b z.2))]) (λz=>(R.all N b r).length-z.1) ((0,Z)) (⟨Nat.zero_le _,hZ⟩) λz hI=>?_;clear hZ Z;obtain⟨i,Z⟩:=z;dsimp only at hI ⊢;obtain⟨hi,hZ⟩:=hI;refine J.qd (λ_ h3=>?_) λ_ h3=>?_
   ·simp only[decide_eq_true_eq,Int.ofNat_lt]at h3;obtain⟨x,hx⟩:∃x,(R.all N b r)[i]? =some x:=⟨_,List.getElem?_eq_getElem h3⟩;have hup:=V.upI_succ hx;have hrl:=a0H N hN b r;have hxb:=(a1C (List.mem_of_getElem? hx)).2.2;have hul:=b3Z N hN b r i (by omega) (by omega);have hnb:=V.nextOf_bd (b5S N b r i);refine J.know (λh' s=>i9 (c:=(al,cl)) (by omega) (s.get (i:=8) rfl)) λhg=>?_;obtain⟨gl,rfl⟩:=hg;refine J.q λ_=>?_;refine J.v (fdV x) rfl rfl (λhg a w he hs=>?_) ?_
    ·exact q9 tk rfl rfl he rfl rfl rfl (hs.get (i:=8) rfl) (by rw[show 0+(i:Int).toNat*25=i*25 from by omega];exact Q0 hx) rfl
    unfold a1K at hxb;refine J.q λbf=>?_;have hn1:V.nextOf (V.upI N b r (i+1))=max (V.nextOf (V.upI N b r i)) (x.en.seq+1):=by rw[hup,V.nextOf_snoc]
    have hn2:((V.upI N b r i).length:Int)+1=((V.upI N b r (i+1)).length:Int):=by rw[hup,List.length_append];rfl
    rw[b6q,<- hn1,hn2];refine J.p (.of [0,4,9,12,16,20,25,28,32]) [] [6,9] λ_=>?_;refine J.qd (λ_ h4=>?_) λ_ h4=>?_
    ·simp only[decide_eq_true_eq]at h4;obtain⟨z,hz,hzl⟩:=hZ.get (k:=x.en.lpn.toNat) (by omega);have hzle:=hZ.le hz;have hZl:=hZ.len;refine J.openAt 7 x.en.lpn.toNat rfl rfl (a1a hz) rfl ?_;refine J.pn 15 (.of [0,4,8,13,16,20,25,28,32,36,41,44,48,53,56,61,65,70,74,76,83]) [19,20] [5,6,9] λ_ _=>?_;refine J.vT z.hdr rfl rfl (λhg a w he hC=>i7 tk rfl rfl he rfl rfl rfl (hC rfl _ (i6 (i:=5) rfl)) (b0H hz)) ?_;refine J.q λ_=>?_;refine J.append hX tk 10 11 0 rfl rfl rfl rfl rfl rfl rfl rfl rfl rfl rfl rfl rfl rfl rfl rfl ?_ ?_ (λ_=>rfl) λa' c'=>⟨_,(congrArg (λy=>B1 _ 10 (c9 _ _ _ _ _ y)) (Z5 z.l x).symm).trans rfl,⟨rfl,rfl,rfl,trivial⟩,?_⟩
     ·simp only[maxLen];omega
     ·omega
     rw[show z.l.length+1=(z.l++[x]).length from by simp];refine J.q λ_=>?_;have hhit:=hZ.hit (x:=x) (k:=x.en.lpn.toNat) (by omega) hz (z':=⟨a',c',z.l++[x]⟩) rfl;refine J.s1 5 (Y5 (Z.set x.en.lpn.toNat ⟨a',c',z.l++[x]⟩)) ?_ ?_ ?_
     ·rw[show(Y5 Z).length=Z.length from by simp[Y5]];omega
     ·rw[show 0+x.en.lpn.toNat*1=x.en.lpn.toNat from by omega];exact b3e Z _ ⟨a',c',z.l++[x]⟩
     refine J.closeAt (A:=(FSlot.mk a' c' (z.l++[x])).atom) 7 10 x.en.lpn.toNat rfl rfl rfl ?_;rw[b3t];refine J.q λ_=>?_;refine J.n ((i+1,Z.set x.en.lpn.toNat ⟨a',c',z.l++[x]⟩)) (⟨by dsimp only;omega,by dsimp only;rw[hup];exact hhit⟩) (by dsimp only;omega) [0,1,2,3,4,5,6,7,8]
    ·simp only[decide_eq_false_iff_not]at h4;have hmiss:=hZ.miss (x:=x) (by omega);refine J.q λ_=>?_;refine J.n ((i+1,Z)) (⟨by dsimp only;omega,by dsimp only;rw[hup];exact hmiss⟩) (by dsimp only;omega) [0,1,2,3,4,5,6,7,8]
   ·simp only[decide_eq_false_iff_not,Int.ofNat_lt]at h3;obtain rfl:i=(R.all N b r).length:=by omega
    rw[<- V.upR_succ]at hZ;rw[<- V.upR_succ];refine J.q λ_=>?_;refine J.n ((r+1,Z)) (⟨by dsimp only;omega,hZ⟩) (by dsimp only;omega) [0,1,2,3,4,5,6,7]
  ·simp only[decide_eq_false_iff_not,Int.ofNat_lt]at h2;obtain rfl:r=N.pages:=by omega
   rw[<- V.upB_succ]at hZ;rw[<- V.upB_succ];refine J.q λ_=>?_;refine J.n ((b+1,Z)) (⟨by dsimp only;omega,hZ⟩) (by dsimp only;omega) [0,1,2,3,4,5,6,7]
 simp only[decide_eq_false_iff_not,Int.ofNat_lt]at h1;obtain rfl:b=N.blocks:=by omega
 rw[V.upB_all]at hZ;rw[V.upB_all];have hZl:=hZ.len;have hLb:∀f∈V.all N,a1K f.en:=λf hf=>(a8I hf).2;have hLl:=a9B N hN;subst hZl;refine J.q λ_=>?_;refine J.turn1 [] rfl (As:=[c9 155 19 none 0 0 (d6 []),c9 3 1 none 0 0 (f8 []),c9 155 19 none 0 0 (d6 [])]) (λh s=>Sep.ofAll λA hA h=>by
  simp only[List.mem_cons,List.not_mem_nil,or_false]at hA;rcases hA with rfl | rfl | rfl<;>exact⟨rfl,rfl,rfl⟩) rfl ?_
 refine J.q λ_=>?_;refine J.l (α:=(Nat×(Option Nat×Nat)×(Option Nat×Nat)×(Option Nat×Nat))) (λz=>z.1<=Z.length) (λz=>[si 105 z.1,si 104 Z.length,⟨12,slv z.2.2.2.1 (V.goS N (V.all N) n z.1).others.length z.2.2.2.2,0, .tt⟩,⟨0,pp p,2, .tt⟩,⟨4,pp (br 0),3, .tt⟩,⟨6,pp (bo 0),5, .tt⟩,⟨7,pp (bs 0),7, .tt⟩]) [3,4,8,9,10] (λz=>[TbA q (V.goS N (V.all N) n z.1).tb, .pt (bo 0) 134 (svL q (slv z.2.1.1 (V.goS N (V.all N) n z.1).torn.length z.2.1.2) 0 (slv z.2.2.1.1 (V.goS N (V.all N) n z.1).held.length z.2.2.1.2) (V.nextOf (V.all N)) (V.all N).length),c9 155 19 z.2.1.1 (V.goS N (V.all N) n z.1).torn.length z.2.1.2 (d6 (V.goS N (V.all N) n z.1).torn),c9 3 1 z.2.2.1.1 (V.goS N (V.all N) n z.1).held.length z.2.2.1.2 (f8 (V.goS N (V.all N) n z.1).held),c9 155 19 z.2.2.2.1 (V.goS N (V.all N) n z.1).others.length z.2.2.2.2 (d6 (V.goS N (V.all N) n z.1).others)]) (λz=>Z.length-z.1) ((0,(none,0),(none,0),(none,0))) (Nat.zero_le _) λz hI=>?_;obtain⟨k,⟨a1,c1⟩,⟨a2,c2⟩,⟨a3,c3⟩⟩:=z;dsimp only at hI ⊢;have hgl:=V.goS_len N (V.all N) n k;have hgh:=V.goS_held N (V.all N) n k;refine J.qd (λ_ h2=>?_) λ_ h2=>?_
 ·simp only[decide_eq_true_eq,Int.ofNat_lt]at h2;obtain⟨z,hz,hzl⟩:=hZ.get (k:=k) h2;have hzle:=hZ.le hz;have hstep:=V.goS_succ N (V.all N) n k;have hok:=V.goS_ok N (V.all N) n k;have hhl:=V.holds_len (V.of (V.all N) k);have hol:=V.of_len (V.all N) k;have hsm:=V.standOf_mem (l:=V.of (V.all N) k);generalize hS:V.goS N (V.all N) n k=S at hgl hgh hstep hok;refine J.qp (b1q (bs 0) p g Z k z hz (by omega) (by omega)) [6,5,7] λ_=>?_;rw[hzl];unfold V.step at hstep;obtain⟨f,is,hs⟩:∃f is,V.standOf (V.of (V.all N) k)=(f,is):=⟨_,_,rfl⟩;rw[hs]at hsm hstep ⊢;dsimp only at hsm hstep ⊢;refine J.q λbf=>?_;refine J.cond rfl (λh3=>?_) (λh3=>?_)
  ·simp only[Bool.not_eq_true']at h3;subst h3;rw[if_neg Bool.false_ne_true]at hstep;rw[<- hstep];refine J.q λ_=>?_;refine J.n ((k+1,(a1,c1),(a2,c2),(a3,c3))) (by dsimp only;omega) (by dsimp only;omega) [0,1,2,3,4,5,6,7,8,9,10]
  simp only[Bool.not_eq_false']at h3;subst h3;rw[if_pos rfl]at hstep;have hfm:f∈V.all N:=by have:=hsm rfl;unfold V.of at this;exact(List.mem_filter.1 this).1
  obtain⟨⟨r0,hr0,hr1⟩,hfb⟩:=a8I hfm;unfold a1K at hfb;refine J.qp (a2N q S.tb f.en f.block f.row f.slot f.mask (by omega) hok.bd) [3] λ_=>?_;refine J.qd (λ_ h4=>?_) λ_ h4=>?_
  ·rw[if_pos h4]at hstep;have e1:=congrArg Sst.tb hstep;have e2:=congrArg Sst.torn hstep;have e3:=congrArg Sst.held hstep;have e4:=congrArg Sst.others hstep;dsimp only at e1 e2 e3 e4;rw[<- e1,<- e2,<- e3,<- e4];refine J.q λ_=>?_;refine J.n ((k+1,(a1,c1),(a2,c2),(a3,c3))) (by dsimp only;omega) (by dsimp only;omega) [0,1,2,3,4,5,6,7,8,9,10]
  rw[if_neg (by rw[h4];exact Bool.false_ne_true)]at hstep;refine J.qp (b5Q p N hN hR (bs 0) (.slice (some ⟨g,0,none⟩) Z.length Z.length) f r0 hr0 (by omega)) [1,6] λ_=>?_;refine J.qd (λ_ h5=>?_) λ_ h5=>?_
  ·rw[if_pos h5]at hstep;have e1:=congrArg Sst.tb hstep;have e2:=congrArg Sst.torn hstep;have e3:=congrArg Sst.held hstep;have e4:=congrArg Sst.others hstep;dsimp only at e1 e2 e3 e4;refine J.q λ_=>?_;refine J.ap 8 12 0 (I4 S.torn f.en) λa4 c4=>?_;rw[show S.torn.length+1=(S.torn++[f.en]).length from by simp];refine J.p (.of [0,5,8,12,18,23,24,31]) [5,6,7] [4] λ_=>?_;refine J.qc (b3X (bs 0) p g Z k z hz (by omega) (by omega)) [6,5,7] λ_=>?_;rintro v As ⟨a5,c5,rfl,rfl⟩;refine⟨_,rfl,stq,?_⟩;rw[hzl];refine J.q λ_=>?_;refine J.appendO hX tk 9 13 rfl rfl rfl rfl rfl rfl rfl rfl rfl rfl rfl rfl rfl (a8A _) ?_ ?_ (λ_=>rfl) λa6 c6=>⟨_,(congrArg (λy=>B1 _ 9 (c9 _ _ _ _ _ y)) (a8B S.held (V.holds (V.of (V.all N) k)))).trans rfl,stq,?_⟩
   ·simp only[maxLen];omega
   ·omega
   rw[show S.held.length+(V.holds (V.of (V.all N) k)).length=(S.held++V.holds (V.of (V.all N) k)).length from by simp];rw[<- e1,<- e2,<- e3,<- e4];refine J.q λ_=>?_;refine J.n ((k+1,(a4,c4),(a6,c6),(a3,c3))) (by dsimp only;omega) (by dsimp only;omega) [0,1,2,3,4,5,6,7,8,9,10]
  ·rw[if_neg (by rw[h5];exact Bool.false_ne_true)]at hstep;have e1:=congrArg Sst.tb hstep;have e2:=congrArg Sst.torn hstep;have e3:=congrArg Sst.held hstep;have e4:=congrArg Sst.others hstep;dsimp only at e1 e2 e3 e4;refine J.q λ_=>?_;refine J.ap 10 12 0 (I4 S.others f.en) λa4 c4=>?_;rw[show S.others.length+1=(S.others++[f.en]).length from by simp];rw[<- e1,<- e2,<- e3,<- e4];refine J.q λ_=>?_;refine J.n ((k+1,(a1,c1),(a2,c2),(a4,c4))) (by dsimp only;omega) (by dsimp only;omega) [0,1,2,3,4,5,6,7,8,9,10]
 simp only[decide_eq_false_iff_not,Int.ofNat_lt]at h2;obtain rfl:k=Z.length:=by omega
 have hsc:V.scan N n=⟨(V.goS N (V.all N) n Z.length).tb,(V.goS N (V.all N) n Z.length).torn++(V.goS N (V.all N) n Z.length).others,(V.goS N (V.all N) n Z.length).torn.length,n8 (I7 (V.goS N (V.all N) n Z.length).held),V.nextOf (V.all N),(V.all N).length⟩:=by
  unfold V.scan V.scanOf;rw[hms]
 generalize V.goS N (V.all N) n Z.length=S at hgl hgh hsc;refine J.q λ_=>?_;refine J.appendO hX tk 8 10 rfl rfl rfl rfl rfl rfl rfl rfl rfl rfl rfl rfl rfl (a3S _) ?_ ?_ (λ_=>rfl) λa6 c6=>⟨_,(congrArg (λy=>B1 _ 8 (c9 _ _ _ _ _ y)) (a8D S.torn S.others)).trans rfl,stq,?_⟩
 ·simp only[maxLen];omega
 ·omega
 rw[show S.torn.length+S.others.length=(S.torn++S.others).length from by simp];refine J.qp (b3R a2 S.held.length c2 S.held rfl (by omega)) [9] λ_=>?_;refine J.q λ_=>?_;refine J.ca hX (by kernel_rfl) (a4t a2 S.held.length c2 (I7 S.held) (R6 _) (by omega)) [9] 0 rfl rfl rfl rfl rfl rfl (λ_=>rfl) ?_;rintro v As ⟨l',hl',rfl,rfl⟩;refine⟨_,rfl,trivial,?_⟩;refine J.qr [1,3,8,9] λ_=>?_;rw[hsc,<- hl'];exact⟨q,a6,c6,a2,c2,rfl,rfl⟩
end Go.Proofs.YtnffkcabeecopaaGreat
namespace Go.Proofs.YtnffkcabeecopaaGreat
def a3m (l:List Int):List Int:=n8 (I7 l)
theorem V5:∀(l:List Int) (p:Int),(p::l).Pairwise (· <= ·)->(o0 p l).Pairwise (· < ·)/\(∀c∈o0 p l,p<c)/\∀c,c∈o0 p l\/c=p↔c∈l\/c=p
 | [],p,_=>by simp[o0]
 | x::l,p,h=>by
  have h1:=List.pairwise_cons.1 h;simp only[o0]
  by_cases e:x=p
  ·subst e;obtain⟨a,b,c⟩:=V5 l x h1.2;rw[if_pos rfl];refine⟨a,b,λd=>?_⟩;rw[c d,List.mem_cons];constructor
   ·rintro(h | h)<;>simp[h]
   ·rintro((h | h) | h)<;>simp[h]
  ·obtain⟨a,b,c⟩:=V5 l x h1.2;have hx:p<x:=by have:=h1.1 x (List.mem_cons_self ..);omega
   rw[if_neg e];refine⟨List.pairwise_cons.2 ⟨b,a⟩,λd hd=>?_,λd=>?_⟩
   ·rcases List.mem_cons.1 hd with rfl | hd
    ·exact hx
    ·have:=b d hd;omega
   ·have:=c d;rw[List.mem_cons,List.mem_cons];constructor
    ·rintro((h | h) | h)
     ·simp[h]
     ·rcases this.1 (.inl h)with h | h<;>simp[h]
     ·simp[h]
    ·rintro((h | h) | h)
     ·simp[h]
     ·rcases this.2 (.inl h)with h | h<;>simp[h]
     ·simp[h]
theorem a5A (l:List Int):(I7 l).Pairwise (· <= ·):=by
 have:=List.pairwise_mergeSort (le:=leI) (λa b c h1 h2=>by simp only[leI,decide_eq_true_eq]at*;omega) (λa b=>by simp only[leI,Bool.or_eq_true,decide_eq_true_eq];omega) l;exact this.imp (λh=>by simpa[leI]using h)
theorem a9Q (l:List Int) (c:Int):c∈I7 l↔c∈l:=List.mem_mergeSort
theorem a8i (l:List Int):(a3m l).Pairwise (· < ·)/\∀c,c∈a3m l↔c∈l:=by
 have hs:=a5A l;have hm:=a9Q l;unfold a3m
 revert hs hm
 cases I7 l with
 | nil=>intro _ hm;exact⟨by simp[n8],λc=>by rw[<- hm c];simp[n8]⟩
 | cons x m=>
  intro hs hm;obtain⟨a,b,c⟩:=V5 m x hs;refine⟨List.pairwise_cons.2 ⟨b,a⟩,λd=>?_⟩;rw[<- hm d];show d∈x::o0 x m↔_;rw[List.mem_cons,List.mem_cons];have:=c d;constructor
  ·rintro(h | h)
   ·simp[h]
   ·rcases this.1 (.inl h)with h | h<;>simp[h]
  ·rintro(h | h)
   ·simp[h]
   ·rcases this.2 (.inl h)with h | h<;>simp[h]
theorem a1s:a3m []=[]:=by have:=(a8i []).2;exact List.eq_nil_iff_forall_not_mem.2 (λc hc=>by simpa using(this c).1 hc)
theorem b0f (l:List Int):(a3m l).length<=l.length:=by
 have h:∀(l:List Int),(n8 l).length<=l.length:=λl=>by
  have:∀(l:List Int) (p:Int),(o0 p l).length<=l.length:=λl=>by
   induction l with
   | nil=>intro p;simp[o0]
   | cons x l ih=>intro p;simp only[o0];split<;>simp only[List.length_cons]<;>have:=ih x<;>have:=ih p<;>omega
  cases l with
  | nil=>simp[n8]
  | cons x l=>have:=this l x;simp only[n8,List.length_cons];omega
 have:=h (I7 l);rw[R6]at this;exact this
namespace V
theorem standOf_nil:standOf []=(Fnd.zero,false):=rfl
theorem tops_snoc (l:List Fnd) (x:Fnd):tops (l++[x])=topsStep (tops l) x:=by unfold tops;rw[List.foldl_append];rfl
theorem standOf_snoc (l:List Fnd) (x:Fnd):standOf (l++[x])=if(standOf l).2=false\/behind (standOf l).1 x=true then(x,true)else standOf l:=by
 unfold standOf;rw[tops_snoc];cases tops l with
 | nil=>simp[topsStep]
 | cons h t=>
  simp only[topsStep,Bool.true_eq_false,false_or]
  by_cases hb:behind h x=true
  ·rw[if_pos hb,if_pos hb]
  ·rw[if_neg hb,if_neg hb]
   by_cases hb2:behind x h=true
   ·rw[if_pos hb2]
   ·rw[if_neg hb2];rfl
end V
end Go.Proofs.YtnffkcabeecopaaGreat
namespace Go.Proofs.YtnffkcabeecopaaGreat
open Go Go.RowKit
namespace B16
def e1:En:=⟨2,5,1,1::List.replicate 15 0⟩
def e2:En:=⟨2,4,1,2::List.replicate 15 0⟩
def e3:En:=⟨1,8,2,zeros16⟩
def w1:En:=⟨4,1,0,zeros16⟩
def w2:En:=⟨5,2,0,zeros16⟩
def w3:En:=⟨4,3,0,zeros16⟩
def N0:Nand:=Nand.new 3 8 2
def N1:Nand:=(R.write N0 1 0 7 [e1,B9.pad]).1
def N2:Nand:=(R.write N1 2 0 7 [e2,e3]).1
theorem G0:N0.Gd 100 0:=Nand.Gd.new 3 8 2 rfl 100 (by decide)
theorem G1:N1.Gd 92 0:=a0y (by decide) G0
theorem G2:N2.Gd 84 0:=a0y (by decide) G1
theorem off2:N2.off=false:=by kernel_rfl
def L:List Fnd:=[⟨e1,1,0,0,7,true,false⟩,⟨e2,2,0,0,7,true,false⟩,⟨e3,2,0,1,7,true,false⟩]
def T:Tb:=⟨3,[(1,⟨2,0,1,7,8,2⟩),(2,⟨1,0,0,7,5,1⟩)],[(2,1),(1,1)],9⟩
theorem h_all:V.all N2=L:=by kernel_rfl
theorem h_go:V.goS N2 L 3 3=⟨T,[],[],[]⟩:=by kernel_rfl
theorem h_size:V.size 3=3:=by kernel_rfl
theorem h_next:V.nextOf L=9:=by kernel_rfl
theorem h_scan:V.scan N2 3=⟨T,[],0,[],9,3⟩:=by
 unfold V.scan;rw[h_all];unfold V.scanOf;rw[h_size,h_go,h_next];have:n8 (I7 [])=[]:=a1s;dsimp only;rw[this];rfl
end B16
end Go.Proofs.YtnffkcabeecopaaGreat
namespace Go.Proofs.YtnffkcabeecopaaGreat
open Go Go.RowKit
theorem b0u:FP 242 [] [] (Ps (.bool true) []):=by
 refine FE [] Tryz.func242 λX F hX=>?_;refine J.qp (b0t) [] λ_=>?_;exact J.qx []
open B16
theorem b0p:FP 205 [] [] (Ps (.bool true) []):=by
 refine FE [] Tryz.func205 λX F hX=>?_;refine J.qc (a4L 3 8 2 rfl) [] λ_=>?_;rintro v As ⟨q,rfl,rfl⟩;refine⟨_,rfl,trivial,?_⟩;refine J.qF λ_=>?_;refine J.q λbx=>?_;refine J.ca hX (by kernel_rfl) (a2y q N0 (.pt (bx 0) 155 (d6 [e1,B9.pad])) 1 0 7 (some ⟨bx 0,0,none⟩) 2 2 0 [e1,B9.pad] (W4 _ _ _ _ _ rfl) rfl (by decide) (G0.less (by decide) (Nat.le_refl _))) [1,2] 0 rfl rfl rfl rfl rfl rfl (λ_=>rfl) ?_;refine cpq ⟨_,rfl,trivial,?_⟩;refine J.q λby_=>?_;refine J.ca hX (by kernel_rfl) (a2y q N1 (.pt (by_ 0) 155 (d6 [e2,e3])) 2 0 7 (some ⟨by_ 0,0,none⟩) 2 2 0 [e2,e3] (W4 _ _ _ _ _ rfl) rfl (by decide) (G1.less (by decide) (Nat.le_refl _))) [1,3] 0 rfl rfl rfl rfl rfl rfl (λ_=>rfl) ?_;refine cpq ⟨_,rfl,trivial,?_⟩;refine J.qc (b1s q N2 G2.ok G2.room off2 3) [1] λ_=>?_;rintro v As ⟨r,a1,c1,a2,c2,rfl,rfl⟩;refine⟨_,rfl,trivial,?_⟩;rw[h_scan];refine J.qF λ_=>?_;refine J.qp (a1n r T 2) [4] λ_=>?_;rw[show Tb.look T.at_ 2=some ⟨1,0,0,7,5,1⟩from rfl,Option.getD_some,Option.isSome_some];refine J.qc (b5M) [] λ_=>?_;rintro v As ⟨d,rfl,rfl⟩;refine⟨_,rfl,trivial,?_⟩;refine J.qp (a9u d [] (by decide) w1) [9] λ_=>?_;rw[show I2 [] w1=[w1]from rfl];refine J.qp (a9u d [w1] (by decide) w2) [9] λ_=>?_;rw[show I2 [w1] w2=[w1,w2]from rfl];refine J.qp (a9u d [w1,w2] (by decide) w3) [9] λ_=>?_;rw[show I2 [w1,w2] w3=[w2,w3]from rfl];refine J.qc (a9w d [w2,w3] (by decide) 5) [9] λ_=>?_;rintro v As ⟨a3,c3,rfl,rfl⟩;refine⟨_,rfl,trivial,?_⟩;rw[show dkN [w2,w3] 5=2 from rfl,show[w2,w3].take 2=[w2,w3]from rfl];refine J.know (λh' s=>i9 (c:=(a3,c3)) (by decide) (s.get (i:=10) rfl)) λhg=>?_;obtain⟨ga,rfl⟩:=hg;refine J.know (λh' s=>I9 (show J5 _ _ (some ga) 2 c3 _ _ from s.get (i:=10) rfl)) λhcap=>?_;refine J.qp (b5N d [w2,w3] (by decide) 4) [9] λ_=>?_;rw[show T7 [w2,w3] 4=(w3,true)from rfl];refine J.qp (b0u) [] λ_=>?_;refine J.qp (b0s) [] λ_=>?_;refine J.qp (b1A r T) [4] λ_=>?_;refine J.q λ_=>?_;refine J.v (iI 5) rfl rfl (λhg a w he hw=>j9 tk rfl rfl he hg rfl rfl (hw.get (i:=10) rfl) rfl) ?_;refine J.q λ_=>?_;have hRd:Rd (c9 155 19 (some ga) 2 c3 (d6 [w2,w3])) (some ⟨ga,0,none⟩) 19 1 (d6 [w2]):=(D0 155 19 (some ga) 2 c3 (d6 [w2,w3])).take 1 (by decide);refine J.qp (b3z d [w2,w3] (by decide) (c9 155 19 (some ga) 2 c3 (d6 [w2,w3])) (some ⟨ga,0,none⟩) 1 c3 [w2] hRd rfl (by decide)) [9,10] λ_=>?_;rw[show J1 [w2,w3] [w2]=[w3]from rfl];refine J.qp (a9v d [w3]) [9] λ_=>?_;exact J.qx []
end Go.Proofs.YtnffkcabeecopaaGreat
namespace Go.Proofs.YtnffkcabeecopaaGreat
open Go Go.RowKit
namespace K
theorem xor_cancel {a b c:Nat} (h:a ^^^ c=b ^^^ c):a=b:=by
 have:=congrArg (· ^^^ c) h;simpa[Nat.xor_assoc]using this
theorem round_inj {s t:Nat} (hs:s<4294967296) (ht:t<4294967296) (h:round s=round t):s=t:=by
 have odd:∀a:Nat,a % 2=0->(a ^^^ 1947962583) % 2=1:=λa ha=>by
  have h0:(a ^^^ 1947962583).testBit 0=true:=by
   rw[Nat.testBit_xor,Nat.testBit_zero,Nat.testBit_zero,decide_eq_false (by omega)];rfl
  rw[Nat.testBit_zero]at h0;exact of_decide_eq_true h0
 unfold round at h;split at h
 ·split at h
  ·omega
  ·have:=odd (t*2 % 4294967296) (by omega);omega
 ·split at h
  ·have:=odd (s*2 % 4294967296) (by omega);omega
  ·have:=xor_cancel h;omega
theorem rounds_inj:∀(n:Nat) {s t:Nat},s<4294967296->t<4294967296->rounds n s=rounds n t->s=t
 | 0,_,_,_,_,h=>h
 | n+1,s,t,hs,ht,h=>rounds_inj n hs ht (round_inj (rounds_lt n s hs) (rounds_lt n t ht) h)
theorem step_lt0 {s x:Nat} (hs:s<4294967296) (hx:x<256):s ^^^ (x*16777216)<4294967296:=Nat.xor_lt_two_pow (n:=32) (by omega) (by omega)
theorem step_inj {s t x:Nat} (hs:s<4294967296) (ht:t<4294967296) (hx:x<256) (h:step s x=step t x):s=t:=
 xor_cancel (rounds_inj 8 (step_lt0 hs hx) (step_lt0 ht hx) h)
theorem step_inj2 {s x y:Nat} (hs:s<4294967296) (hx:x<256) (hy:y<256) (h:step s x=step s y):x=y:=by
 have h1:=rounds_inj 8 (step_lt0 hs hx) (step_lt0 hs hy) h;rw[Nat.xor_comm s,Nat.xor_comm s]at h1;have:=xor_cancel h1;omega
theorem fold_inj (l:List UInt8):∀s t:Nat,s<4294967296->t<4294967296->l.foldl (λs x=>step s x.toNat) s=l.foldl (λs x=>step s x.toNat) t->s=t:=by
 induction l with
 | nil=>intro s t _ _ h;exact h
 | cons x l ih=>
  intro s t hs ht h;have hx:x.toNat<256:=x.toNat_lt;rw[List.foldl_cons,List.foldl_cons]at h;exact step_inj hs ht hx (ih _ _ (step_lt _ _ hs hx) (step_lt _ _ ht hx) h)
theorem sum_one (a b:List UInt8) (x y:UInt8) (h:sum (a++x::b)=sum (a++y::b)):x=y:=by
 unfold sum at h;rw[List.foldl_append,List.foldl_append,List.foldl_cons,List.foldl_cons]at h;have hs:=foldl_lt a 4294967295 (by omega);have hx:x.toNat<256:=x.toNat_lt;have hy:y.toNat<256:=y.toNat_lt;have:=step_inj2 hs hx hy (fold_inj b _ _ (step_lt _ _ hs hx) (step_lt _ _ hs hy) h);exact UInt8.toNat_inj.1 this
end K
namespace Bt
theorem byteAt_congr {a b:List Bool} {i j:Nat} (h:∀k,k<8->a.getD (i+k) false=b.getD (j+k) false):byteAt a i=byteAt b j:=by
 have h0:=h 0 (by omega);rw[Nat.add_zero,Nat.add_zero]at h0;unfold byteAt;rw[h0,h 1 (by omega),h 2 (by omega),h 3 (by omega),h 4 (by omega),h 5 (by omega),h 6 (by omega),h 7 (by omega)]
theorem pack_append (A C:List Bool) (q:Nat) (hA:A.length=8*q):pack (A++C)=pack A++pack C:=by
 apply List.ext_getElem?;intro j;have hl:(pack A).length=q:=by rw[length_pack,hA];omega
 rw[List.getElem?_append,hl]
 by_cases hj:j<(A.length+C.length+7)/8
 ·rw[pack_get _ _ (by rw[List.length_append];exact hj)];split
  ·rename_i h;rw[pack_get _ _ (by rw[hA];omega)];congr 2;refine byteAt_congr λk hk=>?_;simp only[List.getD_eq_getElem?_getD];rw[List.getElem?_append_left (by omega)]
  ·rename_i h;rw[pack_get _ _ (by omega)];congr 2;refine byteAt_congr λk hk=>?_;simp only[List.getD_eq_getElem?_getD];rw[List.getElem?_append_right (by omega)];congr 2;omega
 ·rw[List.getElem?_eq_none (by rw[length_pack,List.length_append];omega),if_neg (by omega),List.getElem?_eq_none (by rw[length_pack];omega)]
theorem bits_inj {u v:Nat} (hu:u<4294967296) (hv:v<4294967296) (h:pack (bits u 32)=pack (bits v 32)):u=v:=by
 have h1:=numAt_pack [] [] u 32 0 rfl;have h2:=numAt_pack [] [] v 32 0 rfl;simp only[List.nil_append,List.append_nil]at h1 h2;rw[h,h2]at h1;omega
end Bt
namespace S
theorem put_tail (s:Sh) (hs:s.data.length=16):put s=(put s).take 28++Bt.pack (Bt.bits (K.sum ((put s).take 28)) 32):=by
 have hl:(Bt.pack (head s)).length=12:=by rw[Bt.length_pack,length_head]
 have h1:put s=(s.data++Bt.pack (head s))++Bt.pack (Bt.bits (K.sum (s.data++Bt.pack (head s))) 32):=by
  unfold put;rw[Bt.pack_append _ _ 12 (length_head s),List.append_assoc]
 have h2:(put s).take 28=s.data++Bt.pack (head s):=by
  rw[h1];exact List.take_left' (by rw[List.length_append,hs,hl])
 rw[h2];exact h1
theorem turned_none (s:Sh) (hs:s.data.length=16) (N:Nat) (hN:N<32) (y:UInt8) (hy:y≠(put s).getD N 0):get ((put s).set N y)=none:=by
 have hpl:=length_put s hs;unfold get;rw[if_neg];rintro⟨_,h2⟩;have hx:(fields ((put s).set N y)).data.length=16:=by
  show(((put s).set N y).take 16).length=16;rw[List.length_take,List.length_set,hpl];rfl
 have t1:=put_tail s hs;have t2:=put_tail (fields ((put s).set N y)) hx;rw[h2]at t2;have hd:∀l:List UInt8,l.length=32->∀t,l=l.take 28++t->l.drop 28=t:=λl hl t h=>by
  have:=congrArg (List.drop 28) h
  rwa [List.drop_left' (by rw[List.length_take,hl];rfl)]at this
 have d1:=hd _ hpl _ t1;have d2:=hd _ (by rw[List.length_set];exact hpl) _ t2;have hg:(put s).getD N 0=(put s)[N]'(by omega):=by rw[List.getD_eq_getElem?_getD,List.getElem?_eq_getElem (by omega),Option.getD_some]
 rcases Nat.lt_or_ge N 28 with h | h
 ·have e1:((put s).set N y).drop 28=(put s).drop 28:=by rw[List.drop_set,if_pos h]
  rw[e1,d1]at d2;have hsum:=Bt.bits_inj (K.sum_lt _) (K.sum_lt _) d2;have hl28:((put s).take 28).length=28:=by rw[List.length_take,hpl];rfl
  have hN28:N<((put s).take 28).length:=by omega
  have hel:((put s).take 28)[N]=(put s)[N]'(by omega):=List.getElem_take;have ha:(put s).take 28=((put s).take 28).take N++(put s)[N]'(by omega)::((put s).take 28).drop (N+1):=by
   rw[<- hel,<- List.drop_eq_getElem_cons hN28,List.take_append_drop]
  have hb:((put s).set N y).take 28=((put s).take 28).take N++y::((put s).take 28).drop (N+1):=by
   rw[List.take_set,List.set_eq_take_append_cons_drop,if_pos (by omega)]
  rw[hb]at hsum;have hsum:=(congrArg K.sum ha).symm.trans hsum;exact hy ((K.sum_one _ _ _ _ hsum).symm.trans hg.symm)
 ·have e1:((put s).set N y).take 28=(put s).take 28:=by rw[List.take_set,List.set_eq_of_length_le (by rw[List.length_take,hpl];omega)]
  rw[e1]at t2;have e2:(put s).set N y=put s:=t2.trans t1.symm;have:=congrArg (λl:List UInt8=>l.getD N 0) e2;simp only[List.getD_eq_getElem?_getD,List.getElem?_set,hpl,if_pos hN,if_true,Option.getD_some]at this;rw[List.getD_eq_getElem?_getD]at hy;exact hy this
end S
section
variable {P : Program} {T : Tab} {E : Env} {n : Nat} {ac : Act} {w : World}
end
theorem gD {l:List Int} {i:Nat} (h:i<l.length):l[i]? =some (l.getD i 0):=by rw[List.getD_eq_getElem?_getD,List.getElem?_eq_getElem h,Option.getD_some]
theorem a0D (l:List Int) {j:Nat} (h1:1<=j) (h:j<l.length) (i:Nat):(a2O l j).getD i 0=if i=j-1 then l.getD j 0 else if i=j then l.getD (j-1) 0 else l.getD i 0:=by
 unfold a2O;rw[List.getD_eq_getElem?_getD,List.getElem?_set,List.length_set]
 by_cases e:j-1=i
 ·rw[if_pos e,if_pos (by omega),if_pos e.symm,Option.getD_some]
 ·rw[if_neg e,if_neg (by omega),List.getElem?_set]
  by_cases e2:j=i
  ·rw[if_pos e2,if_pos (by omega),if_pos e2.symm,Option.getD_some]
  ·rw[if_neg e2,if_neg (by omega),<- List.getD_eq_getElem?_getD]
theorem b2u {l:List Int} {x:Int}:x∈l↔∃i,i<l.length/\l.getD i 0=x:=by
 constructor
 ·intro h;obtain⟨i,hi,e⟩:=List.getElem_of_mem h;exact⟨i,hi,by rw[List.getD_eq_getElem?_getD,List.getElem?_eq_getElem hi,Option.getD_some];exact e⟩
 ·rintro⟨i,hi,e⟩;exact List.mem_of_getElem? (by rw[gD hi,e])
theorem b4k (l:List Int) {j:Nat} (h1:1<=j) (h:j<l.length) (x:Int):x∈a2O l j↔x∈l:=by
 rw[b2u,b2u,R5];constructor
 ·rintro⟨i,hi,e⟩;rw[a0D l h1 h]at e;split at e
  ·exact⟨j,h,e⟩
  ·split at e
   ·exact⟨j-1,by omega,e⟩
   ·exact⟨i,hi,e⟩
 ·rintro⟨i,hi,e⟩
  by_cases e1:i=j
  ·exact⟨j-1,by omega,by rw[a0D l h1 h,if_pos rfl,<- e1,e]⟩
  ·by_cases e2:i=j-1
   ·exact⟨j,h,by rw[a0D l h1 h,if_neg (by omega),if_pos rfl,<- e2,e]⟩
   ·exact⟨i,hi,by rw[a0D l h1 h,if_neg e2,if_neg e1,e]⟩
theorem a6H:∀(j:Nat) (l:List Int) (x:Int),j<l.length->(x∈X4 j l↔x∈l)
 | 0,_,_,_=>Iff.rfl
 | j+1,l,x,h=>by
  unfold X4;split
  ·rw[a6H j _ x (by rw[R5];omega),b4k l (by omega) h]
  ·exact Iff.rfl
theorem a4x:∀(j n:Nat) (l:List Int),j<=n->n<l.length->(∀a b,a<b->b<=n->a≠j->b≠j->l.getD a 0<=l.getD b 0)->(∀b,j<b->b<=n->l.getD j 0<=l.getD b 0)->∀a b,a<b->b<=n->(X4 j l).getD a 0<=(X4 j l).getD b 0
 | 0,n,l,_,_,hs,hu=>λa b hab hb=>by
  unfold X4
  by_cases e:a=0
  ·subst e;exact hu b hab hb
  ·exact hs a b hab hb e (by omega)
 | j+1,n,l,hj,hn,hs,hu=>by
  unfold X4;split
  ·rename_i hlt;have g:=a0D l (j:=j+1) (by omega) (by omega);simp only[Nat.add_sub_cancel]at g;refine a4x j n (a2O l (j+1)) (by omega) (by rw[R5];exact hn) (λa b hab hb ha hbj=>?_) (λb hjb hb=>?_)
   ·rw[g,g,if_neg ha,if_neg hbj]
    by_cases e1:a=j+1
    ·rw[if_pos e1,if_neg (by omega)];exact hs j b (by omega) hb (by omega) (by omega)
    ·rw[if_neg e1]
     by_cases e2:b=j+1
     ·rw[if_pos e2];exact hs a j (by omega) (by omega) e1 (by omega)
     ·rw[if_neg e2];exact hs a b hab hb e1 e2
   ·rw[g,g,if_pos rfl,if_neg (by omega)]
    by_cases e2:b=j+1
    ·rw[if_pos e2];omega
    ·rw[if_neg e2];exact hu b (by omega) hb
  ·rename_i hge;intro a b hab hb
   by_cases e1:a=j+1
   ·subst e1;exact hu b hab hb
   ·by_cases e2:b=j+1
    ·subst e2
     by_cases e3:a=j
     ·subst e3;omega
     ·have:=hs a j (by omega) (by omega) e1 (by omega);omega
    ·exact hs a b hab hb e1 e2
theorem a4Y (l:List Int) (x:Int):∀k,k<l.length->(x∈E9 l k↔x∈l)
 | 0,_=>Iff.rfl
 | k+1,h=>by
  unfold E9;rw[a6H _ _ x (by rw[P4];exact h)];exact a4Y l x k (by omega)
theorem a3A (l:List Int):∀k,k<l.length->∀a b,a<b->b<=k->(E9 l k).getD a 0<=(E9 l k).getD b 0
 | 0,_=>λa b hab hb=>by omega
 | k+1,h=>by
  unfold E9;have ih:=a3A l k (by omega);exact a4x (k+1) (k+1) (E9 l k) (Nat.le_refl _) (by rw[P4];exact h) (λa b hab hb ha hbk=>ih a b hab (by omega)) (λb hb1 hb2=>by omega)
theorem a8t (l:List Int) (x:Int):x∈E8 l↔x∈l:=by
 unfold E8;cases l with
 | nil=>exact Iff.rfl
 | cons y l=>exact a4Y (y::l) x _ (by simp)
theorem a7p (l:List Int):(E8 l).Pairwise (· <= ·):=by
 rw[List.pairwise_iff_getElem];intro i j hi hj hij;have hl:(E8 l).length=l.length:=J9 l;have h:=a3A l (l.length-1) (by omega) i j hij (by omega);have h1:(E8 l).getD i 0<=(E8 l).getD j 0:=h
 rwa [List.getD_eq_getElem?_getD,List.getD_eq_getElem?_getD,List.getElem?_eq_getElem hi,List.getElem?_eq_getElem hj]at h1
theorem a0u:∀(l:List Int) (p:Int),(p::l).Pairwise (· <= ·)->(p::o0 p l).Pairwise (· < ·)/\∀y,y∈p::o0 p l↔y∈p::l
 | [],p,_=>⟨by simp[o0],λy=>by simp[o0]⟩
 | x::l,p,h=>by
  have hpx:=List.pairwise_cons.1 h;have hx:=List.pairwise_cons.1 hpx.2;unfold o0
  by_cases e:x=p
  ·rw[if_pos e,e];obtain⟨s1,s2⟩:=a0u l p (List.pairwise_cons.2 ⟨λy hy=>hpx.1 y (by simp[hy]),hx.2⟩);refine⟨s1,λy=>?_⟩;rw[s2 y];simp
  ·rw[if_neg e];obtain⟨s1,s2⟩:=a0u l x hpx.2;have hlt:p<x:=by have:=hpx.1 x (by simp);omega
   refine⟨List.pairwise_cons.2 ⟨λy hy=>?_,s1⟩,λy=>?_⟩
   ·have hy2:=(s2 y).1 hy;rcases List.mem_cons.1 hy2 with e2 | e2
    ·omega
    ·have:=hx.1 y e2;omega
   ·have:=s2 y;simp only[List.mem_cons]at this ⊢;constructor
    ·rintro(h1 | h1)
     ·exact .inl h1
     ·exact .inr (this.1 h1)
    ·rintro(h1 | h1)
     ·exact .inl h1
     ·exact .inr (this.2 h1)
theorem a3M (l:List Int) (h:l.Pairwise (· <= ·)):(n8 l).Pairwise (· < ·)/\∀y,y∈n8 l↔y∈l:=by
 cases l with
 | nil=>exact⟨List.Pairwise.nil,λy=>Iff.rfl⟩
 | cons p l=>exact a0u l p h
structure Nand.Lit (N:Nand):Prop where
 off:N.off=false
 cuts:N.cuts=false
namespace Nand
theorem Lit.cutB {N:Nand} (h:N.Lit):N.cutB=false:=by unfold Nand.cutB;rw[h.cuts];rfl
theorem Lit.cutN {N:Nand} (h:N.Lit):N.cutN.Lit:=by
 constructor
 ·show(if N.cutB then true else N.off)=false;rw[h.cutB];exact h.off
 ·show(if N.cutB then false else N.cuts)=false;rw[h.cutB];exact h.cuts
theorem Lit.new (d b p:Nat):(Nand.new d b p).Lit:=⟨rfl,rfl⟩
theorem Lit.prog {N:Nand} (h:N.Lit) (x y z:Int) (pg:List UInt8):(N.progN x y z pg).Lit:=by
 unfold Nand.progN;split
 ·exact h
 ·split
  ·exact⟨h.off,h.cuts⟩
  ·rw[h.cutB];exact⟨h.cutN.off,h.cutN.cuts⟩
theorem Lit.erase {N:Nand} (h:N.Lit) (x y:Int):(N.eraseN x y).Lit:=by
 unfold Nand.eraseN;dsimp only;rw[h.cutB];split
 ·exact h
 ·rw[if_neg (by decide)];split
  ·exact⟨h.cutN.off,h.cutN.cuts⟩
  ·exact⟨h.cutN.off,h.cutN.cuts⟩
end Nand
theorem a0Y {α:Type} (f:α->List Value) (w:Nat) (hw:∀x,(f x).length=w):∀(l:List α) (k:Nat) (x:α),l[k]? =some x->((l.flatMap f).drop (k*w)).take w=f x
 | [],k,x,h=>by simp at h
 | y::l,0,x,h=>by
  simp at h;subst h;rw[List.flatMap_cons,Nat.zero_mul,List.drop_zero,List.take_left' (hw y)]
 | y::l,k+1,x,h=>by
  have ih:=a0Y f w hw l k x (by simpa using h);rw[List.flatMap_cons,show(k+1)*w=(f y).length+k*w from by rw[hw y,Nat.add_mul,Nat.one_mul,Nat.add_comm],<- List.drop_drop,List.drop_left' rfl];exact ih
end Go.Proofs.YtnffkcabeecopaaGreat
namespace Go.Proofs.YtnffkcabeecopaaGreat
open Go Go.RowKit
open Go.ChangeShapes Go.WideShapes
def frz (W:World):Atom:= .hp ⟨Hle (hl W),λ_ _ l s=>s.trans l⟩
theorem Fn.whole {P:Program} {f:FuncId} {args:List Value} {r:Value} {W:World} (h:Fn P f args [frz W] (λv As=>v=r/\As=[frz W])):Calls P f args.toArray W λe w'=>e= .returned r/\Below W.heap.size W w':=by
 have hs:Sep (.hp ⟨λ_=>True,λ_ _ _ s=>s⟩::[frz W]) (hl W):=by
  refine⟨λ_=>1,λi A hA=>?_⟩
  match i,hA with
  | 0,hA=>simp at hA;subst hA;trivial
  | 1,hA=>
   simp at hA;subst hA;intro b o hb;exact res_some.2 ⟨rfl,hb⟩
  | i+2,hA=>simp at hA
 refine(h _ W hs).mono λe w' ⟨v,As,e1,⟨e2,e3⟩,s,x⟩=>?_;subst e2 e3;have hle:Hle (hl W) (hl w'):=s.get (i:=1) rfl;refine⟨e1,x.os,x.tape,x.output,x.size,λk hk=>?_⟩;have:W.heap[k]? =some W.heap[k]:=Array.getElem?_eq_getElem hk;rw[this];exact hle k _ this
section
variable {H : Type} {enc : TypeId × Value → H} {w : World} {base : Nat} {spare : Nat → Bool} {held : Bool}
theorem U5 {t:TypeId} (ht:Tryz.prog.underlying t=some (.int .i64)) {fuel:Nat} {cs:List Value} {y:DataW H×List MemPlace} (h:DataW.trod enc Tryz.prog w base spare held fuel t cs=some y):∃n,cs=[.int .i64 n]:=by
 obtain⟨n,rfl,_,_⟩:=DataW.trod_int ht h;exact⟨n,rfl⟩
end
end Go.Proofs.YtnffkcabeecopaaGreat
namespace Go.Proofs.YtnffkcabeecopaaGreat
open Go Go.RowKit
open Go.ChangeShapes Go.WideShapes Go.ChangeAt
section
variable {H : Type} {enc : TypeId × Value → H} {w : World} {base : Nat} {spare : Nat → Bool} {held : Bool}
end
end Go.Proofs.YtnffkcabeecopaaGreat
namespace Go.Proofs.YtnffkcabeecopaaGreat
open Go Go.RowKit
open Go.ChangeShapes Go.WideShapes Go.ChangeAt
section
variable {H : Type} {enc : TypeId × Value → H} {w : World} {base : Nat} {spare : Nat → Bool} {held : Bool}
end
end Go.Proofs.YtnffkcabeecopaaGreat
namespace Go.Proofs.YtnffkcabeecopaaGreat
open Go Go.RowKit
def rdA (a:Option Addr) (size n:Nat) (xs:List Value):Atom:= .hp ⟨rdP a size n xs,λ_ _ l s=>s.up l⟩
theorem a5K (a:Option Addr) (size n:Nat) (xs:List Value):Rd (rdA a size n xs) a size n xs:=λ_ s=>s
def A4:Option (Nat×Nat)->Option Addr
 | some x=>some ⟨x.1,x.2,none⟩
 | none=>none
def T8 (a:Option (Nat×Nat)) (size h c:Nat):Option (Nat×Nat):=match a with
 | some y=>if c=h then some y else some (y.1,y.2+h*size)
 | none=>none
section
variable {P : Program} {T : Tab} {E : Env} {n : Nat} {ac : Act} {w : World}
theorem V6 (hT:TabOK P T) {o:Oper} {t e size:Nat} {x y:Operand} {k1 k2 t1 t2:Nat} {g1 g2:G} {a:Option (Nat×Nat)} {m c h:Nat} {kk:IntKind} {hI:Int} {s1 b1 b2:Nat} {z1 z2:List Value} {td:TD} (hop:o.op= .slice t x (some y) none none) (hx:ev E x=some ⟨k1, .slice (A4 a) m c,t1,g1⟩) (hy:ev E y=some ⟨k2, .int kk hI,t2,g2⟩) (he:EnvOK n E ac) (v1:g1.on=true) (v2:g2.on=true)
  (ht:T.get t=some ⟨.slice e size,s1,z1,b1⟩) (hte:T.get e=some ⟨td,size,z2,b2⟩) (hhI:hI=(h:Int)) (hh:h<=m):
  (execOp ac.eval o).run P w= .ok (.value (.slice (A4 (T8 a size h c)) (m-h) (c-h))) w:=by
 subst hhI;have e1:=i5 he hx;have e2:=i5 he hy;simp only[Slot.val,v1,v2]at e1 e2;obtain⟨d,f,zv,ok⟩:=i3 (hT.get ht);obtain⟨fe,rfl,g1,g2⟩:=ok.slice rfl;cases a with
 | none=>
  simp only[execOp,hop,Option.map_some,Option.map_none,e1,e2,Instr.sliceAt,Instr.slice,Instr.sliceBounds,Instr.sliceBound,asIntOf,Sem.run_bind,Sem.run_pure,Result.andThen_ok,d7 ok.hd,m6 g1,g2];simp[hh,A4,T8]
 | some ad=>
  by_cases hne:c=h
  ·simp only[execOp,hop,Option.map_some,Option.map_none,e1,e2,Instr.sliceAt,Instr.slice,Instr.sliceBounds,Instr.sliceBound,asIntOf,Sem.run_bind,Sem.run_pure,Result.andThen_ok,d7 ok.hd,m6 g1,g2];simp[hh,hne,Addr.add_none,A4,T8]
  ·simp only[execOp,hop,Option.map_some,Option.map_none,e1,e2,Instr.sliceAt,Instr.slice,Instr.sliceBounds,Instr.sliceBound,asIntOf,Sem.run_bind,Sem.run_pure,Result.andThen_ok,d7 ok.hd,m6 g1,g2];simp[hh,hne,Addr.add_none,A4,T8]
end
section
variable {X : Cx} {P : Program} {K : List KI} {E : Env} {L : List Atom} {N : Nat} {F : HP} {Post : Value → List Atom → Prop} {rs : List ResultVar} {T : Tab}
theorem J.appendRO (hX:IsCx X P rs N F Post) (hT:TabOK P T) {ops:Array Oper} {C:Cl} {lt:Bool} {i:Nat} {t:PT} {o:Oper} {x y:Operand} {st e size by_:Nat} {ks tgs:Nat} {gs:G} {a:Option Nat} {n cap:Nat} {xs:List Value} {ky tgy:Nat} {gy:G} {ay:Option (Nat×Nat)} {m cy:Nat} {cs:List Value} {s1 b1:Nat} {z1:List Value} {E':Value->Env} {Ay:Atom} (is iy:Nat) (hc0:ay=none->cy=0)
  (ho:n7 ops.toList i=some o) (hg:gd ops.toList E o=some .tt) (hop:o.op= .call ⟨.builtin .append,#[x,y],#[st,st]⟩)
  (hx:ev E x=some ⟨ks,slv a n cap,tgs,gs⟩) (hvx:gs.on=true) (hy:ev E y=some ⟨ky, .slice (A4 ay) m cy,tgy,gy⟩) (hvy:gy.on=true)
  (hLs:n7 L is=some (c9 e size a n cap xs)) (hLy:n7 L iy=some Ay) (hrd:Rd Ay (A4 ay) size m cs) (hst:T.get st=some ⟨.slice e size,s1,z1,b1⟩) {td:TD} {z:List Value} (he:T.get e=some ⟨td,size,z,by_⟩) (hz:Nat.beq z.length size=true)
  (hsz:Nat.blt 0 size=true) (h1:∀u∈cs,u.oneCell'=true) (h63:n+m<=maxLen) (hbytes:(n+m)*by_<=140737488355328)
  (hd:∀v,C5 N o.dst v 0 .tt E=some (E' v))
  (hJ:∀a' cap',∃L',B1 L is (c9 e size a' (n+m) cap' (xs++cs))=some L'/\Conj (p9 lt C L')/\J X (.reg ops C t::K) (E' (slv a' (n+m) cap')) L'):J X (.reg ops C (.alt lt i t .non)::K) E L:=by
 cases ay with
 | some b=>exact J.appendR hX hT (oo:=b.2) is iy 0 ho hg rfl hop hx hvx hy hvy hLs hLy hrd hst he hz hsz h1 h63 hbytes hd hJ
 | none=>
  obtain rfl:=hc0 rfl;rw[m9]at hLs hLy;refine J.know (p:=cs.length=m*size/\m=0) (λh s=>⟨(hrd _ (s.get hLy)).1,by
   rcases Nat.eq_zero_or_pos m with h0 | h0
   ·exact h0
   ·obtain⟨_,_,_,_,_,e,_⟩:=(hrd _ (s.get hLy)).2 h0;cases e⟩) λhk=>?_
  obtain⟨q1,rfl⟩:=hk;have hcs:cs=[]:=List.eq_nil_of_length_eq_zero (by rw[q1,Nat.zero_mul]);subst hcs;obtain⟨L',e1,e2,e3⟩:=hJ a cap;rw[Nat.add_zero,List.append_nil]at e1;rw[Nat.add_zero]at e3;have hL:L'=L:=by
   rw[A8 e1];apply List.ext_getElem?;intro j;rw[List.getElem?_set];split
   ·rename_i e;subst e;split
    ·exact hLs.symm
    ·rename_i e4;rw[List.getElem?_eq_none (by omega)]
   ·rfl
  subst hL;exact J.val hX (slv a n cap) 0 ho hg (λ_ ac w hen hs=>W9 hT hop hx hvx hy hvy hen hst he (show J5 e size a n cap xs (hl w)from hs.get hLs)) (hd _) e2 e3
end
theorem a3j {e size:Nat} {a:Option Nat} {n cap:Nat} {xs:List Value} {h:Hl} (s:J5 e size a n cap xs h):a=none->cap=0:=λe=>by subst e;exact s.2.2
theorem a5J {a:Option (Nat×Nat)} {size n c h:Nat} {xs:List Value} {hh:Hl} (s:rdP (A4 a) size n xs hh) (hn:h<=n) (hc:n<=c):rdP (A4 (T8 a size h c)) size (n-h) (xs.drop (h*size)) hh:=by
 cases a with
 | none=>
  refine⟨by rw[List.length_drop,s.1,Nat.sub_mul],λh0=>?_⟩;obtain⟨b,o,_,_,_,e,_⟩:=s.2 (by omega);cases e
 | some y=>
  by_cases e:c=h
  ·refine⟨by rw[List.length_drop,s.1,Nat.sub_mul],λh0=>by omega⟩
  ·unfold T8;simp only[if_neg e];exact(a5K (some ⟨y.1,y.2,none⟩) size n xs).drop h hn _ s
theorem b0e {a:Option (Nat×Nat)} {size n:Nat} {xs:List Value} {h:Hl} (s:rdP (A4 a) size n xs h) (hn:0<n):∃y,a=some y:=by
 cases a with
 | none=>obtain⟨_,_,_,_,_,e,_⟩:=s.2 hn;cases e
 | some y=>exact⟨y,rfl⟩
theorem a7J (L:List En):∀k,(d6 L).drop (k*19)=d6 (L.drop k):=by
 induction L with
 | nil=>intro k;simp[d6]
 | cons x l ih=>
  intro k;cases k with
  | zero=>simp
  | succ k=>
   have e1:d6 (x::l)=enL x++d6 l:=by simp[d6]
   rw[e1,List.drop_succ_cons,<- ih k,show(k+1)*19=(enL x).length+k*19 from by show _=19+k*19;omega,<- List.drop_drop,List.drop_left' rfl]
theorem a8U {a:Option (Nat×Nat)} {n c h:Nat} {L:List En} {hh:Hl} (s:rdP (A4 a) 19 n (d6 L) hh) (hl:L.length=n) (hn:h<=n) (hc:n<=c):rdP (A4 (T8 a 19 h c)) 19 (L.drop h).length (d6 (L.drop h)) hh:=by
 have:=a5J s hn hc
 rwa [a7J,<- hl,<- List.length_drop]at this
theorem a0h {a:Option (Nat×Nat)} {size h c:Nat} (hz:a=none->c=0):T8 a size h c=none->c-h=0:=by
 cases a with
 | none=>intro _;rw[hz rfl];omega
 | some y=>intro e;unfold T8 at e;simp only at e;split at e<;>cases e
theorem a5R (n t l p:Nat) (S:Dv) (k mm:Nat) (A:Atom) (a:Option (Nat×Nat)) (m c:Nat) (es:List En) (hA:Rd A (A4 a) 19 m (d6 es)) (hl:es.length=m) (hm:m<=1000000) (hc:m<=c) (ha:a=none->c=0) (hd:∀s∈es,s.data.length=16) (hO:S.Ok (Dv.costT*m+k) mm) (hmm:mm<=1000):
  FP 84 [pp n,pp t,pp l,pp p, .slice (A4 a) m c] (DvP p n t l S++[A])
  (Ps (iI (S.torn es).2) (DvP p n t l (S.torn es).1++[A])):=by
 subst hl;refine FE [3,4,5,2,0] Tryz.func84 λX F hX=>?_;refine J.q λ_=>?_;refine J.l (α:=(Nat×Dv×List En×Option (Nat×Nat)×Nat)) (λz=>z.2.2.1.length<=z.1/\z.2.2.1.length<=z.2.2.2.2/\z.2.2.1.length<=1000000/\(z.2.2.2.1=none->z.2.2.2.2=0)/\Rd A (A4 z.2.2.2.1) 19 z.2.2.1.length (d6 z.2.2.1)/\(∀s∈z.2.2.1,s.data.length=16)/\z.2.1.Ok (Dv.costT*z.1+k) mm/\Dv.tornGo z.1 z.2.1 z.2.2.1=S.torn es) (λz=>[sv 4 (.slice (A4 z.2.2.2.1) z.2.2.1.length z.2.2.2.2),⟨0,pp n,3, .tt⟩,⟨1,pp t,4, .tt⟩,⟨2,pp l,5, .tt⟩,⟨3,pp p,2, .tt⟩]) [1,2,3,4] (λz=>DvP p n t l z.2.1) (λz=>z.1) ((es.length,S,es,a,c)) (⟨Nat.le_refl _,hc,hm,ha,hA,hd,hO,rfl⟩) λz hI=>?_;obtain⟨j,Q,L,a',c'⟩:=z;dsimp only at hI ⊢;obtain⟨hj,hLc,hLm,ha',hAr,hLd,hQ,hw⟩:=hI;refine J.qd (λ_ h1=>?_) λ_ h1=>?_
 ·simp only[decide_eq_true_eq]at h1;have hL0:L.length≠0:=by omega
  obtain⟨j,rfl⟩:∃i,j=i+1:=⟨j-1,by omega⟩;rw[Dv.tornGo,if_neg hL0]at hw;dsimp only at hw;have hQ1:Q.Ok (Dv.costM+(8*Dv.fuel+(Dv.costT*j+k))) mm:=hQ.less (by unfold Dv.costT Dv.cost;rw[Nat.mul_succ];omega);have hr:=Dv.room_keep hQ1;refine J.qp (a0F n t l p Q _ mm hQ1 hmm) [1,2,3,4] λ_=>?_;generalize Q.room=W at hw hr ⊢;obtain⟨P,er⟩:=W;dsimp only at hw hr ⊢;refine J.qd (λ_ h2=>?_) λ_ h2=>?_
  ·simp only[bne_iff_ne,ne_eq]at h2;rw[if_pos h2]at hw;refine J.qr [1,2,3,4,5] λ_=>?_;rw[<- hw];exact⟨rfl,rfl⟩
  simp only[bne_eq_false_iff_eq]at h2;rw[if_neg (by rw[h2];decide)]at hw;have htook:=λh0=>Dv.pen_took hr.1 hLd h0 hL0;have hkeep:=Dv.pen_keep hr.1 hLd;refine J.qp (X7 p n t l P _ mm hr.1 A (A4 a') L.length c' L hAr rfl hLm hLd) [1,2,3,4,5] λ_=>?_;have hpb:0<=(P.pen L).2.1/\(P.pen L).2.1<=7:=a0x _ _ _;generalize P.pen L=W at hw htook hkeep hpb ⊢;obtain⟨P',nn,er2⟩:=W;dsimp only at hw htook hkeep hpb ⊢;refine J.qd (λ_ h3=>?_) λ_ h3=>?_
  ·simp only[bne_iff_ne,ne_eq]at h3;rw[if_pos h3]at hw;refine J.qr [1,2,3,4,5] λ_=>?_;rw[<- hw];exact⟨rfl,rfl⟩
  simp only[bne_eq_false_iff_eq]at h3;rw[if_neg (by rw[h3];decide)]at hw;have htk:=htook h3;obtain⟨v,rfl⟩:=Int.eq_ofNat_of_zero_le hpb.1;have hvL:v<=L.length:=by have:=htk.2.1;omega
  rw[Int.toNat_natCast]at hw;refine J.qn 4 λ_=>?_;refine J.v (.slice (A4 (T8 a' 19 v c')) (L.length-v) (c'-v)) rfl rfl (λhg aa w he hw=>V6 tk rfl rfl rfl he rfl rfl rfl rfl rfl hvL) ?_;rw[show L.length-v=(L.drop v).length from by rw[List.length_drop]];refine J.q λ_=>?_;refine J.n ((j,P',L.drop v,T8 a' 19 v c',c'-v)) (⟨by dsimp only;rw[List.length_drop];omega,by dsimp only;rw[List.length_drop];omega,by dsimp only;rw[List.length_drop];omega,a0h ha',λh s=>a8U (hAr h s) rfl hvL hLc,λs hs=>hLd s (List.mem_of_mem_drop hs),hkeep.1,hw⟩) (by dsimp only;omega) [0,1,2,3,4,5]
 ·simp only[decide_eq_false_iff_not]at h1;have hL0:L.length=0:=by omega
  have hz:Dv.tornGo j Q L=(Q,0):=by
   cases j with
   | zero=>rfl
   | succ j=>rw[Dv.tornGo,if_pos hL0]
  refine J.qr [1,2,3,4,5] λ_=>?_;rw[<- hw,hz];exact⟨rfl,rfl⟩
def Z7 (f n t l p d:Nat) (F:Fv):Atom:= .pt f 123 [pp n,pp t,pp l,pp p,pp d,iI F.nx, .bool F.off]
def FvP (f p n t l d:Nat) (F:Fv):List Atom:=[Z7 f n t l p d F,Q1 p n t l F.S,i4 n F.S.N,TlA t F.S.t,TbA l F.S.T,R1 d F.L]
theorem V3 (f n t l p d:Nat) (Z:Fv) (hN:Z.S.N.Ok):FP 52 [pp f] [Z7 f n t l p d Z,i4 n Z.S.N] (Ps (iI Z.lg) [Z7 f n t l p d Z,i4 n Z.S.N]):=by
 have hbd:=hN.bd16;have hlg:=b2A Z.S.N.dies Z.S.N.blocks Z.S.N.pages (by omega) (by omega);refine FE [2] Tryz.func52 λX F hX=>?_;refine J.qF λ_=>?_;refine J.qp (R9 n Z.S.N) [2] λ_=>?_;refine J.qp (a1B Z.S.N.dies Z.S.N.blocks Z.S.N.pages hN.geo) [] λ_=>?_;rw[hlg];exact J.qx [1,2]
theorem P6 (f n t l p d:Nat) (Z:Fv):FP 67 [pp f] [Z7 f n t l p d Z,i4 n Z.S.N] (Ps (iI (if Z.ask.off=true then 9 else 0)) [Z7 f n t l p d Z.ask,i4 n Z.S.N]):=by
 have hask:Z7 f n t l p d Z.ask= .pt f 123 [pp n,pp t,pp l,pp p,pp d,iI Z.nx, .bool (Z.off||Z.S.N.off)]:=rfl;have hoa:Z.ask.off=(Z.off||Z.S.N.off):=rfl;rw[hask,hoa];unfold Z7;generalize Z.off=o;refine FE [2] Tryz.func67 λX F hX=>?_;refine J.qF λ_=>?_;refine J.q λ_=>?_;refine J.gcase hX rfl rfl rfl trivial (λhb=>?_) (λhb=>?_)
 ·rw[Bool.not_eq_true']at hb;subst hb;refine J.qp (a0N n Z.S.N) [2] λ_=>?_;refine J.qd (λ_ h1=>?_) λ_ h1=>?_
  ·simp only[Bool.false_or,Bool.not_not]at h1;refine J.qr [1,2] λ_=>?_;rw[h1];exact⟨rfl,rfl⟩
  ·simp only[Bool.false_or,Bool.not_not]at h1;refine J.qr [1,2] λ_=>?_;rw[h1];exact⟨rfl,rfl⟩
 ·rw[Bool.not_eq_false']at hb;subst hb;refine J.q λ_=>?_;refine J.v (.bool false) rfl rfl (λhg a w he hw=>by simp[G.on]at hg) ?_;refine J.qT λ_=>?_;exact J.qx [1,2]
theorem a6a (f n t l p d:Nat) (Z:Fv) (e:Int):FP 76 [pp f,iI e] [Z7 f n t l p d Z] (Ps (iI e) [Z7 f n t l p d (Z.told e)]):=by
 refine FE [2,0] Tryz.func76 λX F hX=>?_;exact J.qx [1]
end Go.Proofs.YtnffkcabeecopaaGreat
