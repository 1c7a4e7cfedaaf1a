/- Helpers. No condition. -/
import Derived.Test.YtmafiplddapokaaGreatU12
import Derived.ProofKit
import Derived.OpenShut
import Derived.ChangeOld
import Derived.Below
import Derived.Deep.Slices
import Derived.Deep.Strs
import Derived.Lib.SmallJoins
set_option maxRecDepth 20000
set_option linter.all false
namespace Go.Proofs.YtmafiplddapokaaGreat
section
open Go Go.RowKit
theorem c1U {α:Type} {l:List α} {a b:α} (h:l.Perm [a,b]):l=[a,b]\/l=[b,a]:=by
 match l,h.length_eq,h with
 | [x,y],_,h=>
  have hx:=(h.mem_iff (a:=x)).1 (by simp);simp only[H7,U5,a5A]at hx;rcases hx with rfl | rfl
  ·left;have:=(List.perm_cons x).1 h;rw[List.perm_singleton.1 this]
  ·right;have:=(List.perm_cons x).1 (h.trans (List.Perm.swap x a []));rw[List.perm_singleton.1 this]
theorem b8S (a:ByteArray) (w:World) (o1 o2:Operand):(do eqGuard .eql 9 o1 o2 (.string a) (.string a);binOp .eql 9 (.string a) (.string a):Sem Value).run Tryz.prog w= .ok (.bool true) w:=by
 have hu:Tryz.prog.underlying 9=some .string:=by kernel_rfl
 simp[eqGuard,binOp,Op.stringOp,a8r,Op.equalIn,s8 hu]
theorem b4w {E:Env} {n:Nat} {a:Act} {w:World} {o:Oper} {x y:Operand} {k1 k2 u1 u2 t2:Nat} {g1 g2:G} {s1:ByteArray} (hop:o.op= .binOp .eql 9 x y t2) (hx:ev E x=some ⟨k1, .string s1,u1,g1⟩) (hy:ev E y=some ⟨k2, .string s1,u2,g2⟩) (he:EnvOK n E a) (v1:g1.on=true) (v2:g2.on=true):
  (execOp a.eval o).run Tryz.prog w= .ok (.value (.bool true)) w:=by
 have ex:=C5 he hx;have ey:=C5 he hy;simp only[Slot.val,v1,v2]at ex ey;have h:=b8S s1 w x y;simp only[execOp,hop,ex,ey];simp only[Sem.run_bind]at h ⊢;rw[h];rfl
def sX:Value:= .string ⟨#[120]⟩
def sY:Value:= .string ⟨#[121]⟩
def sL:List (A3×Value):=[((1,2,3),sX),((0,9,9),sY)]
theorem b8T {l:List A3} (h:l.Perm [((1:Int),(2:Int),(3:Int)),(0,9,9)]):a3K a6Q l=[(0,9,9),(1,2,3)]:=by
 rcases c1U h with rfl | rfl<;>decide
theorem b7r:FP 290 [] [] (Ps (.bool true) []):=by
 refine FE [] Tryz.func290 λX F hX=>?_;refine J.qc (c1N) [] λ_=>?_;rintro v As ⟨q,rfl,rfl⟩;refine⟨_,rfl,trivial,?_⟩;refine J.qF λ_=>?_;refine J.qp (c0h q [] 1 2 3 ⟨#[120]⟩) [1] λ_=>?_;refine J.qp (c0h q [((1,2,3),sX)] 0 9 9 ⟨#[121]⟩) [1] λ_=>?_;refine J.qp (c0i q sL 1 2 3) [1] λ_=>?_;rw[show(Q6 sL (1,2,3)).getD sE=sX from rfl,show(Q6 sL (1,2,3)).isSome=true from rfl];refine J.qc (c0j q sL (by decide)) [1] λ_=>?_;rintro v As ⟨a,cap,l0,l',hp,hl',rfl,rfl⟩;refine⟨_,rfl,trivial,?_⟩;obtain rfl:l'=[(0,9,9),(1,2,3)]:=hl'.trans (b8T hp);refine J.know (λh' s=>D1 (c:=(a,cap)) (by decide) (s.get (i:=2) rfl)) λhg=>?_;obtain⟨ga,rfl⟩:=hg;refine J.q λbp=>?_;refine J.cb (b8w (bp 0)) [3] ?_;rintro v As ⟨o,co,a2,c2,rfl,rfl⟩;refine⟨_,rfl,trivial,?_⟩;refine J.know (λh' s=>D1 (c:=(o,co)) (by decide) (s.get (i:=3) rfl)) λhg=>?_;obtain⟨go,rfl⟩:=hg;refine J.know (λh' s=>D1 (c:=(a2,c2)) (by decide) (s.get (i:=4) rfl)) λhg=>?_;obtain⟨g2,rfl⟩:=hg;refine J.q λ_=>?_;refine J.v (.bool true) rfl rfl (λhg a w he hw=>(b4w rfl rfl rfl he rfl rfl).trans rfl) ?_;refine J.qp (c1O q sL) [1] λ_=>?_;refine J.q λ_=>?_;refine J.v (iI 0) rfl rfl (λhg a w he hw=>I2 tk rfl rfl he hg rfl rfl (hw.get (i:=2) rfl) rfl) ?_;refine J.qc (b8P q sL (by decide) 1 2) [1] λ_=>?_;rintro v As ⟨a3,c3,l3,hp3,rfl,rfl⟩;refine⟨_,rfl,trivial,?_⟩;have h3:l3.length=1:=hp3.length_eq.trans rfl;rw[h3];refine J.q λ_=>?_;refine J.v (a1v (0,9,9)) rfl rfl (λhg a w he hw=>J8 tk rfl rfl he hg rfl rfl (hw.get (i:=2) rfl) rfl rfl) ?_;refine J.qp (b6k q sL 0 9 9) [1] λ_=>?_;rw[show(Q6 sL (0,9,9)).isSome=true from rfl,show a4H sL (0,9,9)=[((1,2,3),sX)]from rfl];refine J.q λ_=>?_;refine J.v (a1v (0,9,9)) rfl rfl (λhg a w he hw=>J8 tk rfl rfl he hg rfl rfl (hw.get (i:=2) rfl) rfl rfl) ?_;refine J.qp (b6k q [((1,2,3),sX)] 0 9 9) [1] λ_=>?_;rw[show(Q6 [(((1:Int),(2:Int),(3:Int)),sX)] (0,9,9)).isSome=false from rfl];refine J.q λ_=>?_;refine J.v (slv (some g2) 2 c2) rfl rfl (λhg a w he hw=>I2 tk rfl rfl he hg rfl rfl (hw.get (i:=3) rfl) rfl) ?_;refine J.q λ_=>?_;refine J.v (slv (some g2) 2 c2) rfl rfl (λhg a w he hw=>I2 tk rfl rfl he hg rfl rfl (hw.get (i:=3) rfl) rfl) ?_;refine J.q λ_=>?_;refine J.v (iI 2) rfl rfl (λhg a w he hw=>I2 tk rfl rfl he hg rfl rfl (hw.get (i:=4) rfl) rfl) ?_;exact J.qx []
theorem b7s:FP 282 [] [] (Ps (.bool true) []):=by
 refine FE [] Tryz.func282 λX F hX=>?_;refine J.qp (b7r) [] λ_=>?_;exact J.qx []
def c1Z:List Lk:=lvD++[.int .i64, .int .i64, .int .i64, .int .i64, .int .i64, .int .i64, .int .i64]
theorem b7j:V7 Tryz.prog 100 212=some c1Z:=by kernel_rfl
theorem b7V (s:Sh):Fits c1Z (shL s):=Fits.append (a0f s.data) (show Fits [.int .i64, .int .i64, .int .i64, .int .i64, .int .i64, .int .i64, .int .i64] [.int .i64 s.role, .int .i64 s.lpn, .int .i64 s.seq, .int .i64 s.kind, .int .i64 s.block, .int .i64 s.row, .int .i64 s.mask]from⟨rfl,rfl,rfl,rfl,rfl,rfl,rfl,trivial⟩)
theorem c2n (zs:List Value):mkV Tryz.prog 212 zs= .agg zs.toArray:=by simp[mkV,Tryz.underlying212]
theorem c2r:Tryz.prog.eqGuardType Tryz.prog.depth 212=false:=by kernel_rfl
theorem c2s (x y:Sh) (hx:x.data.length=16) (hy:y.data.length=16):H4 (shL x) (shL y)=decide (x=y):=by
 have h1:shL x=I3 x.data++[.int .i64 x.role, .int .i64 x.lpn, .int .i64 x.seq, .int .i64 x.kind, .int .i64 x.block, .int .i64 x.row, .int .i64 x.mask]:=rfl;have h2:shL y=I3 y.data++[.int .i64 y.role, .int .i64 y.lpn, .int .i64 y.seq, .int .i64 y.kind, .int .i64 y.block, .int .i64 y.row, .int .i64 y.mask]:=rfl;rw[h1,h2,Y8 (a:=I3 x.data) (c:=I3 y.data) rfl,eqD _ _ hx hy];obtain⟨d,r,l,s,k,b,ro,m⟩:=x;obtain⟨d',r',l',s',k',b',ro',m'⟩:=y;rw[a2d];simp[H4,a4G,Sh.mk.injEq]
def c2b:List Lk:=[.int .i64, .int .i64, .int .i64]++lvD
theorem b1Q:V7 Tryz.prog 100 101=some c2b:=by kernel_rfl
theorem b0N (e:En):Fits c2b (enL e):=Fits.append (show Fits [.int .i64, .int .i64, .int .i64] [.int .i64 e.lpn, .int .i64 e.seq, .int .i64 e.role]from⟨rfl,rfl,rfl,trivial⟩) (a0f e.data)
theorem c1Y (zs:List Value):mkV Tryz.prog 101 zs= .agg zs.toArray:=by simp[mkV,Tryz.underlying101]
theorem c2e:Tryz.prog.eqGuardType Tryz.prog.depth 101=false:=by kernel_rfl
theorem c2g (x y:En) (hx:x.data.length=16) (hy:y.data.length=16):H4 (enL x) (enL y)=true↔x=y:=by
 have h1:enL x=[.int .i64 x.lpn, .int .i64 x.seq, .int .i64 x.role]++I3 x.data:=rfl;have h2:enL y=[.int .i64 y.lpn, .int .i64 y.seq, .int .i64 y.role]++I3 y.data:=rfl;rw[h1,h2,Y8 (a:=[.int .i64 x.lpn, .int .i64 x.seq, .int .i64 x.role]) (c:=[.int .i64 y.lpn, .int .i64 y.seq, .int .i64 y.role]) rfl,eqD _ _ hx hy];obtain⟨l,s,r,d⟩:=x;obtain⟨l',s',r',d'⟩:=y;simp[H4,a4G,En.mk.injEq,and_assoc]
section
variable {X : Cx} {P : Program} {T : Tab} {K : List KI} {E : Env} {L : List Atom} {N : Nat} {F : HP} {Post : Value → List Atom → Prop} {rs : List ResultVar}
theorem J.effG (hX:IsCx X P rs N F Post) (hT:TabOK P T) {ops:Array Oper} {C:Cl} {lt:Bool} {i:Nat} {t:PT} {o:Oper} {g:G} {v:Nat->Value} {tag:Nat} {L':Nat->List Atom} {ob:List Prop} {E':Value->Env}
  (ho:J3 ops.toList i=some o) (hg:gd ops.toList E o=some g) (hgo:g.on=true) (hef:∀x:Nat,eff T (λ_=>x) E L 0 o.op=some ⟨v x,tag,L' x,ob,1⟩) (hob:Conj ob)
  (hd:∀v,W5 N o.dst v tag .tt E=some (E' v)) (hJ:∀x,Conj (M3 lt C (L' x))/\J X (.reg ops C t::K) (E' (v x)) (L' x)):J X (.reg ops C (.alt lt i t .non)::K) E L:=by
 refine J.op hX (S:=λv' L2=>∃x,v'=v x/\L2=L' x) tag ho hg hgo (λa0 w hen hs=>?_) hd (λv' L2 ⟨x,e1,e2⟩=>by subst e1;subst e2;exact hJ x);obtain⟨nv,w',r1,r2,r3,r4⟩:=b3Z (P:=P) hT hen (hef w.heap.size) hob hs (.inr rfl);exact⟨v w.heap.size,L' w.heap.size,nv,w',⟨w.heap.size,rfl,rfl⟩,r1,r2,r3,r4⟩
end
end
section
open Go Go.RowKit
def pgB (a b:UInt8):List UInt8:=[a,b,0,0,0,0,0,0,0,0,0,0,0,0,0,0,0,0,0,0,0,0,0,0,0,0,0,0,0,0,0,0]
namespace B7
def N0:Nand:=Nand.new 3 8 2
def N1:Nand:=N0.progN 1 0 0 (pgB 7 0)
def N2:Nand:=N1.progN 1 0 0 (pgB 8 0)
def N3:Nand:=(N2.fault 3 1 0 0 0 0).2
def N4:Nand:=N3.eraseN 1 0
def N5:Nand:=N4.setCut 0 1
def N6:Nand:=N5.progN 1 0 0 (pgB 5 6)
def N7:Nand:=N6.onN
def N8:Nand:=(N7.fault 4 2 0 0 0 0).2
theorem G0:N0.Gd 100 0:=Nand.Gd.new 3 8 2 rfl 100 (by decide)
theorem G1:N1.Gd 99 0:=G0.prog 1 0 0 _ rfl
theorem G2:N2.Gd 98 0:=G1.prog 1 0 0 _ rfl
theorem G3:N3.Gd 98 0:=G2.fault0 3 1 0 0 0 0 (by decide)
theorem G4:N4.Gd 97 0:=G3.erase 1 0
theorem G5:N5.Gd 97 0:=G4.cut 0 1 (by decide) (by decide)
theorem G6:N6.Gd 96 0:=G5.prog 1 0 0 _ rfl
theorem G7:N7.Gd 96 0:=G6.on
theorem G8:N8.Gd 96 0:=G7.fault0 4 2 0 0 0 0 (by decide)
end B7
open B7
theorem b9q:FP 35 [.agg #[iI 0,iI 0,iI 0]] [] (Ps (.pointer none) []):=by
 refine FE [0] Tryz.func35 λX F hX=>?_;refine J.q λg1=>?_;refine J.cb (a6F 0 0 0) [] ?_;refine cpq ⟨_,rfl,trivial,?_⟩;rw[show O8 0 0 0=false from rfl];refine J.qT λ_=>?_;exact J.qx []
theorem b7p:FP 272 [] [] (Ps (.bool true) []):=by
 refine FE [] Tryz.func272 λX F hX=>?_;refine J.qc (a7R 3 8 2 rfl) [] λ_=>?_;rintro v As ⟨q,rfl,rfl⟩;refine⟨_,rfl,trivial,?_⟩;refine J.qp (b9q) [] λ_=>?_;refine J.qF λ_=>?_;refine J.p (.of [0,5,8,16,21,24,14,31,32,36]) [7,8,9] [3] λ_=>?_;refine J.qp (a4b q N0 G0.ok G0.room 1 0 0 (pgB 7 0) rfl) [2] λ_=>?_;rw[show N0.progE 1 0 0=0 from by kernel_rfl];refine J.qp (a4b q N1 G1.ok G1.room 1 0 0 (pgB 8 0) rfl) [2] λ_=>?_;rw[show N1.progE 1 0 0=4 from by kernel_rfl];refine J.qp (a7Q q N2 G2.ok 1 0 0) [2] λ_=>?_;rw[show N2.readE 1 0 0=0 from by kernel_rfl,show N2.readV 1 0 0=pgB 7 0 from by kernel_rfl];refine J.qp (a7Q q N2 G2.ok 2 0 0) [2] λ_=>?_;rw[show N2.readE 2 0 0=5 from by kernel_rfl];refine J.qp (a4c q N2 G2.ok 0 3 1 0 0 0 0) [2] λ_=>?_;rw[show(N2.fault 3 1 0 0 0 0).1=true from by kernel_rfl];refine J.qp (a7Q q N3 G3.ok 1 0 0) [2] λ_=>?_;rw[show N3.readE 1 0 0=6 from by kernel_rfl];refine J.qp (b3K q N3 G3.ok G3.room G3.nodup (I7 G3.few (by decide)) 1 0) [2] λ_=>?_;rw[show N3.eraseE 1 0=0 from by kernel_rfl];refine J.qp (a6t q N4 0 1) [2] λ_=>?_;refine J.qp (a4b q N5 G5.ok G5.room 1 0 0 (pgB 5 6) rfl) [2] λ_=>?_;rw[show N5.progE 1 0 0=9 from by kernel_rfl];refine J.qp (b4O q N6) [2] λ_=>?_;refine J.qp (a7Q q N7 G7.ok 1 0 0) [2] λ_=>?_;rw[show N7.readE 1 0 0=0 from by kernel_rfl,show N7.readV 1 0 0=Nand.fillP 1 (pgB 5 6)from by kernel_rfl];refine J.q λbf=>?_;refine J.cb (c1S (bf (0+1))) [8] ?_;rintro v As ⟨p,a,c,rfl,rfl⟩;refine⟨_,rfl,trivial,?_⟩;refine J.know (λh' s=>D1 (c:=(a,c)) (by decide) (s.get (i:=9) rfl)) λhg=>?_;obtain⟨g,rfl⟩:=hg;refine J.qp (b7s) [] λ_=>?_;refine J.qp (b1U) [] λ_=>?_;refine J.qp (a7T q N7) [2] λ_=>?_;rw[show N7.broken=1 from by kernel_rfl];refine J.q λ_=>?_;refine J.v (.bool true) rfl rfl (λhg a w he hw=>(X1 (xs:=R8 (pgB 7 0)) (ys:=R8 (pgB 7 0)) rfl rfl rfl he hg rfl a8f (a6c _) (a6c _) b9r c2d).trans (by rw[c1m _ _ rfl rfl];simp)) ?_;refine J.qp (b6Y q N7) [2] λ_=>?_;rw[show N7.ops=3 from by kernel_rfl];refine J.qp (b2O q N7 G7.ok 1 0) [2] λ_=>?_;rw[show N7.wornAt 1 0=1 from by kernel_rfl];refine J.qp (b6Z q N7 G7.ok 1 0) [2] λ_=>?_;rw[show N7.next 1 0=1 from by kernel_rfl];refine J.qp (c0I p (some ⟨g,0,none⟩) 1 c) [8] λ_=>?_;refine J.qp (c1R p g c q N7 G7.ok (by kernel_rfl)) [8,9,2] λ_=>?_;refine J.qp (a7S q N8 G8.ok 2) [2] λ_=>?_;rw[show N8.deadAt 2=true from by kernel_rfl];refine J.q λ_=>?_;refine J.effG hX tk rfl rfl rfl (λ_=>rfl) (by(repeat' (first | exact Conj.nil | refine Conj.cons ?_ ?_ | omega | exact hq0 | (simpa using hq0) | (exactλh=>h) | exact rfl | (intro hq;have hq0:=hq;try simp only[f7,j6,d5,i4,c8]at hq) | (simp;done) | (simp;omega) | decide))) (λ_=>rfl) λbg=>⟨trivial,?_⟩;refine J.qp (c0J bg) [10] λ_=>?_;exact J.qx []
theorem b1T:FP 268 [] [] (Ps (.bool true) []):=by
 refine FE [] Tryz.func268 λX F hX=>?_;refine J.qp (b7p) [] λ_=>?_;exact J.qx []
end
section
open Go Go.RowKit
theorem b5H (x:Int):FP 293 [.int .u8 x] [] (Ps (.bool (x !=255)) []):=by
 refine FE [0] Tryz.func293 λX F hX=>?_;exact J.qx []
theorem b8t (b:Nat) (p:List UInt8) (h:(((p.getD 0 0).toNat:Int) !=255)=true):FP 305 [.slice (some ⟨b,0,none⟩) 32 32, .func (.func 293) #[] #[]] [.pt b 110 (R8 p)] (Ps (iI 0) []):=by
 refine FE [2,0] Tryz.func305 λX F hX=>?_;refine J.q λ_=>?_;refine J.l (α:=Nat) (λk=>k=0) (λk=>[si 8 0,si 7 32,⟨0, .slice (some ⟨b,0,none⟩) 32 32,2, .tt⟩,⟨1, .func (.func 293) #[] #[],0, .tt⟩]) [] (λk=>[]) (λk=>0) (0) (rfl) λk hI=>?_;refine J.qT λ_=>?_;refine J.q λ_=>?_;refine J.v (byC p 0) rfl rfl (λhg a w he hw=>D4 tk rfl rfl he rfl rfl rfl (hw.get (i:=1) rfl) rfl) ?_;refine J.qp (b5H ((p.getD 0 0).toNat:Int)) [] λ_=>?_;rw[h];refine J.qT λ_=>?_;exact J.qx []
theorem b2t (b:Nat) (p:List UInt8) (h:(((p.getD 0 0).toNat:Int) !=255)=true):FP 292 [.slice (some ⟨b,0,none⟩) 32 32, .func (.func 293) #[] #[]] [.pt b 110 (R8 p)] (Ps (.bool true) []):=by
 refine FE [2,0] Tryz.func292 λX F hX=>?_;refine J.qp (b8t b p h) [1] λ_=>?_;exact J.qx []
theorem b8u (p:List UInt8) (h:(((p.getD 0 0).toNat:Int) !=255)=true):FP 286 [pgV p] [] (Ps (.bool false) []):=by
 refine FE [0] Tryz.func286 λX F hX=>?_;refine J.q λbb=>?_;refine J.cb (b2t (bb 0) p h) [1] ?_;refine cpq ⟨_,rfl,trivial,?_⟩;exact J.qx []
namespace B9
def e:En:=⟨3,9,1,[1,2,0,0,0,0,0,0,0,0,0,0,0,0,0,0]⟩
def pad:En:=⟨0,0,3,zeros16⟩
def a:Sh:=W.sh 2 1 7 e
def b:Sh:=W.sh 2 1 7 pad
def p:Sh:=W.par 2 1 7 [e,pad]
def pg:List UInt8:=O9 a
theorem h_a:W.own 2 1 7 e=a:=by kernel_rfl
theorem h_a2:W.ok 2 1 7 e=true:=by kernel_rfl
theorem h_b:W.own 2 1 7 pad=b:=by kernel_rfl
theorem h_b2:W.ok 2 1 7 pad=true:=by kernel_rfl
theorem h_p2:W.parB 2 1 7 [e,pad]=true:=by kernel_rfl
theorem h_pl:p.data.length=16:=by kernel_rfl
theorem h_m:S.may a=true:=by kernel_rfl
theorem h_g:S.getV pg=a:=by kernel_rfl
theorem h_g2:S.getE pg=0:=by kernel_rfl
theorem h_z2:S.getE a2R=1:=by kernel_rfl
theorem h_k:W.back p [b]=e:=by kernel_rfl
theorem h_k2:W.backB p [b]=true:=by kernel_rfl
theorem h_meta:S.meta_ 2 5 77=144120685633994829:=by kernel_rfl
theorem h_mp:S.may p=true:=by kernel_rfl
theorem h_mz:S.may Sh.zero=false:=by kernel_rfl
theorem h_bl:(((pg.getD 0 0).toNat:Int) !=255)=true:=by kernel_rfl
theorem h_pgl:pg.length=32:=a3E a rfl
end B9
open B9
theorem b7o:FP 273 [] [] (Ps (.bool true) []):=by
 refine FE [] Tryz.func273 λX F hX=>?_;refine J.qp (b1j 2 1 7 e rfl) [] λ_=>?_;rw[h_a,h_a2];refine J.qp (b1j 2 1 7 pad rfl) [] λ_=>?_;rw[h_b,h_b2];refine J.q λb1=>?_;refine J.ca hX (by kernel_rfl) (b1i 2 1 7 (.pt (b1 (0+1)) 101 (n7 [e,pad])) (some ⟨b1 (0+1),0,none⟩) 2 2 [e,pad] (a3m _ _ _ _ _ rfl) rfl (by decide)) [5] 0 rfl rfl rfl rfl rfl rfl (λ_=>rfl) ?_;refine cpq ⟨_,rfl,trivial,?_⟩;rw[show W.par 2 1 7 [e,pad]=p from rfl,h_p2];refine J.qp (b7M a rfl) [] λ_=>?_;rw[show O9 a=pg from rfl,h_m];refine J.qp (b7O pg h_pgl) [] λ_=>?_;rw[h_g,h_g2];refine J.qp (b7O a2R rfl) [] λ_=>?_;rw[h_z2];refine J.q λb2=>?_;refine J.cO 212 23 1 1 (J1 [b]) 10 ?_;refine J.qp (b5R p h_pl (some (b2 (0+1))) 1 1 [b] rfl (by decide) (by decide)) [10] λ_=>?_;rw[h_k,h_k2];refine J.qp (b7N 2 5 77) [] λ_=>?_;rw[h_meta];refine J.qp (c1g 144120685633994829 (by decide)) [] λ_=>?_;refine J.qp (b1U) [] λ_=>?_;refine J.q λ_=>?_;refine J.v (.bool true) rfl rfl (λhg x w he hw=>(X1 (xs:=shL a) (ys:=shL a) rfl rfl rfl he hg rfl b7j (b7V _) (b7V _) c2n c2r).trans (by rw[c2s _ _ rfl rfl];simp)) ?_;refine J.q λ_=>?_;refine J.v (.bool true) rfl rfl (λhg x w he hw=>(X1 (xs:=enL e) (ys:=enL e) rfl rfl rfl he hg rfl b1Q (b0N _) (b0N _) c1Y c2e).trans (by rw[(c2g _ _ rfl rfl).2 rfl])) ?_;refine J.qp (a9J p h_pl) [] λ_=>?_;rw[h_mp];refine J.qp (a9J Sh.zero rfl) [] λ_=>?_;rw[h_mz];refine J.qp (b8u pg h_bl) [] λ_=>?_;refine J.qr [] λ_=>?_;exact⟨by kernel_rfl,rfl⟩
theorem b1S:FP 269 [] [] (Ps (.bool true) []):=by
 refine FE [] Tryz.func269 λX F hX=>?_;refine J.qp (b7o) [] λ_=>?_;exact J.qx []
end
section
open Go Go.RowKit
namespace B11
def N0:Nand:=Nand.new 3 8 2
def N1:Nand:=(R.write N0 1 0 7 [B9.e,B9.pad]).1
def N2:Nand:=(N1.fault 4 0 0 0 0 0).2
def fn:Fnd:=⟨B9.e,1,0,0,7,true,true⟩
theorem G0:N0.Gd 100 0:=Nand.Gd.new 3 8 2 rfl 100 (by decide)
theorem G1:N1.Gd 92 0:=a4N (by decide) G0
theorem G2:N2.Gd 92 0:=G1.fault0 4 0 0 0 0 0 (by decide)
theorem h_w:(R.write N0 1 0 7 [B9.e,B9.pad]).2=(0,0):=by kernel_rfl
theorem h_l1:(M.look N1 0 1 0).2=1:=by kernel_rfl
theorem h_l2:(M.look N1 0 1 0).1.lpn=3:=by kernel_rfl
theorem h_l3:(M.look N1 0 2 0).2=2:=by kernel_rfl
theorem h_r:R.read N2 1 0 0 7=(B9.e,0):=by kernel_rfl
theorem h_a:R.all N2 1 0=[fn]:=by kernel_rfl
theorem h_m:M.masks N2 1 0=[7]:=by kernel_rfl
end B11
open B11
theorem b5a:FP 257 [] [] (Ps (.bool true) []):=by
 refine FE [] Tryz.func257 λX F hX=>?_;refine J.q λb1=>?_;refine J.cb (a7R 3 8 2 rfl) [] ?_;rintro v As ⟨q,rfl,rfl⟩;refine⟨_,rfl,trivial,?_⟩;refine J.qF λ_=>?_;refine J.q λb1=>?_;refine J.ca hX (by kernel_rfl) (a7b q N0 (.pt (b1 (0+1)) 101 (n7 [B9.e,B9.pad])) 1 0 7 (some ⟨b1 (0+1),0,none⟩) 2 2 0 [B9.e,B9.pad] (a3m _ _ _ _ _ rfl) rfl (by decide) (G0.less (by decide) (i7 _))) [1,3] 0 rfl rfl rfl rfl rfl rfl (λ_=>rfl) ?_;refine cpq ⟨_,rfl,trivial,?_⟩;rw[h_w];refine J.qp (a5U q N1 G1.ok G1.room 0 1 0) [1] λ_=>?_;rw[h_l1];refine J.qp (a5U q N1 G1.ok G1.room 0 2 0) [1] λ_=>?_;rw[h_l3];refine J.qp (a4c q N1 G1.ok 0 4 0 0 0 0 0) [1] λ_=>?_;refine J.qp (b0v q N2 G2.ok G2.room 1 0 0 7 (by decide) (by decide)) [1] λ_=>?_;rw[h_r];refine J.qc (c0l q N2 G2.ok G2.room 1 0) [1] λ_=>?_;rintro v As ⟨a,c,rfl,rfl⟩;refine⟨_,rfl,trivial,?_⟩;rw[h_a];refine J.know (λh' s=>D1 (c:=(a,c)) (by decide) (s.get (i:=7) rfl)) λhg=>?_;obtain⟨ga,rfl⟩:=hg;refine J.qp (b1T) [] λ_=>?_;refine J.qp (b1S) [] λ_=>?_;refine J.q λ_=>?_;rw[h_l2];refine J.v (.bool true) rfl rfl (λhg x w he hw=>(X1 (xs:=enL B9.e) (ys:=enL B9.e) rfl rfl rfl he hg rfl b1Q (b0N _) (b0N _) c1Y c2e).trans (by rw[(c2g _ _ rfl rfl).2 rfl])) ?_;refine J.q λ_=>?_;refine J.v (.bool true) rfl rfl (λhg x w he hw=>I2 tk rfl rfl he hg rfl rfl (hw.get (i:=7) rfl) rfl) ?_;refine J.q λ_=>?_;refine J.v (.bool true) rfl rfl (λhg x w he hw=>I2 tk rfl rfl he hg rfl rfl (hw.get (i:=7) rfl) rfl) ?_;refine J.q λ_=>?_;refine J.v (iI 7) rfl rfl (λhg x w he hw=>I2 tk rfl rfl he hg rfl rfl (hw.get (i:=7) rfl) rfl) ?_;refine J.qc (b3O q N2 G2.ok G2.room 1 0) [1] λ_=>?_;rintro v As ⟨a2,c2,rfl,rfl⟩;refine⟨_,rfl,trivial,?_⟩;rw[h_m];exact J.qx []
end
section
open Go Go.RowKit
theorem a9d (a:Int) (n:Int) (hn:0<n): -n<a.tmod n/\a.tmod n<n:=by
 refine⟨?_,Int.tmod_lt_of_pos a hn⟩;obtain⟨k,rfl | rfl⟩:=Int.eq_nat_or_neg a
 ·have:=Int.tmod_nonneg (a:=(k:Int)) n (by omega);omega
 ·rw[Int.neg_tmod];have:=Int.tmod_lt_of_pos (k:Int) hn;omega
theorem c0E (a:Int) (n:Int) (hn:0<n):0<=(a.tmod n+n).tmod n/\(a.tmod n+n).tmod n<n:=by
 have:=a9d a n hn;exact⟨Int.tmod_nonneg _ (by omega),Int.tmod_lt_of_pos _ hn⟩
theorem c1b (a b c:Int):FP 46 [iI a,iI b,iI c] [] (λv As=>∃D B P:Nat,v= .agg #[iI D,iI B,iI P]/\(3<=D/\D<=6)/\(8<=B/\B<=16)/\(2<=P/\P<=8)/\As=[]):=by
 have a1:=a9d a 4 (by decide);have a2:=c0E a 4 (by decide);have b1:=a9d b 9 (by decide);have b2:=c0E b 9 (by decide);have c1:=a9d c 7 (by decide);have c2:=c0E c 7 (by decide);refine FE [0,0,0] Tryz.func46 λX F hX=>?_;refine J.q λb1=>?_;refine J.ru hX [] ?_;obtain⟨D,hD⟩:=f9 a2.1;obtain⟨B,hB⟩:=f9 b2.1;obtain⟨P,hP⟩:=f9 c2.1;refine⟨3+D,8+B,2+P,?_,by omega,by omega,by omega,rfl⟩;rw[hD,hB,hP,a2b,a2b,a2b];rfl
namespace B13
def e1:En:={En.zero with lpn:=4,seq:=7,role:=1}
def e2:En:={En.zero with lpn:=4,seq:=6,role:=1}
def e3:En:={En.zero with lpn:=10,seq:=9,role:=1}
def T0:Tb:=⟨10,[],[],1⟩
def T1:Tb:=⟨10,[(4,⟨2,1,0,7,7,1⟩)],[(2,1)],8⟩
def t0:Tl:=Tl.new 3 8 2
def t1:Tl:=⟨3,8,2,⟨3,0,false,false⟩::List.replicate 7 Sb.zero,0⟩
def t2:Tl:=⟨3,8,2,[⟨3,0,false,false⟩,Sb.zero,⟨0,2,false,false⟩,Sb.zero,Sb.zero,Sb.zero,Sb.zero,Sb.zero],0⟩
theorem h0:Tb.new 10=T0:=by kernel_rfl
theorem h1:Tb.put T0 e1 2 1 0 7=T1:=by kernel_rfl
theorem h2:Tb.put T1 e2 0 0 0 7=T1:=by kernel_rfl
theorem h3:Tb.put T1 e3 0 0 0 7=T1:=by kernel_rfl
theorem p1:Tb.putB T0 e1=true:=by kernel_rfl
theorem p2:Tb.putB T1 e2=false:=by kernel_rfl
theorem p3:Tb.putB T1 e3=false:=by kernel_rfl
theorem w1:t0.wore 0 3=t1:=by kernel_rfl
theorem w2:t1.bad 1 2=t2:=by kernel_rfl
theorem c0 (k:Int):0<=T0.count k/\T0.count k<=1000000:=by
 have:T0.count k=0:=rfl;rw[this];omega
theorem c1 (k:Int):0<=T1.count k/\T1.count k<=1000000:=by
 have:T1.count k=(if k=2 then some (1:Int)else none).getD 0:=rfl;rw[this];split<;>simp
theorem o1:a0o (λx y=>Q9 (t2.wear x) (t2.wear y)) (o0 (T4 t2 T1) (-1) t2.b)=1:=by kernel_rfl
theorem o2:a0o (λx y=>orI [Q9 (T1.count x) (T1.count y),Q9 (t2.wear x) (t2.wear y)]) (o0 (O2 t2 T1) (-1) t2.b)=2:=by kernel_rfl
theorem o3:(o0 (T4 t2 T1) (-1) t2.b).length=7:=by kernel_rfl
theorem o4:o0 (C3 t2 T1) (-1) t2.b=[]:=by kernel_rfl
theorem o5:o0 (a1I t2 T1) (-1) t2.b=[2]:=by kernel_rfl
theorem o6:T1.ins 2=[4]:=by kernel_rfl
theorem o7:t2.mask 2=5:=by kernel_rfl
theorem o8:t2.usable 2=true:=by kernel_rfl
theorem o9:t2.alive=7:=by kernel_rfl
theorem o10:t2.wear 0=3:=by kernel_rfl
theorem o11:t2.blank 3=true:=by kernel_rfl
theorem o12:T1.count 2=1:=by kernel_rfl
end B13
theorem b4Y:FP 258 [] [] (Ps (.bool true) []):=by
 refine FE [] Tryz.func258 λX F hX=>?_;refine J.qc (b2A 10) [] λ_=>?_;rintro v As ⟨r,rfl,rfl⟩;refine⟨_,rfl,trivial,?_⟩;rw[B13.h0];refine J.qc (b2y 3 8 2 rfl) [] λ_=>?_;rintro v As ⟨q,rfl,rfl⟩;refine⟨_,rfl,trivial,?_⟩;rw[show Tl.new 3 8 2=B13.t0 from rfl];refine J.qp (b8N) [] λ_=>?_;refine J.qF λ_=>?_;refine J.qp (a7u r B13.T0 B13.e1 2 1 0 7 (by decide) B13.c0) [1] λ_=>?_;rw[B13.h1,B13.p1];refine J.qp (a7u r B13.T1 B13.e2 0 0 0 7 (by decide) B13.c1) [1] λ_=>?_;rw[B13.h2,B13.p2];refine J.qp (a7u r B13.T1 B13.e3 0 0 0 7 (by decide) B13.c1) [1] λ_=>?_;rw[B13.h3,B13.p3];refine J.qp (a5M r B13.T1 4) [1] λ_=>?_;rw[show Tb.look B13.T1.at_ 4=some ⟨2,1,0,7,7,1⟩from rfl,j3,a2m];refine J.qp (b0i q B13.t0 (by decide) rfl 0 3) [2] λ_=>?_;rw[B13.w1];refine J.qp (b2z q B13.t1 (by decide) rfl 1 2) [2] λ_=>?_;rw[B13.w2];refine J.qp (b1T) [] λ_=>?_;refine J.qp (b1S) [] λ_=>?_;refine J.qp (b6i r B13.T1) [1] λ_=>?_;refine J.qp (a0k r B13.T1 2) [1] λ_=>?_;rw[B13.o12];refine J.qc (b6j r B13.T1 10 rfl (by decide) 2) [1] λ_=>?_;rintro v As ⟨a1,c1,rfl,rfl⟩;refine⟨_,rfl,trivial,?_⟩;rw[B13.o6];refine J.qp (b8O r B13.T1) [1] λ_=>?_;refine J.qp (a4R q B13.t2 (by decide) rfl 0) [2] λ_=>?_;rw[B13.o10];refine J.qp (a2e q B13.t2 (by decide) rfl 2) [2] λ_=>?_;rw[B13.o7];refine J.qp (a3Y q B13.t2 (by decide) rfl 2) [2] λ_=>?_;rw[B13.o8];refine J.qp (b6e q B13.t2) [2] λ_=>?_;rw[B13.o9];refine J.qp (b2J q B13.t2 (by decide) rfl r B13.T1 (-1)) [2,1] λ_=>?_;rw[B13.o1];refine J.qp (b1D q B13.t2 (by decide) rfl r B13.T1 (-1)) [2,1] λ_=>?_;rw[B13.o2];refine J.qp (b6M q B13.t2 (by decide) rfl r B13.T1 (-1)) [2,1] λ_=>?_;rw[B13.o3];refine J.qc (b3G q B13.t2 (by decide) rfl r B13.T1 (-1)) [2,1] λ_=>?_;rintro v As ⟨a2,c2,rfl,rfl⟩;refine⟨_,rfl,trivial,?_⟩;rw[B13.o4];refine J.qc (b2K q B13.t2 (by decide) rfl r B13.T1 10 rfl (by decide)) [2,1] λ_=>?_;rintro v As ⟨a3,c3,rfl,rfl⟩;refine⟨_,rfl,trivial,?_⟩;rw[B13.o5];refine J.qp (a7t q B13.t2 (by decide) rfl 3) [2] λ_=>?_;rw[B13.o11];exact J.qx []
theorem b4Z:FP 234 [] [] (Ps (.bool true) []):=by
 refine FE [] Tryz.func234 λX F hX=>?_;refine J.qp (b4Y) [] λ_=>?_;exact J.qx []
section
variable {X : Cx} {P : Program} {K : List KI} {E : Env} {L : List Atom} {N : Nat} {F : HP} {Post : Value → List Atom → Prop} {rs : List ResultVar} {T : Tab}
theorem a3r (hT:TabOK P T) {o:Oper} {x y:Operand} {st e size by_ ks tgs ky tgy:Nat} {gs gy:G} {a:Option Nat} {n cap:Nat} {xs:List Value} {s1 b1:Nat} {z1:List Value} {ac:Act} {w:World} {NN:Nat}
  (hop:o.op= .call ⟨.builtin .append,#[x,y],#[st,st]⟩) (hx:ev E x=some ⟨ks,slv a n cap,tgs,gs⟩) (hvx:gs.on=true) (hy:ev E y=some ⟨ky, .slice none 0 0,tgy,gy⟩) (hvy:gy.on=true) (hen:EnvOK NN E ac)
  (hst:T.get st=some ⟨.slice e size,s1,z1,b1⟩) {td:TD} {z:List Value} (he:T.get e=some ⟨td,size,z,by_⟩) (hown:a0V e size a n cap xs (hl w)):
  (execOp ac.eval o).run P w= .ok (.value (slv a n cap)) w:=by
 obtain⟨d,f,zv,ok⟩:=B4 (hT.get hst);obtain⟨fe,rfl,g1,g2⟩:=ok.slice rfl;obtain⟨d',f',zv',ok'⟩:=B4 (hT.get he);have hf:fe=f':=by have:=g1.symm.trans ok'.hf;injection this
 subst hf;have ex:=C5 hen hx;have ey:=C5 hen hy;simp only[Slot.val,hvx,hvy]at ex ey;have hr:=run_append_owned_none (P:=P) w 0 st o.type e fe size ok.hd ok'.hf _ n xs (a7M hown);simp only[execOp,hop,resolve,Sem.run_bind,Sem.run_pure,Result.andThen_ok,invoke,builtin,a3w,n4,R5,ex,ey,hr]
theorem J.appendO (hX:IsCx X P rs N F Post) (hT:TabOK P T) {ops:Array Oper} {C:Cl} {lt:Bool} {i:Nat} {t:PT} {o:Oper} {x y:Operand} {st e size by_:Nat} {ks tgs:Nat} {gs:G} {a:Option Nat} {n cap:Nat} {xs:List Value} {ky tgy:Nat} {gy:G} {ay:Option Nat} {m cy:Nat} {cs:List Value} {s1 b1:Nat} {z1:List Value} {E':Value->Env} (is iy:Nat)
  (ho:J3 ops.toList i=some o) (hg:gd ops.toList E o=some .tt) (hop:o.op= .call ⟨.builtin .append,#[x,y],#[st,st]⟩)
  (hx:ev E x=some ⟨ks,slv a n cap,tgs,gs⟩) (hvx:gs.on=true) (hy:ev E y=some ⟨ky,slv ay m cy,tgy,gy⟩) (hvy:gy.on=true)
  (hLs:J3 L is=some (m9 e size a n cap xs)) (hLy:J3 L iy=some (m9 e size ay m cy cs)) (hst:T.get st=some ⟨.slice e size,s1,z1,b1⟩) {td:TD} {z:List Value} (he:T.get e=some ⟨td,size,z,by_⟩) (hz:Nat.beq z.length size=true)
  (hsz:Nat.blt 0 size=true) (h1:∀u∈cs,u.oneCell'=true) (h63:n+m<=maxLen) (hbytes:(n+m)*by_<=140737488355328)
  (hd:∀v,W5 N o.dst v 0 .tt E=some (E' v))
  (hJ:∀a' cap',∃L',U3 L is (m9 e size a' (n+m) cap' (xs++cs))=some L'/\Conj (M3 lt C L')/\J X (.reg ops C t::K) (E' (slv a' (n+m) cap')) L'):J X (.reg ops C (.alt lt i t .non)::K) E L:=by
 cases ay with
 | some b=>exact J.appendR hX hT (oo:=0) is iy 0 ho hg rfl hop hx hvx hy hvy hLs hLy (Y5 _ _ (some b) _ _ _) hst he hz hsz h1 h63 hbytes hd hJ
 | none=>
  rw[J2]at hLs hLy;refine J.know (p:=cs.length=m*size/\m=0/\cy=0) (λh s=>(show a0V e size none m cy cs h from s.get hLy)) λhk=>?_;obtain⟨q1,rfl,rfl⟩:=hk;have hcs:cs=[]:=n5 (by rw[q1,P8]);subst hcs;obtain⟨L',e1,e2,e3⟩:=hJ a cap;rw[R3,m6]at e1;rw[R3]at e3;have hL:L'=L:=by
   rw[T8 e1];apply x9;intro j;rw[z8];split
   ·rename_i e;subst e;split
    ·exact hLs.symm
    ·rename_i e4;rw[j5 (by omega)]
   ·rfl
  subst hL;exact J.val hX (slv a n cap) 0 ho hg (λ_ ac w hen hs=>a3r hT hop hx hvx hy hvy hen hst he (show a0V e size a n cap xs (hl w)from hs.get hLs)) (hd _) e2 e3
end
def FOk (m:Nat) (L:List Fnd) (Z:List FSlot):Prop:=Z.map (·.l)=(List.range m).map λk:Nat=>V.of L (k:Int)
theorem FOk.len {m:Nat} {L:List Fnd} {Z:List FSlot} (h:FOk m L Z):Z.length=m:=by have:=congrArg List.length h;simpa using this
theorem FOk.get {m:Nat} {L:List Fnd} {Z:List FSlot} (h:FOk m L Z) {k:Nat} (hk:k<m):∃z,Z[k]? =some z/\z.l=V.of L (k:Int):=by
 have hl:=h.len;refine⟨Z[k],c9 (by omega),?_⟩;have:=congrArg (λl=>l[k]?) h;simp only[i9,I4 hk,c9 (show k<Z.length by omega),C6,l6]at this;exact this
theorem FOk.zero (m:Nat):FOk m [] (List.replicate m ⟨none,0,[]⟩):=by
 unfold FOk;apply x9;intro i;rw[i9,E9,i9]
 by_cases h:i<m
 ·rw[d8 h,I4 h];simp[V.of]
 ·rw[d6 h,j5 (by simp;omega)];rfl
theorem FOk.hit {m:Nat} {L:List Fnd} {Z:List FSlot} (h:FOk m L Z) {x:Fnd} {k:Nat} (hx:x.en.lpn=(k:Int)) {z z':FSlot} (hz:Z[k]? =some z) (hz':z'.l=z.l++[x]):FOk m (L++[x]) (Z.set k z'):=by
 have hl:=h.len;have hk:k<Z.length:=(List.getElem?_eq_some_iff.1 hz).1;have hzl:z.l=V.of L (k:Int):=by
  obtain⟨z2,h1,h2⟩:=h.get (k:=k) (by omega);rw[hz]at h1;injection h1 with h1;subst h1;exact h2
 unfold FOk;rw[L7,show Z.map (·.l)=_ from h,hz',hzl];apply x9;intro i;rw[z8,i9,i9]
 by_cases e:k=i
 ·subst e;rw[d8 rfl,d8 (by simp;omega),I4 (by omega),C6,V.of_snoc,d8 hx]
 ·rw[d6 e]
  by_cases h2:i<m
  ·rw[I4 h2,C6,C6,V.of_snoc,d6 (by omega)]
  ·rw[j5 (by simp;omega)];rfl
theorem FOk.miss {m:Nat} {L:List Fnd} {Z:List FSlot} (h:FOk m L Z) {x:Fnd} (hx:(m:Int)<=x.en.lpn):FOk m (L++[x]) Z:=by
 unfold FOk;rw[show Z.map (·.l)=_ from h];apply W1;intro i hi;rw[J5]at hi;rw[V.of_snoc,d6 (by omega)]
theorem FOk.le {m:Nat} {L:List Fnd} {Z:List FSlot} (h:FOk m L Z) {k:Nat} {z:FSlot} (hz:Z[k]? =some z):z.l.length<=L.length:=by
 have hl:=h.len;have hk:k<Z.length:=(List.getElem?_eq_some_iff.1 hz).1;obtain⟨z2,h1,h2⟩:=h.get (k:=k) (by omega);rw[hz]at h1;injection h1 with h1;subst h1
 rw[h2];exact V.of_len L k
theorem a4D {α β:Type} (f:α->List β) (c:Nat) (l:List α) (h:∀x∈l,(f x).length<=c):(l.flatMap f).length<=c*l.length:=by
 induction l with
 | nil=>simp
 | cons x l ih=>
  rw[u0,f8,l5];have:=h x (H1 ..);have:=ih (λy hy=>h y (E8 _ hy));rw[a2u];omega
theorem a4Y (N:Nand) (hN:N.Ok) (b r:Int):(R.all N b r).length<=42:=by
 have hbd:=hN.bd;have:=a7O N b r (M.masks N b r).length (by omega);unfold a5c at this
 rwa [S8]at this
theorem b8G (N:Nand) (hN:N.Ok) (b:Nat) (hb:b<=16):(V.upB N b).length<=5376:=by
 have hbd:=hN.bd;unfold V.upB;have:=a4D (λb:Nat=>(List.range N.pages).flatMap λr=>R.all N (b:Nat) (r:Nat)) 336 (List.range b) (λx _=>by
  have:=a4D (λr:Nat=>R.all N (x:Nat) (r:Nat)) 42 (List.range N.pages) (λr _=>a4Y N hN _ _);rw[M5]at this;omega)
 rw[M5]at this;omega
theorem b8E (N:Nand) (hN:N.Ok) (b r:Nat) (hb:b<=16) (hr:r<=8):(V.upR N b r).length<=5712:=by
 have h1:=b8G N hN b hb;have:=a4D (λr:Nat=>R.all N (b:Nat) (r:Nat)) 42 (List.range r) (λr _=>a4Y N hN _ _);rw[M5]at this;unfold V.upR;rw[f8];omega
theorem b8F (N:Nand) (hN:N.Ok) (b r i:Nat) (hb:b<=16) (hr:r<=8):(V.upI N b r i).length<=5754:=by
 have h1:=b8E N hN b r hb hr;have:=a4Y N hN b r;unfold V.upI;rw[f8,j9];omega
theorem c0z (N:Nand) (b:Nat):∀f∈V.upB N b,a6j f.en:=by
 intro f h;unfold V.upB at h;rw[K5]at h;obtain⟨_,_,h⟩:=h;rw[K5]at h;obtain⟨_,_,h⟩:=h;exact(a6b h).2.2
theorem c0x (N:Nand) (b r:Nat):∀f∈V.upR N b r,a6j f.en:=by
 intro f h;unfold V.upR at h;rw[L9]at h;rcases h with h | h
 ·exact c0z N b f h
 ·rw[K5]at h;obtain⟨_,_,h⟩:=h;exact(a6b h).2.2
theorem c0y (N:Nand) (b r i:Nat):∀f∈V.upI N b r i,a6j f.en:=by
 intro f h;unfold V.upI at h;rw[L9]at h;rcases h with h | h
 ·exact c0x N b r f h
 ·exact(a6b (I8 h)).2.2
theorem Sep.ofAll {L:List Atom} {h:Hl} (hL:∀A∈L,∀h,A.sat h):Sep L h:=⟨λ_=>0,λi A hA=>hL A (j8 hA) _⟩
def svL (q:Nat) (torn:Value) (first:Int) (held:Value) (next pages:Int):List Value:=[pp q,torn,iI first,held,iI next,iI pages]
def svV (q:Nat) (S:Scd) (a1:Option Nat) (c1:Nat) (a2:Option Nat) (c2:Nat):Value:= .agg (svL q (slv a1 S.torn.length c1) S.first (slv a2 S.held.length c2) S.next S.pages).toArray
def sv0 (q:Nat) (L:List Fnd):List Value:=svL q (.slice none 0 0) 0 (.slice none 0 0) (V.nextOf L) L.length
theorem a6B {α:Type} (x:α):∀n:Nat,(List.replicate n [x]).flatten=List.replicate n x
 | 0=>rfl
 | n+1=>by rw[a0n,a0n,List.flatten_cons,a6B x n];rfl
theorem b5o (m:Nat):(List.replicate m [Value.slice none 0 0]).flatten=a3L (List.replicate m ⟨none,0,[]⟩):=by
 rw[a6B];unfold a3L;rw[a2o];rfl
theorem b5p {Z:List FSlot} {k:Int} {z:FSlot} (h:Z[k.toNat]? =some z):(a3L Z)[0+k.toNat*1]? =some z.hdr:=by
 rw[show 0+k.toNat*1=k.toNat from by omega,a3L,i9,h];rfl
theorem c0Y (a b:Int):(if b>a then b else a)=max a b:=by split<;>omega
theorem b3g (l m:List Int):A5 l++A5 m=A5 (l++m):=by simp[A5]
theorem b3i (l m:List En):n7 l++n7 m=n7 (l++m):=by simp[n7]
theorem b3f (l:List Int):∀u∈A5 l,u.oneCell'=true:=by
 intro u hu;simp only[A5,P9]at hu;obtain⟨x,_,rfl⟩:=hu;rfl
theorem b5W (p:Nat) (N:Nand) (hN:N.Ok) (hR:N.Room) (hoff:N.off=false) (n:Int):FP 57 [pp p,iI n] [B8 p N]
  (λv As=>∃q a1 c1 a2 c2,v= .tuple #[svV q (V.scan N n) a1 c1 a2 c2,iI 0]/\As=[B8 p N,TbA q (V.scan N n).tb,m9 101 19 a1 (V.scan N n).torn.length c1 (n7 (V.scan N n).torn),m9 3 1 a2 (V.scan N n).held.length c2 (A5 (V.scan N n).held)]):=by
 have hbd:=hN.bd;refine FE [2,0] Tryz.func57 λX F hX=>?_;refine J.q λbr=>?_;refine J.cF ?_;refine J.qp (a5d p N) [1] λ_=>?_;rw[hoff];refine J.qF λ_=>?_;refine J.qc (b2A n) [] λ_=>?_;rintro v As ⟨q,rfl,rfl⟩;refine⟨_,rfl,trivial,?_⟩;refine J.qn 11 λbo=>?_;rw[b6h];obtain⟨m,hm⟩:∃m:Nat,min (max n 0) 65536=(m:Int):=⟨(min (max n 0) 65536).toNat,by omega⟩;have hms:V.size n=m:=by unfold V.size;omega
 have hm1:m<=65536:=by omega
 rw[hm];refine J.mk 6 λg=>?_;rw[b5o];refine J.q λbs=>?_;refine J.turn1 [] rfl (As:=[.hp (HP.of (a5o (List.replicate m ⟨none,0,[]⟩)))]) (λh s=>Sep.hpOf.2 (Sep.ofAll λA hA h=>by
  unfold a5o at hA;rw[a2o,List.mem_replicate]at hA;rw[hA.2];exact⟨rfl,rfl,rfl⟩)) rfl ?_
 refine J.qp (a2B p N) [1] λ_=>?_;refine J.q λ_=>?_;refine J.l (α:=(Nat×List FSlot)) (λz=>z.1<=N.blocks/\FOk m (V.upB N z.1) z.2) (λz=>[si 38 z.1,si 37 N.blocks,⟨0,pp p,2, .tt⟩,⟨4,pp (br 0),3, .tt⟩,⟨6,pp (bo 0),5, .tt⟩,⟨7,pp (bs 0),7, .tt⟩]) [4,5,7] (λz=>[.pt (bo 0) 118 (sv0 q (V.upB N z.1)), .pt g 177 (a3L z.2), .hp (HP.of (a5o z.2))]) (λz=>N.blocks-z.1) ((0,List.replicate m ⟨none,0,[]⟩)) (⟨j7 _,FOk.zero m⟩) λz hI=>?_;obtain⟨b,Z⟩:=z;dsimp only at hI ⊢;obtain⟨hb,hZ⟩:=hI;refine J.qd (λ_ h1=>?_) λ_ h1=>?_
 ·simp only[d5,i5]at h1;refine J.qp (a2B p N) [1] λ_=>?_;rw[<- V.upR_zero]at hZ;rw[<- V.upR_zero];refine J.q λ_=>?_;refine J.l (α:=(Nat×List FSlot)) (λz=>z.1<=N.pages/\FOk m (V.upR N b z.1) z.2) (λz=>[si 44 z.1,si 43 N.pages,si 8 b,si 38 b,si 37 N.blocks,⟨0,pp p,2, .tt⟩,⟨4,pp (br 0),3, .tt⟩,⟨6,pp (bo 0),5, .tt⟩,⟨7,pp (bs 0),7, .tt⟩]) [4,5,7] (λz=>[.pt (bo 0) 118 (sv0 q (V.upR N b z.1)), .pt g 177 (a3L z.2), .hp (HP.of (a5o z.2))]) (λz=>N.pages-z.1) ((0,Z)) (⟨j7 _,hZ⟩) λz hI=>?_;clear hZ Z;obtain⟨r,Z⟩:=z;dsimp only at hI ⊢;obtain⟨hr,hZ⟩:=hI;refine J.qd (λ_ h2=>?_) λ_ h2=>?_
  ·simp only[d5,i5]at h2;refine J.qc (c0l p N hN hR b r) [1] λ_=>?_;rintro v As ⟨al,cl,rfl,rfl⟩;refine⟨_,rfl,trivial,?_⟩;rw[<- V.upI_zero]at hZ;rw[<- V.upI_zero];refine J.q λ_=>?_;refine J.l (α:=(Nat×List FSlot)) (λz=>z.1<=(R.all N b r).length/\FOk m (V.upI N b r z.1) z.2) (λz=>[si 52 z.1,⟨51,iI (R.all N b r).length,0, .tt⟩,sv 50 (slv al (R.all N b r).length cl),si 9 r,si 44 r,si 43 N.pages,si 8 b,si 38 b,si 37 N.blocks,⟨0,pp p,2, .tt⟩,⟨4,pp (br 0),3, .tt⟩,⟨6,pp (bo 0),5, .tt⟩,⟨7,pp (bs 0),7, .tt⟩]) [4,5,7] (λz=>[.pt (bo 0) 118 (sv0 q (V.upI N b r z.1)), .pt g 177 (a3L z.2), .hp (HP.of (a5o z.2))]) (λz=>(R.all N b r).length-z.1) ((0,Z)) (⟨j7 _,hZ⟩) λz hI=>?_;clear hZ Z;obtain⟨i,Z⟩:=z;dsimp only at hI ⊢;obtain⟨hi,hZ⟩:=hI;refine J.qd (λ_ h3=>?_) λ_ h3=>?_
   ·simp only[d5,i5]at h3;obtain⟨x,hx⟩:∃x,(R.all N b r)[i]? =some x:=⟨_,c9 h3⟩;have hup:=V.upI_succ hx;have hrl:=a4Y N hN b r;have hxb:=(a6b (j8 hx)).2.2;have hul:=b8F N hN b r i (by omega) (by omega);have hnb:=V.nextOf_bd (c0y N b r i);refine J.know (λh' s=>D1 (c:=(al,cl)) (by omega) (s.get (i:=8) rfl)) λhg=>?_;obtain⟨gl,rfl⟩:=hg;refine J.q λ_=>?_;refine J.v (fdV x) rfl rfl (λhg a w he hs=>?_) ?_
    ·exact J8 tk rfl rfl he rfl rfl rfl (hs.get (i:=8) rfl) (by rw[show 0+(i:Int).toNat*25=i*25 from by omega];exact a1V hx) rfl
    unfold a6j at hxb;refine J.q λbf=>?_;have hn1:V.nextOf (V.upI N b r (i+1))=max (V.nextOf (V.upI N b r i)) (x.en.seq+1):=by rw[hup,V.nextOf_snoc]
    have hn2:((V.upI N b r i).length:Int)+1=((V.upI N b r (i+1)).length:Int):=by rw[hup,f8];rfl
    rw[c0Y,<- hn1,hn2];refine J.p (.of [0,4,9,12,16,20,25,28,32]) [] [6,9] λ_=>?_;refine J.qd (λ_ h4=>?_) λ_ h4=>?_
    ·simp only[d5]at h4;obtain⟨z,hz,hzl⟩:=hZ.get (k:=x.en.lpn.toNat) (by omega);have hzle:=hZ.le hz;have hZl:=hZ.len;refine J.openAt 7 x.en.lpn.toNat rfl rfl (a5n hz) rfl ?_;refine J.pn 15 (.of [0,4,8,13,16,20,25,28,32,36,41,44,48,53,56,61,65,70,74,76,83]) [19,20] [5,6,9] λ_ _=>?_;refine J.vT z.hdr rfl rfl (λhg a w he hC=>D4 tk rfl rfl he rfl rfl rfl (hC rfl _ (B6 (i:=5) rfl)) (b5p hz)) ?_;refine J.q λ_=>?_;refine J.append hX tk 10 11 0 rfl rfl rfl rfl rfl rfl rfl rfl rfl rfl rfl rfl rfl rfl rfl rfl ?_ ?_ (λ_=>rfl) λa' c'=>⟨_,(congrArg (λy=>U3 _ 10 (m9 _ _ _ _ _ y)) (a3S z.l x).symm).trans rfl,⟨rfl,rfl,rfl,trivial⟩,?_⟩
     ·simp only[maxLen];omega
     ·omega
     rw[show z.l.length+1=(z.l++[x]).length from by simp];refine J.q λ_=>?_;have hhit:=hZ.hit (x:=x) (k:=x.en.lpn.toNat) (by omega) hz (z':=⟨a',c',z.l++[x]⟩) rfl;refine J.s1 5 (a3L (Z.set x.en.lpn.toNat ⟨a',c',z.l++[x]⟩)) ?_ ?_ ?_
     ·rw[show(a3L Z).length=Z.length from by simp[a3L]];omega
     ·rw[show 0+x.en.lpn.toNat*1=x.en.lpn.toNat from by omega];exact b7J Z _ ⟨a',c',z.l++[x]⟩
     refine J.closeAt (A:=(FSlot.mk a' c' (z.l++[x])).atom) 7 10 x.en.lpn.toNat rfl rfl rfl ?_;rw[b8b];refine J.q λ_=>?_;refine J.n ((i+1,Z.set x.en.lpn.toNat ⟨a',c',z.l++[x]⟩)) (⟨by dsimp only;omega,by dsimp only;rw[hup];exact hhit⟩) (by dsimp only;omega) [0,1,2,3,4,5,6,7,8]
    ·simp only[c8]at h4;have hmiss:=hZ.miss (x:=x) (by omega);refine J.q λ_=>?_;refine J.n ((i+1,Z)) (⟨by dsimp only;omega,by dsimp only;rw[hup];exact hmiss⟩) (by dsimp only;omega) [0,1,2,3,4,5,6,7,8]
   ·simp only[c8,i5]at h3;obtain rfl:i=(R.all N b r).length:=by omega
    rw[<- V.upR_succ]at hZ;rw[<- V.upR_succ];refine J.q λ_=>?_;refine J.n ((r+1,Z)) (⟨by dsimp only;omega,hZ⟩) (by dsimp only;omega) [0,1,2,3,4,5,6,7]
  ·simp only[c8,i5]at h2;obtain rfl:r=N.pages:=by omega
   rw[<- V.upB_succ]at hZ;rw[<- V.upB_succ];refine J.q λ_=>?_;refine J.n ((b+1,Z)) (⟨by dsimp only;omega,hZ⟩) (by dsimp only;omega) [0,1,2,3,4,5,6,7]
 simp only[c8,i5]at h1;obtain rfl:b=N.blocks:=by omega
 rw[V.upB_all]at hZ;rw[V.upB_all];have hZl:=hZ.len;have hLb:∀f∈V.all N,a6j f.en:=λf hf=>(b3p hf).2;have hLl:=b4i N hN;subst hZl;refine J.q λ_=>?_;refine J.turn1 [] rfl (As:=[m9 101 19 none 0 0 (n7 []),m9 3 1 none 0 0 (A5 []),m9 101 19 none 0 0 (n7 [])]) (λh s=>Sep.ofAll λA hA h=>by
  simp only[H7,U5,a5A]at hA;rcases hA with rfl | rfl | rfl<;>exact⟨rfl,rfl,rfl⟩) rfl ?_
 refine J.q λ_=>?_;refine J.l (α:=(Nat×(Option Nat×Nat)×(Option Nat×Nat)×(Option Nat×Nat))) (λz=>z.1<=Z.length) (λz=>[si 105 z.1,si 104 Z.length,⟨12,slv z.2.2.2.1 (V.goS N (V.all N) n z.1).others.length z.2.2.2.2,0, .tt⟩,⟨0,pp p,2, .tt⟩,⟨4,pp (br 0),3, .tt⟩,⟨6,pp (bo 0),5, .tt⟩,⟨7,pp (bs 0),7, .tt⟩]) [3,4,8,9,10] (λz=>[TbA q (V.goS N (V.all N) n z.1).tb, .pt (bo 0) 118 (svL q (slv z.2.1.1 (V.goS N (V.all N) n z.1).torn.length z.2.1.2) 0 (slv z.2.2.1.1 (V.goS N (V.all N) n z.1).held.length z.2.2.1.2) (V.nextOf (V.all N)) (V.all N).length),m9 101 19 z.2.1.1 (V.goS N (V.all N) n z.1).torn.length z.2.1.2 (n7 (V.goS N (V.all N) n z.1).torn),m9 3 1 z.2.2.1.1 (V.goS N (V.all N) n z.1).held.length z.2.2.1.2 (A5 (V.goS N (V.all N) n z.1).held),m9 101 19 z.2.2.2.1 (V.goS N (V.all N) n z.1).others.length z.2.2.2.2 (n7 (V.goS N (V.all N) n z.1).others)]) (λz=>Z.length-z.1) ((0,(none,0),(none,0),(none,0))) (j7 _) λz hI=>?_;obtain⟨k,⟨a1,c1⟩,⟨a2,c2⟩,⟨a3,c3⟩⟩:=z;dsimp only at hI ⊢;have hgl:=V.goS_len N (V.all N) n k;have hgh:=V.goS_held N (V.all N) n k;refine J.qd (λ_ h2=>?_) λ_ h2=>?_
 ·simp only[d5,i5]at h2;obtain⟨z,hz,hzl⟩:=hZ.get (k:=k) h2;have hzle:=hZ.le hz;have hstep:=V.goS_succ N (V.all N) n k;have hok:=V.goS_ok N (V.all N) n k;have hhl:=V.holds_len (V.of (V.all N) k);have hol:=V.of_len (V.all N) k;have hsm:=V.standOf_mem (l:=V.of (V.all N) k);generalize hS:V.goS N (V.all N) n k=S at hgl hgh hstep hok;refine J.qp (b5U (bs 0) p g Z k z hz (by omega) (by omega)) [6,5,7] λ_=>?_;rw[hzl];unfold V.step at hstep;obtain⟨f,is,hs⟩:∃f is,V.standOf (V.of (V.all N) k)=(f,is):=⟨_,_,rfl⟩;rw[hs]at hsm hstep ⊢;dsimp only at hsm hstep ⊢;refine J.q λbf=>?_;refine J.cond rfl (λh3=>?_) (λh3=>?_)
  ·simp only[i4]at h3;subst h3;rw[d6 l9]at hstep;rw[<- hstep];refine J.q λ_=>?_;refine J.n ((k+1,(a1,c1),(a2,c2),(a3,c3))) (by dsimp only;omega) (by dsimp only;omega) [0,1,2,3,4,5,6,7,8,9,10]
  simp only[A9]at h3;subst h3;rw[d8 rfl]at hstep;have hfm:f∈V.all N:=by have:=hsm rfl;unfold V.of at this;exact(List.mem_filter.1 this).1
  obtain⟨⟨r0,hr0,hr1⟩,hfb⟩:=b3p hfm;unfold a6j at hfb;refine J.qp (a7u q S.tb f.en f.block f.row f.slot f.mask (by omega) hok.bd) [3] λ_=>?_;refine J.qd (λ_ h4=>?_) λ_ h4=>?_
  ·rw[d8 h4]at hstep;have e1:=congrArg Sst.tb hstep;have e2:=congrArg Sst.torn hstep;have e3:=congrArg Sst.held hstep;have e4:=congrArg Sst.others hstep;dsimp only at e1 e2 e3 e4;rw[<- e1,<- e2,<- e3,<- e4];refine J.q λ_=>?_;refine J.n ((k+1,(a1,c1),(a2,c2),(a3,c3))) (by dsimp only;omega) (by dsimp only;omega) [0,1,2,3,4,5,6,7,8,9,10]
  rw[d6 (by rw[h4];exact l9)]at hstep;refine J.qp (c0w p N hN hR (bs 0) (.slice (some ⟨g,0,none⟩) Z.length Z.length) f r0 hr0 (by omega)) [1,6] λ_=>?_;refine J.qd (λ_ h5=>?_) λ_ h5=>?_
  ·rw[d8 h5]at hstep;have e1:=congrArg Sst.tb hstep;have e2:=congrArg Sst.torn hstep;have e3:=congrArg Sst.held hstep;have e4:=congrArg Sst.others hstep;dsimp only at e1 e2 e3 e4;refine J.q λ_=>?_;refine J.ap 8 12 0 (a0D S.torn f.en) λa4 c4=>?_;rw[show S.torn.length+1=(S.torn++[f.en]).length from by simp];refine J.p (.of [0,5,8,12,18,23,24,31]) [5,6,7] [4] λ_=>?_;refine J.qc (b8D (bs 0) p g Z k z hz (by omega) (by omega)) [6,5,7] λ_=>?_;rintro v As ⟨a5,c5,rfl,rfl⟩;refine⟨_,rfl,stq,?_⟩;rw[hzl];refine J.q λ_=>?_;refine J.appendO hX tk 9 13 rfl rfl rfl rfl rfl rfl rfl rfl rfl rfl rfl rfl rfl (b3f _) ?_ ?_ (λ_=>rfl) λa6 c6=>⟨_,(congrArg (λy=>U3 _ 9 (m9 _ _ _ _ _ y)) (b3g S.held (V.holds (V.of (V.all N) k)))).trans rfl,stq,?_⟩
   ·simp only[maxLen];omega
   ·omega
   rw[show S.held.length+(V.holds (V.of (V.all N) k)).length=(S.held++V.holds (V.of (V.all N) k)).length from by simp];rw[<- e1,<- e2,<- e3,<- e4];refine J.q λ_=>?_;refine J.n ((k+1,(a4,c4),(a6,c6),(a3,c3))) (by dsimp only;omega) (by dsimp only;omega) [0,1,2,3,4,5,6,7,8,9,10]
  ·rw[d6 (by rw[h5];exact l9)]at hstep;have e1:=congrArg Sst.tb hstep;have e2:=congrArg Sst.torn hstep;have e3:=congrArg Sst.held hstep;have e4:=congrArg Sst.others hstep;dsimp only at e1 e2 e3 e4;refine J.q λ_=>?_;refine J.ap 10 12 0 (a0D S.others f.en) λa4 c4=>?_;rw[show S.others.length+1=(S.others++[f.en]).length from by simp];rw[<- e1,<- e2,<- e3,<- e4];refine J.q λ_=>?_;refine J.n ((k+1,(a1,c1),(a2,c2),(a4,c4))) (by dsimp only;omega) (by dsimp only;omega) [0,1,2,3,4,5,6,7,8,9,10]
 simp only[c8,i5]at h2;obtain rfl:k=Z.length:=by omega
 have hsc:V.scan N n=⟨(V.goS N (V.all N) n Z.length).tb,(V.goS N (V.all N) n Z.length).torn++(V.goS N (V.all N) n Z.length).others,(V.goS N (V.all N) n Z.length).torn.length,J9 (a0K (V.goS N (V.all N) n Z.length).held),V.nextOf (V.all N),(V.all N).length⟩:=by
  unfold V.scan V.scanOf;rw[hms]
 generalize V.goS N (V.all N) n Z.length=S at hgl hgh hsc;refine J.q λ_=>?_;refine J.appendO hX tk 8 10 rfl rfl rfl rfl rfl rfl rfl rfl rfl rfl rfl rfl rfl (a8x _) ?_ ?_ (λ_=>rfl) λa6 c6=>⟨_,(congrArg (λy=>U3 _ 8 (m9 _ _ _ _ _ y)) (b3i S.torn S.others)).trans rfl,stq,?_⟩
 ·simp only[maxLen];omega
 ·omega
 rw[show S.torn.length+S.others.length=(S.torn++S.others).length from by simp];refine J.qp (b8x a2 S.held.length c2 S.held rfl (by omega)) [9] λ_=>?_;refine J.q λ_=>?_;refine J.ca hX (by kernel_rfl) (a8X a2 S.held.length c2 (a0K S.held) (a2x _) (by omega)) [9] 0 rfl rfl rfl rfl rfl rfl (λ_=>rfl) ?_;rintro v As ⟨l',hl',rfl,rfl⟩;refine⟨_,rfl,trivial,?_⟩;refine J.qr [1,3,8,9] λ_=>?_;rw[hsc,<- hl'];exact⟨q,a6,c6,a2,c2,rfl,rfl⟩
namespace B16
def e1:En:=⟨2,5,1,1::List.replicate 15 0⟩
def e2:En:=⟨2,4,1,2::List.replicate 15 0⟩
def e3:En:=⟨1,8,2,zeros16⟩
def w1:En:=⟨4,1,0,zeros16⟩
def w2:En:=⟨5,2,0,zeros16⟩
def w3:En:=⟨4,3,0,zeros16⟩
def N0:Nand:=Nand.new 3 8 2
def N1:Nand:=(R.write N0 1 0 7 [e1,B9.pad]).1
def N2:Nand:=(R.write N1 2 0 7 [e2,e3]).1
theorem G0:N0.Gd 100 0:=Nand.Gd.new 3 8 2 rfl 100 (by decide)
theorem G1:N1.Gd 92 0:=a4N (by decide) G0
theorem G2:N2.Gd 84 0:=a4N (by decide) G1
theorem off2:N2.off=false:=by kernel_rfl
def L:List Fnd:=[⟨e1,1,0,0,7,true,false⟩,⟨e2,2,0,0,7,true,false⟩,⟨e3,2,0,1,7,true,false⟩]
def T:Tb:=⟨3,[(1,⟨2,0,1,7,8,2⟩),(2,⟨1,0,0,7,5,1⟩)],[(2,1),(1,1)],9⟩
theorem h_all:V.all N2=L:=by kernel_rfl
theorem h_go:V.goS N2 L 3 3=⟨T,[],[],[]⟩:=by kernel_rfl
theorem h_size:V.size 3=3:=by kernel_rfl
theorem h_next:V.nextOf L=9:=by kernel_rfl
theorem h_scan:V.scan N2 3=⟨T,[],0,[],9,3⟩:=by
 unfold V.scan;rw[h_all];unfold V.scanOf;rw[h_size,h_go,h_next];have:J9 (a0K [])=[]:=a9s;dsimp only;rw[this];rfl
end B16
end
section
open Go Go.RowKit
theorem b5b:FP 233 [] [] (Ps (.bool true) []):=by
 refine FE [] Tryz.func233 λX F hX=>?_;refine J.qp (b5a) [] λ_=>?_;exact J.qx []
open B16
theorem b4W:FP 196 [] [] (Ps (.bool true) []):=by
 refine FE [] Tryz.func196 λX F hX=>?_;refine J.qc (a7R 3 8 2 rfl) [] λ_=>?_;rintro v As ⟨q,rfl,rfl⟩;refine⟨_,rfl,trivial,?_⟩;refine J.qF λ_=>?_;refine J.q λbx=>?_;refine J.ca hX (by kernel_rfl) (a7b q N0 (.pt (bx 0) 101 (n7 [e1,B9.pad])) 1 0 7 (some ⟨bx 0,0,none⟩) 2 2 0 [e1,B9.pad] (a3m _ _ _ _ _ rfl) rfl (by decide) (G0.less (by decide) (i7 _))) [1,2] 0 rfl rfl rfl rfl rfl rfl (λ_=>rfl) ?_;refine cpq ⟨_,rfl,trivial,?_⟩;refine J.q λby_=>?_;refine J.ca hX (by kernel_rfl) (a7b q N1 (.pt (by_ 0) 101 (n7 [e2,e3])) 2 0 7 (some ⟨by_ 0,0,none⟩) 2 2 0 [e2,e3] (a3m _ _ _ _ _ rfl) rfl (by decide) (G1.less (by decide) (i7 _))) [1,3] 0 rfl rfl rfl rfl rfl rfl (λ_=>rfl) ?_;refine cpq ⟨_,rfl,trivial,?_⟩;refine J.qc (b5W q N2 G2.ok G2.room off2 3) [1] λ_=>?_;rintro v As ⟨r,a1,c1,a2,c2,rfl,rfl⟩;refine⟨_,rfl,trivial,?_⟩;rw[h_scan];refine J.qF λ_=>?_;refine J.qp (a5M r T 2) [4] λ_=>?_;rw[show Tb.look T.at_ 2=some ⟨1,0,0,7,5,1⟩from rfl,j3,a2m];refine J.qc (c0r) [] λ_=>?_;rintro v As ⟨d,rfl,rfl⟩;refine⟨_,rfl,trivial,?_⟩;refine J.qp (b4a d [] (by decide) w1) [9] λ_=>?_;rw[show a0B [] w1=[w1]from rfl];refine J.qp (b4a d [w1] (by decide) w2) [9] λ_=>?_;rw[show a0B [w1] w2=[w1,w2]from rfl];refine J.qp (b4a d [w1,w2] (by decide) w3) [9] λ_=>?_;rw[show a0B [w1,w2] w3=[w2,w3]from rfl];refine J.qc (b4c d [w2,w3] (by decide) 5) [9] λ_=>?_;rintro v As ⟨a3,c3,rfl,rfl⟩;refine⟨_,rfl,trivial,?_⟩;rw[show dkN [w2,w3] 5=2 from rfl,show[w2,w3].take 2=[w2,w3]from rfl];refine J.know (λh' s=>D1 (c:=(a3,c3)) (by decide) (s.get (i:=10) rfl)) λhg=>?_;obtain⟨ga,rfl⟩:=hg;refine J.know (λh' s=>a0M (show a0V _ _ (some ga) 2 c3 _ _ from s.get (i:=10) rfl)) λhcap=>?_;refine J.qp (c0s d [w2,w3] (by decide) 4) [9] λ_=>?_;rw[show a2J [w2,w3] 4=(w3,true)from rfl];refine J.qp (b5b) [] λ_=>?_;refine J.qp (b4Z) [] λ_=>?_;refine J.qp (b6i r T) [4] λ_=>?_;refine J.q λ_=>?_;refine J.v (iI 5) rfl rfl (λhg a w he hw=>I2 tk rfl rfl he hg rfl rfl (hw.get (i:=10) rfl) rfl) ?_;refine J.q λ_=>?_;have hRd:Rd (m9 101 19 (some ga) 2 c3 (n7 [w2,w3])) (some ⟨ga,0,none⟩) 19 1 (n7 [w2]):=(Y5 101 19 (some ga) 2 c3 (n7 [w2,w3])).take 1 (by decide);refine J.qp (b8g d [w2,w3] (by decide) (m9 101 19 (some ga) 2 c3 (n7 [w2,w3])) (some ⟨ga,0,none⟩) 1 c3 [w2] hRd rfl (by decide)) [9,10] λ_=>?_;rw[show a0t [w2,w3] [w2]=[w3]from rfl];refine J.qp (b4b d [w3]) [9] λ_=>?_;exact J.qx []
end
section
open Go Go.RowKit
section
variable {P : Program} {T : Tab} {E : Env} {n : Nat} {ac : Act} {w : World}
end
theorem a1n {α:Type} (f:α->List Value) (w:Nat) (hw:∀x,(f x).length=w):∀(l:List α) (k:Nat) (x:α),l[k]? =some x->((l.flatMap f).drop (k*w)).take w=f x
 | [],k,x,h=>by simp at h
 | y::l,0,x,h=>by
  simp at h;subst h;rw[u0,P8,a1t,D6 (hw y)]
 | y::l,k+1,x,h=>by
  have ih:=a1n f w hw l k x (by simpa using h);rw[u0,show(k+1)*w=(f y).length+k*w from by rw[hw y,Nat.add_mul,Nat.one_mul,a0G],<- C0,T7 rfl];exact ih
end
section
open Go Go.RowKit
open Go.ChangeShapes Go.WideShapes
def frz (W:World):Atom:= .hp ⟨Hle (hl W),λ_ _ l s=>s.trans l⟩
theorem c1j {W:World} {a:Option Addr} {size n:Nat} {xs:List Value} (h:rdP a size n xs (hl W)):Rd (frz W) a size n xs:=λ_ s=>h.up s
theorem Fn.whole {P:Program} {f:FuncId} {args:List Value} {r:Value} {W:World} (h:Fn P f args [frz W] (λv As=>v=r/\As=[frz W])):Calls P f args.toArray W λe w'=>e= .returned r/\Below W.heap.size W w':=by
 have hs:Sep (.hp ⟨λ_=>True,λ_ _ _ s=>s⟩::[frz W]) (hl W):=by
  refine⟨λ_=>1,λi A hA=>?_⟩
  match i,hA with
  | 0,hA=>simp at hA;subst hA;trivial
  | 1,hA=>
   simp at hA;subst hA;intro b o hb;exact res_some.2 ⟨rfl,hb⟩
  | i+2,hA=>simp at hA
 refine(h _ W hs).mono λe w' ⟨v,As,e1,⟨e2,e3⟩,s,x⟩=>?_;subst e2 e3;have hle:Hle (hl W) (hl w'):=s.get (i:=1) rfl;refine⟨e1,x.os,x.tape,x.output,x.size,λk hk=>?_⟩;have:W.heap[k]? =some W.heap[k]:=M9 hk;rw[this];exact hle k _ this
theorem b9a {size:Nat} {h:Hl}:rdP none size 0 [] h:=⟨by simp,λh=>absurd h (by omega)⟩
theorem b8Z {α:Type} {W:World} {base size n:Nat} {a:Addr} (f:α->List Value) (hsz:0<size)
  (h:∀i,i<n->∃x,W.cells? base (a.add (i*size)) size=some (f x)):∃l:List α,l.length=n/\rdP (some a) size n (l.flatMap f) (hl W):=by
 have h1:∀m,m<=n->∃l:List α,l.length=m/\(l.flatMap f).length=m*size/\∀i,i<m*size->W.cell? (a.add i)=(l.flatMap f)[i]?:=by
  intro m
  induction m with
  | zero=>exactλ_=>⟨[],rfl,by simp,λi hi=>by omega⟩
  | succ m ih=>
   intro hm;obtain⟨l,e1,e2,e3⟩:=ih (by omega);obtain⟨x,hx⟩:=h m (by omega);obtain⟨_,q1,q2⟩:=World.cells?_some hx;have hlen:((l++[x]).flatMap f).length=(m+1)*size:=by simp[K1,e2,q1,K6]
   refine⟨l++[x],by simp[e1],hlen,λi hi=>?_⟩;rw[K1,I9,e2];split
   ·exact e3 i (by assumption)
   ·rename_i hge;have:=q2 (i-m*size) (by rw[K6]at hi;omega);rw[Deep.add_add,show m*size+(i-m*size)=i by omega]at this;rw[this];simp
 obtain⟨l,e1,e2,e3⟩:=h1 n (i7 n);refine⟨l,e1,e2,λhn=>?_⟩;obtain⟨b,o,sp⟩:=a;have hpos:0<n*size:=Nat.mul_pos hn hsz;have h0:=e3 0 hpos;have hv:(l.flatMap f)[0]? =some ((l.flatMap f)[0]'(by omega)):=c9 _;rw[hv]at h0;have hsp:sp=none:=by simpa[Addr.add]using World.cell?_spot h0
 subst hsp;have hcell:∀i,W.cell? ⟨b,o+i,none⟩=W.cell? ((⟨b,o,none⟩:Addr).add i):=λi=>by rw[Addr.add_none]
 have hblk:∃cs ty fr,W.heap[b]? =some (.cells cs ty fr):=by
  unfold World.cell? at h0;cases hh:W.heap[b]? with
  | none=>simp[Addr.add,hh]at h0
  | some ob=>
   cases ob with
   | cells cs ty fr=>exact⟨cs,ty,fr,rfl⟩
   | _=>simp[Addr.add,hh]at h0
 obtain⟨cs,ty,fr,hh⟩:=hblk;refine⟨b,o,cs,ty,fr,rfl,hh,?_⟩;apply x9;intro i;rw[C2];split
 ·rename_i hi;rw[<- e3 i hi,<- hcell,cell_of_row W b (o+i) cs ty fr hh];simp
 ·rename_i hi;exact(j5 (by omega)).symm
section
variable {H : Type} {enc : TypeId × Value → H} {w : World} {base : Nat} {spare : Nat → Bool} {held : Bool}
theorem b0A {t:TypeId} (ht:Tryz.prog.underlying t=some (.int .i64)) {fuel:Nat} {cs:List Value} {y:DataW H×List MemPlace} (h:DataW.trod enc Tryz.prog w base spare held fuel t cs=some y):∃n,cs=[.int .i64 n]:=by
 obtain⟨n,rfl,_,_⟩:=DataW.trod_int ht h;exact⟨n,rfl⟩
end
end
section
open Go Go.RowKit
open Go.ChangeShapes Go.WideShapes Go.ChangeAt
section
variable {H : Type} {enc : TypeId × Value → H} {w : World} {base : Nat} {spare : Nat → Bool} {held : Bool}
theorem b4I {α:Type} {held':Bool} {fuel:Nat} {st et:TypeId} {size:Nat} (f:α->List Value) (good:α->Prop) (hu:Tryz.prog.underlying st=some (.slice et)) (hc:Tryz.prog.cellsOf et=size) (hsz:0<size)
  (hof:∀{fuel:Nat} {held:Bool} {cs:List Value} {y:DataW H×List MemPlace},DataW.trod enc Tryz.prog w base spare held fuel et cs=some y->∃x:α,good x/\cs=f x)
  {a:Option Addr} {len cap:Nat} {x:DataW H×List MemPlace} (h:DataW.trod enc Tryz.prog w base spare held' fuel st [.slice a len cap]=some x):
  ∃l:List α,l.length=len/\(∀e∈l,good e)/\rdP a size len (l.flatMap f) (hl w):=by
 rcases Deep.open_slice hu h with⟨hcs,_⟩ | ⟨a',len',cap',m,n,D,Pl,hcs,hb,hlc,hm,hmm,rfl,hx⟩
 ·simp at hcs;obtain⟨rfl,rfl,rfl⟩:=hcs;exact⟨[],rfl,λ_ h=>by simp at h,b9a⟩
 ·simp at hcs;obtain⟨rfl,rfl,rfl⟩:=hcs;rw[hc]at hx;obtain⟨l,e1,e2⟩:=b8Z (W:=w) (base:=base) (size:=size) (n:=len) (a:=a') (λe:{e:α//good e}=>f e.1) hsz (λi hi=>by
   obtain⟨cs,q1,q2⟩:=hx i (by rw[hmm];split<;>omega);obtain⟨e,he,rfl⟩:=hof q2;exact⟨⟨e,he⟩,q1⟩)
  refine⟨l.map (·.1),by simpa using e1,λe he=>?_,?_⟩
  ·obtain⟨x,_,rfl⟩:=List.mem_map.1 he;exact x.2
  ·rw[List.flatMap_map];exact e2
end
end
section
open Go Go.RowKit
open Go.ChangeShapes Go.WideShapes Go.ChangeAt
section
variable {H : Type} {enc : TypeId × Value → H} {w : World} {base : Nat} {spare : Nat → Bool} {held : Bool}
theorem c1d {fuel:Nat} {cs:List Value} {y:DataW H×List MemPlace} (h:DataW.trod enc Tryz.prog w base spare held fuel 3 cs=some y):∃x:Int,(-9223372036854775808<=x/\x<=9223372036854775807)/\cs=[.int .i64 x]:=by
 obtain⟨n,rfl,_,hw⟩:=DataW.trod_int Tryz.underlying3 h;refine⟨n,?_,rfl⟩;simpa[Lit.wf,IntKind.min,IntKind.max,IntKind.signed,IntKind.bits]using hw
theorem b4J {held':Bool} {fuel:Nat} {a:Option Addr} {len cap:Nat} {x:DataW H×List MemPlace} (h:DataW.trod enc Tryz.prog w base spare held' fuel 24 [.slice a len cap]=some x):
  ∃l:List Int,l.length=len/\(∀e∈l,-9223372036854775808<=e/\e<=9223372036854775807)/\rdP a 1 len (l.flatMap λx=>[.int .i64 x]) (hl w):=
 b4I (λx:Int=>[.int .i64 x]) (λx=> -9223372036854775808<=x/\x<=9223372036854775807) Tryz.underlying24 (by kernel_rfl) (by decide) c1d h
end
end
section
open Go Go.RowKit
def rdA (a:Option Addr) (size n:Nat) (xs:List Value):Atom:= .hp ⟨rdP a size n xs,λ_ _ l s=>s.up l⟩
theorem b0t (a:Option Addr) (size n:Nat) (xs:List Value):Rd (rdA a size n xs) a size n xs:=λ_ s=>s
def R9:Option (Nat×Nat)->Option Addr
 | some x=>some ⟨x.1,x.2,none⟩
 | none=>none
def a2K (a:Option (Nat×Nat)) (size h c:Nat):Option (Nat×Nat):=match a with
 | some y=>if c=h then some y else some (y.1,y.2+h*size)
 | none=>none
section
variable {P : Program} {T : Tab} {E : Env} {n : Nat} {ac : Act} {w : World}
theorem a3e (hT:TabOK P T) {o:Oper} {t e size:Nat} {x y:Operand} {k1 k2 t1 t2:Nat} {g1 g2:G} {a:Option (Nat×Nat)} {m c h:Nat} {kk:IntKind} {hI:Int} {s1 b1 b2:Nat} {z1 z2:List Value} {td:TD} (hop:o.op= .slice t x (some y) none none) (hx:ev E x=some ⟨k1, .slice (R9 a) m c,t1,g1⟩) (hy:ev E y=some ⟨k2, .int kk hI,t2,g2⟩) (he:EnvOK n E ac) (v1:g1.on=true) (v2:g2.on=true)
  (ht:T.get t=some ⟨.slice e size,s1,z1,b1⟩) (hte:T.get e=some ⟨td,size,z2,b2⟩) (hhI:hI=(h:Int)) (hh:h<=m):
  (execOp ac.eval o).run P w= .ok (.value (.slice (R9 (a2K a size h c)) (m-h) (c-h))) w:=by
 subst hhI;have e1:=C5 he hx;have e2:=C5 he hy;simp only[Slot.val,v1,v2]at e1 e2;obtain⟨d,f,zv,ok⟩:=B4 (hT.get ht);obtain⟨fe,rfl,g1,g2⟩:=ok.slice rfl;cases a with
 | none=>
  simp only[execOp,hop,C6,O3,e1,e2,Instr.sliceAt,Instr.slice,Instr.sliceBounds,Instr.sliceBound,asIntOf,Sem.run_bind,Sem.run_pure,Result.andThen_ok,s8 ok.hd,J0 g1,g2];simp[hh,R9,a2K]
 | some ad=>
  by_cases hne:c=h
  ·simp only[execOp,hop,C6,O3,e1,e2,Instr.sliceAt,Instr.slice,Instr.sliceBounds,Instr.sliceBound,asIntOf,Sem.run_bind,Sem.run_pure,Result.andThen_ok,s8 ok.hd,J0 g1,g2];simp[hh,hne,Addr.add_none,R9,a2K]
  ·simp only[execOp,hop,C6,O3,e1,e2,Instr.sliceAt,Instr.slice,Instr.sliceBounds,Instr.sliceBound,asIntOf,Sem.run_bind,Sem.run_pure,Result.andThen_ok,s8 ok.hd,J0 g1,g2];simp[hh,hne,Addr.add_none,R9,a2K]
end
section
variable {X : Cx} {P : Program} {K : List KI} {E : Env} {L : List Atom} {N : Nat} {F : HP} {Post : Value → List Atom → Prop} {rs : List ResultVar} {T : Tab}
theorem J.appendRO (hX:IsCx X P rs N F Post) (hT:TabOK P T) {ops:Array Oper} {C:Cl} {lt:Bool} {i:Nat} {t:PT} {o:Oper} {x y:Operand} {st e size by_:Nat} {ks tgs:Nat} {gs:G} {a:Option Nat} {n cap:Nat} {xs:List Value} {ky tgy:Nat} {gy:G} {ay:Option (Nat×Nat)} {m cy:Nat} {cs:List Value} {s1 b1:Nat} {z1:List Value} {E':Value->Env} {Ay:Atom} (is iy:Nat) (hc0:ay=none->cy=0)
  (ho:J3 ops.toList i=some o) (hg:gd ops.toList E o=some .tt) (hop:o.op= .call ⟨.builtin .append,#[x,y],#[st,st]⟩)
  (hx:ev E x=some ⟨ks,slv a n cap,tgs,gs⟩) (hvx:gs.on=true) (hy:ev E y=some ⟨ky, .slice (R9 ay) m cy,tgy,gy⟩) (hvy:gy.on=true)
  (hLs:J3 L is=some (m9 e size a n cap xs)) (hLy:J3 L iy=some Ay) (hrd:Rd Ay (R9 ay) size m cs) (hst:T.get st=some ⟨.slice e size,s1,z1,b1⟩) {td:TD} {z:List Value} (he:T.get e=some ⟨td,size,z,by_⟩) (hz:Nat.beq z.length size=true)
  (hsz:Nat.blt 0 size=true) (h1:∀u∈cs,u.oneCell'=true) (h63:n+m<=maxLen) (hbytes:(n+m)*by_<=140737488355328)
  (hd:∀v,W5 N o.dst v 0 .tt E=some (E' v))
  (hJ:∀a' cap',∃L',U3 L is (m9 e size a' (n+m) cap' (xs++cs))=some L'/\Conj (M3 lt C L')/\J X (.reg ops C t::K) (E' (slv a' (n+m) cap')) L'):J X (.reg ops C (.alt lt i t .non)::K) E L:=by
 cases ay with
 | some b=>exact J.appendR hX hT (oo:=b.2) is iy 0 ho hg rfl hop hx hvx hy hvy hLs hLy hrd hst he hz hsz h1 h63 hbytes hd hJ
 | none=>
  obtain rfl:=hc0 rfl;rw[J2]at hLs hLy;refine J.know (p:=cs.length=m*size/\m=0) (λh s=>⟨(hrd _ (s.get hLy)).1,by
   rcases P5 m with h0 | h0
   ·exact h0
   ·obtain⟨_,_,_,_,_,e,_⟩:=(hrd _ (s.get hLy)).2 h0;cases e⟩) λhk=>?_
  obtain⟨q1,rfl⟩:=hk;have hcs:cs=[]:=n5 (by rw[q1,P8]);subst hcs;obtain⟨L',e1,e2,e3⟩:=hJ a cap;rw[R3,m6]at e1;rw[R3]at e3;have hL:L'=L:=by
   rw[T8 e1];apply x9;intro j;rw[z8];split
   ·rename_i e;subst e;split
    ·exact hLs.symm
    ·rename_i e4;rw[j5 (by omega)]
   ·rfl
  subst hL;exact J.val hX (slv a n cap) 0 ho hg (λ_ ac w hen hs=>a3r hT hop hx hvx hy hvy hen hst he (show a0V e size a n cap xs (hl w)from hs.get hLs)) (hd _) e2 e3
end
theorem a7N {e size:Nat} {a:Option Nat} {n cap:Nat} {xs:List Value} {h:Hl} (s:a0V e size a n cap xs h):a=none->cap=0:=λe=>by subst e;exact s.2.2
theorem b0s {a:Option (Nat×Nat)} {size n c h:Nat} {xs:List Value} {hh:Hl} (s:rdP (R9 a) size n xs hh) (hn:h<=n) (hc:n<=c):rdP (R9 (a2K a size h c)) size (n-h) (xs.drop (h*size)) hh:=by
 cases a with
 | none=>
  refine⟨by rw[C1,s.1,Nat.sub_mul],λh0=>?_⟩;obtain⟨b,o,_,_,_,e,_⟩:=s.2 (by omega);cases e
 | some y=>
  by_cases e:c=h
  ·refine⟨by rw[C1,s.1,Nat.sub_mul],λh0=>by omega⟩
  ·unfold a2K;simp only[d6 e];exact(b0t (some ⟨y.1,y.2,none⟩) size n xs).drop h hn _ s
theorem b4L {a:Option (Nat×Nat)} {size n:Nat} {xs:List Value} {h:Hl} (s:rdP (R9 a) size n xs h) (hn:0<n):∃y,a=some y:=by
 cases a with
 | none=>obtain⟨_,_,_,_,_,e,_⟩:=s.2 hn;cases e
 | some y=>exact⟨y,rfl⟩
theorem b2n (L:List En):∀k,(n7 L).drop (k*19)=n7 (L.drop k):=by
 induction L with
 | nil=>intro k;simp[n7]
 | cons x l ih=>
  intro k;cases k with
  | zero=>simp
  | succ k=>
   have e1:n7 (x::l)=enL x++n7 l:=by simp[n7]
   rw[e1,a1F,<- ih k,show(k+1)*19=(enL x).length+k*19 from by show _=19+k*19;omega,<- C0,T7 rfl]
theorem b3C {a:Option (Nat×Nat)} {n c h:Nat} {L:List En} {hh:Hl} (s:rdP (R9 a) 19 n (n7 L) hh) (hl:L.length=n) (hn:h<=n) (hc:n<=c):rdP (R9 (a2K a 19 h c)) 19 (L.drop h).length (n7 (L.drop h)) hh:=by
 have:=b0s s hn hc
 rwa [b2n,<- hl,<- C1]at this
theorem a4j {a:Option (Nat×Nat)} {size h c:Nat} (hz:a=none->c=0):a2K a size h c=none->c-h=0:=by
 cases a with
 | none=>intro _;rw[hz rfl];omega
 | some y=>intro e;unfold a2K at e;simp only at e;split at e<;>cases e
theorem b2l (xs:List Int):(xs.flatMap λx=>[Value.int .i64 x])=A5 xs:=by
 induction xs with
 | nil=>rfl
 | cons x xs ih=>simp only[u0,ih];rfl
theorem b0B (n t l p:Nat) (S:Dv) (k mm:Nat) (A:Atom) (a:Option (Nat×Nat)) (m c:Nat) (es:List En) (hA:Rd A (R9 a) 19 m (n7 es)) (hl:es.length=m) (hm:m<=1000000) (hc:m<=c) (ha:a=none->c=0) (hd:∀s∈es,s.data.length=16) (hO:S.Ok (Dv.costT*m+k) mm) (hmm:mm<=1000):
  FP 62 [pp n,pp t,pp l,pp p, .slice (R9 a) m c] (DvP p n t l S++[A])
  (Ps (iI (S.torn es).2) (DvP p n t l (S.torn es).1++[A])):=by
 subst hl;refine FE [3,4,5,2,0] Tryz.func62 λX F hX=>?_;refine J.q λ_=>?_;refine J.l (α:=(Nat×Dv×List En×Option (Nat×Nat)×Nat)) (λz=>z.2.2.1.length<=z.1/\z.2.2.1.length<=z.2.2.2.2/\z.2.2.1.length<=1000000/\(z.2.2.2.1=none->z.2.2.2.2=0)/\Rd A (R9 z.2.2.2.1) 19 z.2.2.1.length (n7 z.2.2.1)/\(∀s∈z.2.2.1,s.data.length=16)/\z.2.1.Ok (Dv.costT*z.1+k) mm/\Dv.tornGo z.1 z.2.1 z.2.2.1=S.torn es) (λz=>[sv 4 (.slice (R9 z.2.2.2.1) z.2.2.1.length z.2.2.2.2),⟨0,pp n,3, .tt⟩,⟨1,pp t,4, .tt⟩,⟨2,pp l,5, .tt⟩,⟨3,pp p,2, .tt⟩]) [1,2,3,4] (λz=>DvP p n t l z.2.1) (λz=>z.1) ((es.length,S,es,a,c)) (⟨i7 _,hc,hm,ha,hA,hd,hO,rfl⟩) λz hI=>?_;obtain⟨j,Q,L,a',c'⟩:=z;dsimp only at hI ⊢;obtain⟨hj,hLc,hLm,ha',hAr,hLd,hQ,hw⟩:=hI;refine J.qd (λ_ h1=>?_) λ_ h1=>?_
 ·simp only[d5]at h1;have hL0:L.length≠0:=by omega
  obtain⟨j,rfl⟩:∃i,j=i+1:=⟨j-1,by omega⟩;rw[Dv.tornGo,d6 hL0]at hw;dsimp only at hw;have hQ1:Q.Ok (Dv.costM+(8*Dv.fuel+(Dv.costT*j+k))) mm:=hQ.less (by unfold Dv.costT Dv.cost;rw[H3];omega);have hr:=Dv.room_keep hQ1;refine J.qp (a4V n t l p Q _ mm hQ1 hmm) [1,2,3,4] λ_=>?_;generalize Q.room=W at hw hr ⊢;obtain⟨P,er⟩:=W;dsimp only at hw hr ⊢;refine J.qd (λ_ h2=>?_) λ_ h2=>?_
  ·simp only[E6,H5]at h2;rw[d8 h2]at hw;refine J.qr [1,2,3,4,5] λ_=>?_;rw[<- hw];exact⟨rfl,rfl⟩
  simp only[z7]at h2;rw[d6 (by rw[h2];decide)]at hw;have htook:=λh0=>Dv.pen_took hr.1 hLd h0 hL0;have hkeep:=Dv.pen_keep hr.1 hLd;refine J.qp (a3F p n t l P _ mm hr.1 A (R9 a') L.length c' L hAr rfl hLm hLd) [1,2,3,4,5] λ_=>?_;have hpb:0<=(P.pen L).2.1/\(P.pen L).2.1<=7:=a4M _ _ _;generalize P.pen L=W at hw htook hkeep hpb ⊢;obtain⟨P',nn,er2⟩:=W;dsimp only at hw htook hkeep hpb ⊢;refine J.qd (λ_ h3=>?_) λ_ h3=>?_
  ·simp only[E6,H5]at h3;rw[d8 h3]at hw;refine J.qr [1,2,3,4,5] λ_=>?_;rw[<- hw];exact⟨rfl,rfl⟩
  simp only[z7]at h3;rw[d6 (by rw[h3];decide)]at hw;have htk:=htook h3;obtain⟨v,rfl⟩:=f9 hpb.1;have hvL:v<=L.length:=by have:=htk.2.1;omega
  rw[j4]at hw;refine J.qn 4 λ_=>?_;refine J.v (.slice (R9 (a2K a' 19 v c')) (L.length-v) (c'-v)) rfl rfl (λhg aa w he hw=>a3e tk rfl rfl rfl he rfl rfl rfl rfl rfl hvL) ?_;rw[show L.length-v=(L.drop v).length from by rw[C1]];refine J.q λ_=>?_;refine J.n ((j,P',L.drop v,a2K a' 19 v c',c'-v)) (⟨by dsimp only;rw[C1];omega,by dsimp only;rw[C1];omega,by dsimp only;rw[C1];omega,a4j ha',λh s=>b3C (hAr h s) rfl hvL hLc,λs hs=>hLd s (V1 hs),hkeep.1,hw⟩) (by dsimp only;omega) [0,1,2,3,4,5]
 ·simp only[c8]at h1;have hL0:L.length=0:=by omega
  have hz:Dv.tornGo j Q L=(Q,0):=by
   cases j with
   | zero=>rfl
   | succ j=>rw[Dv.tornGo,d8 hL0]
  refine J.qr [1,2,3,4,5] λ_=>?_;rw[<- hw,hz];exact⟨rfl,rfl⟩
theorem a5K (x:Int):Value.int .u8 (IntKind.u8.wrap x)=bv (u8 x):=by
 have h:IntKind.u8.wrap x=x % 256:=by simp[IntKind.wrap,IntKind.bits,IntKind.signed]
 rw[h,bv,u8];congr 1;have h1:0<=x % 256/\x % 256<256:=⟨a2c _ (by decide),a0I _ (by decide)⟩;have h2:(UInt8.ofNat (x % 256).toNat).toNat=(x % 256).toNat:=by
  rw[a5B];omega
 rw[h2];omega
def e18 (k s:Int):En:=⟨k,s,1,[u8 k,u8 s,u8 (s/256),7,0,0,0,0,0,0,0,0,0,0,0,0]⟩
theorem a2F (k s:Int):FP 139 [iI k,iI s] [] (Ps (enV (e18 k s)) []):=by
 refine FE [0,0] Tryz.func139 λX F hX=>?_;refine J.qn 9 λ_=>?_;refine J.v (bv (u8 k)) rfl rfl (λhg a w he hs=>by rw[<- a5K k];exact Y9 tk rfl rfl he rfl rfl rfl) ?_;refine J.qn 1 λ_=>?_;refine J.v (bv (u8 s)) rfl rfl (λhg a w he hs=>by rw[<- a5K s];exact Y9 tk rfl rfl he rfl rfl rfl) ?_;refine J.qn 2 λ_=>?_;rw[show s.fdiv (2^min (Int.toNat 8) IntKind.i64.bits)=s/256 from Int.fdiv_eq_ediv_of_nonneg s (by decide:(0:Int)<=256)];refine J.v (bv (u8 (s/256))) rfl rfl (λhg a w he hs=>by rw[<- a5K (s/256)];exact Y9 tk rfl rfl he rfl rfl rfl) ?_;exact J.qx []
def Dv.new (d b p:Nat) (lg:Int):Dv:=⟨Nand.new d b p,Tl.new d b p,Tb.new lg,-1,0,0,1⟩
theorem c1i (d b p:Nat) (h:O8 d b p=true) (k:Nat) (hk:k<=1000000000000000):(Nand.new d b p).Gd k 0:=by
 have h0:=Nand.Gd.new d b p h 0 (by omega);refine⟨h0.ok,?_,?_,h0.nodup,h0.few⟩
 ·show(0:Int)+(k:Int)<_;omega
 ·show(0:Int)+(k:Int)<_;omega
theorem Dv.Ok.new (d b p:Nat) (lg:Int) (h:O8 d b p=true) (k:Nat) (hk:k<=1000000000000000):(Dv.new d b p lg).Ok k 0:=
 ⟨c1i d b p h k hk,⟨rfl,rfl,rfl,by show(List.replicate b Sb.zero).length=b;simp⟩,Tb.Ok.new lg,λx hx=>by simp[Dv.new,Tb.new]at hx,by show(0:Int)<=0/\(0:Int)<=8;omega,by show(1:Int)<=1/\(1:Int)<=1099511627776;omega⟩
theorem b4T (d b p:Nat) (h:O8 d b p=true) (lg:Int):FP 138 [.agg #[iI d,iI b,iI p],iI lg] []
  (λv As=>∃n t l q,v= .tuple #[pp n,pp t,pp l,pp q]/\As=DvP q n t l (Dv.new d b p lg)):=by
 refine FE [0,0] Tryz.func138 λX F hX=>?_;refine J.qc (a7R d b p h) [] λ_=>?_;rintro v As ⟨n,rfl,rfl⟩;refine⟨_,rfl,trivial,?_⟩;refine J.qc (b2y d b p h) [] λ_=>?_;rintro v As ⟨t,rfl,rfl⟩;refine⟨_,rfl,trivial,?_⟩;refine J.qc (b2A lg) [] λ_=>?_;rintro v As ⟨l,rfl,rfl⟩;refine⟨_,rfl,trivial,?_⟩;refine J.qc (b6G n t l 1 (by decide) (Nand.new d b p) (Tl.new d b p) (Tb.new lg)) [] λ_=>?_;rintro v As ⟨q,rfl,rfl⟩;refine⟨_,rfl,trivial,?_⟩;refine J.qr [5,2,3,4] λ_=>?_;exact⟨n,t,l,q,rfl,rfl⟩
namespace Inv
variable {fd : Int} {S : Dv} {k m : Nat}
theorem free_iff (h:Inv fd S) (hO:S.Ok k m) {b:Int} (hb:S.t.has b=true):T4 S.t S.T b=S.t.blank b/\(S.t.blank b=true->(b !=S.op)=true):=by
 have hu:=h.usable hO hb;unfold T4;rw[hu,q9];have hop:S.t.blank b=true->(b !=S.op)=true:=λhbl=>by
  simp only[Tl.blank,f7,i4]at hbl;rw[E6];intro e;rcases h.op with e2 | e2
  ·have:=(Tl.has_iff.1 hb).1;omega
  ·have:=e2.used;rw[<- e,hbl.2]at this;cases this
 refine⟨?_,hop⟩;cases hbl:S.t.blank b with
 | false=>rfl
 | true=>
  rw[q9,A4];simp only[Tl.blank,f7,i4]at hbl;rw[hO.T.cnt];unfold Tb.cntB;have:(S.T.at_.countP λx=>x.2.block==b)=0:=by
   rw[a4K];intro x hx hxb;simp only[A4]at hxb;have hlk:Tb.look S.T.at_ x.1=some x.2:=a5e hO.T hx;have:=(h.st _ _ hlk).used;rw[hxb,hbl.2]at this;cases this
  rw[this];rfl
end Inv
theorem a4d {D:Nat} {m:Int} (h:Msk D (-1) m) (hD:3<=D/\D<=6):m=L.all D/\G.slots m=(D:Int)-1:=by
 rcases h.eq hD with⟨e,_⟩ | ⟨e,_⟩
 ·refine⟨e,?_⟩;rw[e];exact(a5O D (by omega) hD.1).1
 ·omega
def arm (N:Nand) (c:Nat) (kp:Int):Nand:={N with cuts:=true,left:=c,keep:=kp}
theorem a4w {N:Nand} (h:N.off=false) (c:Nat) (kp:Int):N.setCut c kp=arm N c (min (max kp 0) 32):=by
 unfold Nand.setCut arm;rw[h,d6 l9,i6 (show(0:Int)<=(c:Int)by omega),n8 (show¬(c:Int)<0 by omega),<- h]
theorem b1w {N:Nand} {d b r:Int} (h:N.Lit) (hr:N.refuses d b r=0) (hc:r=(N.blk d.toNat b.toNat).cells.length) (hf:N.fails d b r=false) (pg:List UInt8) (c:Nat) (kp:Int):
  (arm N (c+1) kp).progE d b r=0/\(arm N (c+1) kp).progN d b r pg=arm (N.progN d b r pg) c kp/\(arm N 0 kp).progE d b r=9/\
  ∃M,(arm N 0 kp).progN d b r pg=M/\M.off=true/\N.Like M/\M.dead=N.dead/\M.plan=N.plan/\M.broken=N.broken/\∀i j,M.blk i j=if i=d.toNat/\j=b.toNat then {N.blk d.toNat b.toNat with cells:=(N.blk d.toNat b.toNat).cells++[⟨Nand.fillP kp.toNat pg,false,true⟩]}else N.blk i j:=by
 have hra:∀c,(arm N c kp).refuses d b r=0:=λc=>hr;have hfa:∀c,(arm N c kp).fails d b r=false:=λc=>hf;have hcb:(arm N (c+1) kp).cutB=false:=by
  unfold Nand.cutB arm;show(true&&decide (((c+1:Nat):Int)<=0))=false;rw[n8 (by omega)];rfl
 have hcb0:(arm N 0 kp).cutB=true:=rfl;have hcN:N.cutB=false:=h.cutB;have hcts:=h.cuts;refine⟨?_,?_,?_,_,rfl,?_⟩
 ·unfold Nand.progE;rw[hra,d6 (by decide),d6 (show¬r≠((arm N (c+1) kp).blk d.toNat b.toNat).cells.length fromλe=>e hc),hcb,d6 (by decide),hfa,d6 (by decide)]
 ·unfold Nand.progN;rw[hra,d6 (by decide),d6 (show¬r≠((arm N (c+1) kp).blk d.toNat b.toNat).cells.length fromλe=>e hc),hcb,d6 (by decide),hfa];rw[hr,d6 (by decide),d6 (show¬r≠(N.blk d.toNat b.toNat).cells.length fromλe=>e hc),hcN,d6 (by decide),hf];unfold Nand.cutN;rw[hcb,hcN,hcts];unfold Nand.push Nand.setBlk arm;simp only[X7,H2,W0];congr 1;omega
 ·unfold Nand.progE;rw[hra,d6 (by decide),d6 (show¬r≠((arm N 0 kp).blk d.toNat b.toNat).cells.length fromλe=>e hc),hcb0,d8 rfl]
 ·unfold Nand.progN;rw[hra,d6 (by decide),d6 (show¬r≠((arm N 0 kp).blk d.toNat b.toNat).cells.length fromλe=>e hc),hcb0,d8 rfl];exact⟨rfl,⟨rfl,rfl,rfl⟩,rfl,rfl,rfl,λi j=>rfl⟩
structure TornR (N N':Nand) (b r:Int) (q:List (Int×Sh)) (c:Nat) (kp:Int):Prop where
 off:N'.off=true
 like:N.Like N'
 dead:N'.dead=N.dead
 plan:∀a∈N'.plan,a∈N.plan
 broken:N'.broken=N.broken
 cells:∀k x,q[k]? =some x->(N'.blk x.1.toNat b.toNat).cells=(N.blk x.1.toNat b.toNat).cells++if k<c then[⟨O9 x.2,false,false⟩]else if k=c then[⟨Nand.fillP kp.toNat (O9 x.2),false,true⟩]else[]
 rest:∀i j,(j≠b.toNat\/∀x∈q,x.1.toNat≠i)->N'.blk i j=N.blk i j
theorem b7P (b r:Int) (kp:Int):∀(q:List (Int×Sh)) (N:Nand) (f:Int) (c:Nat),RdyR N b r q->(∀x∈q,N.failB b r x.1=false)->
  (q.length<=c->R.go b r q (arm N c kp) f=(arm (R.go b r q N f).1 (c-q.length) kp,(R.go b r q N f).2))/\(c<q.length->∃N',R.go b r q (arm N c kp) f=(N',f,9)/\TornR N N' b r q c kp)
 | [],N,f,c,h,_=>⟨λ_=>rfl,λhc=>absurd hc (by simp)⟩
 | (d,s)::q,N,f,c,h,hf=>by
  have hx:=h.inn (d,s) (by simp);dsimp only at hx;have hfd:=hf (d,s) (by simp);dsimp only at hfd;unfold Nand.failB at hfd;rw[E5]at hfd;have hc:=h.cells (d,s) (by simp) hfd.1;dsimp only at hc;have hr:=h.lit.refuses hx h.blk h.row;rw[hfd.1,d6 (by decide)]at hr;have hnd:=List.nodup_cons.1 h.nodup;have hne:∀x∈q,x.1≠d:=λx hxq e=>hnd.1 (List.mem_map.2 ⟨x,hxq,e⟩);have hne2:∀x∈q,x.1.toNat≠d.toNat:=λx hxq e=>by
   have:=h.inn x (by simp[hxq]);exact hne x hxq (by omega)
  have e1:=a5a hr hc.symm h.lit.cutB;rw[hfd.2,d6 (by decide)]at e1;have e2:=a4Z (pg:=O9 s) hr hc.symm h.lit.cutB;cases c with
  | zero=>
   obtain⟨_,_,a3,M,a4,a5,a6,a7,a8,a9,a10⟩:=b1w h.lit hr hc.symm hfd.2 (O9 s) 0 kp;refine⟨λhle=>absurd hle (by simp),λ_=>⟨M,?_,a5,a6,a7,λa ha=>by rw[<- a8];exact ha,a9,λk x hk=>?_,λi j hij=>?_⟩⟩
   ·rw[R.go,a3,d6 (by decide),d8 rfl,a4]
   ·cases k with
    | zero=>
     simp only[M2,l6]at hk;subst hk;rw[a10,d8 ⟨rfl,rfl⟩,d6 (by omega),d8 rfl]
    | succ k=>
     have hk:q[k]? =some x:=by simpa using hk
     have:=hne2 x (j8 hk);rw[a10,d6 (by omega),d6 (by omega),d6 (by omega),m6]
   ·rw[a10,d6];rintro⟨rfl,rfl⟩;rcases hij with h' | h'
    ·exact h' rfl
    ·exact h' (d,s) (by simp) rfl
  | succ c=>
   obtain⟨a1,a2,_,_⟩:=b1w h.lit hr hc.symm hfd.2 (O9 s) c kp;obtain⟨N1,hN1⟩:∃N1,N.progN d b r (O9 s)=N1:=⟨_,rfl⟩;rw[hN1]at e2 a2;have hb:∀i j,N1.blk i j=if i=d.toNat/\j=b.toNat then {N.blk d.toNat b.toNat with cells:=(N.blk d.toNat b.toNat).cells++[⟨O9 s,N.fails d b r,false⟩]}else N.blk i j:=λi j=>by rw[e2];rfl
   have hlike:N.Like N1:=by rw[e2];exact⟨rfl,rfl,rfl⟩
   have hlit:N1.Lit:=by rw[<- hN1];exact h.lit.prog _ _ _ _
   have hbr:N1.broken=N.broken:=by rw[e2];rfl
   have hdead:N1.dead=N.dead:=by rw[e2];rfl
   have hplan:N1.plan=N.plan.erase (d,b,r):=by rw[e2];rfl
   have hq:∀x∈q,N1.blk x.1.toNat b.toNat=N.blk x.1.toNat b.toNat:=λx hxq=>by rw[hb,d6 (by have:=hne2 x hxq;omega)]
   have hfl:∀x∈q,N1.fails x.1 b r=N.fails x.1 b r:=λx hxq=>by
    unfold Nand.fails;rw[hq x hxq,hplan];congr 1;rw[a1y];exact List.mem_erase_of_ne (λe=>hne x hxq (by injection e))
   have hfb:∀x∈q,N1.failB b r x.1=false:=λx hxq=>by
    have:=hf x (by simp[hxq]);unfold Nand.failB at this ⊢;rw[hdead,hfl x hxq];exact this
   obtain⟨g1,g2⟩:=b7P b r kp q N1 f c ⟨hlit,hnd.2,λx hxq=>by rw[hlike.dies];exact h.inn x (by simp[hxq]),by rw[hlike.blocks];exact h.blk,by rw[hlike.pages];exact h.row,λx hxq hd=>by rw[hq x hxq];exact h.cells x (by simp[hxq]) (by rw[<- hdead];exact hd)⟩ hfb;have s1:R.go b r ((d,s)::q) (arm N (c+1) kp) f=R.go b r q (arm N1 c kp) f:=by rw[R.go,a1,d8 rfl,a2]
   have s2:R.go b r ((d,s)::q) N f=R.go b r q N1 f:=by rw[R.go,e1,d8 rfl,hN1]
   rw[s1,s2];refine⟨λhle=>?_,λhlt=>?_⟩
   ·rw[l5]at hle ⊢;rw[g1 (by omega),show c+1-(q.length+1)=c-q.length from by omega]
   ·rw[l5]at hlt;obtain⟨N',g3,g4⟩:=g2 (by omega);refine⟨N',g3,g4.off,hlike.trans g4.like,g4.dead.trans hdead,λa ha=>?_,g4.broken.trans hbr,λk x hk=>?_,λi j hij=>?_⟩
    ·have:=g4.plan a ha;rw[hplan]at this;exact List.mem_of_mem_erase this
    ·cases k with
     | zero=>
      simp only[M2,l6]at hk;subst hk;dsimp only;rw[g4.rest _ _ (.inr λy hy=>hne2 y hy),hb,d8 ⟨rfl,rfl⟩,hfd.2,d8 (by omega)]
     | succ k=>
      have hk:q[k]? =some x:=by simpa using hk
      rw[g4.cells k x hk,hq x (j8 hk)]
      by_cases h1:k<c
      ·rw[d8 h1,d8 (show k+1<c+1 by omega)]
      ·rw[d6 h1,d6 (show¬k+1<c+1 by omega)]
       by_cases h2:k=c
       ·rw[d8 h2,d8 (show k+1=c+1 by omega)]
       ·rw[d6 h2,d6 (show¬k+1=c+1 by omega)]
    ·rw[g4.rest i j (hij.imp id λh' x hxq=>h' x (by simp[hxq])),hb,d6];rintro⟨rfl,rfl⟩;rcases hij with h' | h'
     ·exact h' rfl
     ·exact h' (d,s) (by simp) rfl
namespace Dv
def armed (S:Dv) (c:Nat) (kp:Int):Dv:={S with N:=arm S.N c kp}
theorem armed_at1 (S:Dv) (c:Nat) (kp:Int):(S.armed c kp).at1=S.at1.armed c kp:=by
 unfold at1;have e1:(S.armed c kp).left=S.left:=rfl;rw[e1];split<;>rfl
end Dv
theorem a0r (N:Nand) (d b r:Int):N.pageAt d b r=N.pageAt (d.toNat:Int) b r:=by unfold Nand.pageAt;rw[j4]
namespace TornR
variable {N N' : Nand} {b r kp : Int} {q : List (Int × Sh)} {c : Nat}
theorem page (t:TornR N N' b r q c kp) (hq:RdyR N b r q) (hno:∀x∈q,N.dead.getD x.1.toNat false=false) {d b0 r0:Int} (hb:0<=b0) (hr:0<=r0) (hne:b0=b->r0≠r):N'.pageAt d b0 r0=N.pageAt d b0 r0:=by
 unfold Nand.pageAt
 by_cases e:b0=b
 ·by_cases hx:∀x∈q,x.1.toNat≠d.toNat
  ·rw[t.rest _ _ (.inr hx)]
  ·simp only[Classical.not_forall,not_imp,a1e]at hx;obtain⟨x,hx,hxd⟩:=hx;obtain⟨k,hk⟩:=a0b hx;have hc:=t.cells k x hk;have hl:=hq.cells x hx (hno x hx);rw[hxd,<- e]at hc hl;rw[hc];have:=hne e;have:=hq.row;rw[I9];split
   ·rfl
   ·rw[j5 (by split;(· simp only[l5,a0P];omega);split;(· simp only[l5,a0P];omega);simp),j5 (by omega)]
 ·rw[t.rest _ _ (.inl (by have:=hq.blk;omega))]
end TornR
theorem Inv.went1 {fd:Int} {S:Dv} {k m:Nat} (h:Inv fd S) (hO:S.Ok k m) (hl:S.at1.left=true):Went fd S S.at1 0:=by
 unfold Dv.at1 at hl ⊢;split
 ·exact Went.refl h
 ·rename_i hh;rw[d6 hh]at hl;have hf:S.left=false:=by simpa using hh
  have:=(Dv.left_spec hl).1;exact(h.opens hO hf (by show¬S.pick<0;have:0<=S.pick:=this;omega)).1
end
end Go.Proofs.YtmafiplddapokaaGreat
