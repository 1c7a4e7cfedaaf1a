/- Helpers. No condition. -/
import Derived.Test.YtnffkcabeecopaaGreatRows
import Derived.Test.YtnffkcabeecopaaGreatV03
import Derived.Test.YtnffkcabeecopaaGreatV04
import Derived.Test.YtnffkcabeecopaaGreatV06
import Derived.Test.YtnffkcabeecopaaGreatV07
import Derived.Test.YtnffkcabeecopaaGreatV08
import Derived.Test.YtnffkcabeecopaaGreatV09
import Derived.Test.YtnffkcabeecopaaGreatV10
import Derived.Test.YtnffkcabeecopaaGreatV11
import Derived.Test.YtnffkcabeecopaaGreatV12
import Derived.ProofKit
import Derived.OpenShut
import Derived.ChangeOld
import Derived.Below
import Derived.Deep.Slices
import Derived.Deep.Strs
import Derived.Lib.SmallJoins
set_option maxRecDepth 20000
set_option linter.all false
namespace Go.Proofs.YtnffkcabeecopaaGreat
open Go Go.RowKit
theorem b7m {α:Type} {l:List α} {a b:α} (h:l.Perm [a,b]):l=[a,b]\/l=[b,a]:=by
 match l,h.length_eq,h with
 | [x,y],_,h=>
  have hx:=(h.mem_iff (a:=x)).1 (by simp);simp only[List.mem_cons,List.not_mem_nil,or_false]at hx;rcases hx with rfl | rfl
  ·left;have:=(List.perm_cons x).1 h;rw[List.perm_singleton.1 this]
  ·right;have:=(List.perm_cons x).1 (h.trans (List.Perm.swap x a []));rw[List.perm_singleton.1 this]
theorem b4s (a:ByteArray) (w:World) (o1 o2:Operand):(do eqGuard .eql 9 o1 o2 (.string a) (.string a);binOp .eql 9 (.string a) (.string a):Sem Value).run Tryz.prog w= .ok (.bool true) w:=by
 have hu:Tryz.prog.underlying 9=some .string:=by kernel_rfl
 simp[eqGuard,binOp,Op.stringOp,a3P,Op.equalIn,d7 hu]
theorem b0f {E:Env} {n:Nat} {a:Act} {w:World} {o:Oper} {x y:Operand} {k1 k2 u1 u2 t2:Nat} {g1 g2:G} {s1:ByteArray} (hop:o.op= .binOp .eql 9 x y t2) (hx:ev E x=some ⟨k1, .string s1,u1,g1⟩) (hy:ev E y=some ⟨k2, .string s1,u2,g2⟩) (he:EnvOK n E a) (v1:g1.on=true) (v2:g2.on=true):
  (execOp a.eval o).run Tryz.prog w= .ok (.value (.bool true)) w:=by
 have ex:=i9 he hx;have ey:=i9 he hy;simp only[Slot.val,v1,v2]at ex ey;have h:=b4s s1 w x y;simp only[execOp,hop,ex,ey];simp only[Sem.run_bind]at h ⊢;rw[h];rfl
def sX:Value:= .string ⟨#[120]⟩
def sY:Value:= .string ⟨#[121]⟩
def sL:List (A3×Value):=[((1,2,3),sX),((0,9,9),sY)]
theorem b4t {l:List A3} (h:l.Perm [((1:Int),(2:Int),(3:Int)),(0,9,9)]):Y0 a2m l=[(0,9,9),(1,2,3)]:=by
 rcases b7m h with rfl | rfl<;>decide
theorem b2T:FP 299 [] [] (Ps (.bool true) []):=by
 refine FE [] Tryz.func299 λX F hX=>?_;refine J.qc (b7f) [] λ_=>?_;rintro v As ⟨q,rfl,rfl⟩;refine⟨_,rfl,trivial,?_⟩;refine J.qF λ_=>?_;refine J.qp (b5C q [] 1 2 3 ⟨#[120]⟩) [1] λ_=>?_;refine J.qp (b5C q [((1,2,3),sX)] 0 9 9 ⟨#[121]⟩) [1] λ_=>?_;refine J.qp (b5D q sL 1 2 3) [1] λ_=>?_;rw[show(y5 sL (1,2,3)).getD sE=sX from rfl,show(y5 sL (1,2,3)).isSome=true from rfl];refine J.qc (b5E q sL (by decide)) [1] λ_=>?_;rintro v As ⟨a,cap,l0,l',hp,hl',rfl,rfl⟩;refine⟨_,rfl,trivial,?_⟩;obtain rfl:l'=[(0,9,9),(1,2,3)]:=hl'.trans (b4t hp);refine J.know (λh' s=>j4 (c:=(a,cap)) (by decide) (s.get (i:=2) rfl)) λhg=>?_;obtain⟨ga,rfl⟩:=hg;refine J.q λbp=>?_;refine J.cb (b3W (bp 0)) [3] ?_;rintro v As ⟨o,co,a2,c2,rfl,rfl⟩;refine⟨_,rfl,trivial,?_⟩;refine J.know (λh' s=>j4 (c:=(o,co)) (by decide) (s.get (i:=3) rfl)) λhg=>?_;obtain⟨go,rfl⟩:=hg;refine J.know (λh' s=>j4 (c:=(a2,c2)) (by decide) (s.get (i:=4) rfl)) λhg=>?_;obtain⟨g2,rfl⟩:=hg;refine J.q λ_=>?_;refine J.v (.bool true) rfl rfl (λhg a w he hw=>(b0f rfl rfl rfl he rfl rfl).trans rfl) ?_;refine J.qp (b7g q sL) [1] λ_=>?_;refine J.q λ_=>?_;refine J.v (iI 0) rfl rfl (λhg a w he hw=>l8 tk rfl rfl he hg rfl rfl (hw.get (i:=2) rfl) rfl) ?_;refine J.qc (b4p q sL (by decide) 1 2) [1] λ_=>?_;rintro v As ⟨a3,c3,l3,hp3,rfl,rfl⟩;refine⟨_,rfl,trivial,?_⟩;have h3:l3.length=1:=hp3.length_eq.trans rfl;rw[h3];refine J.q λ_=>?_;refine J.v (M4 (0,9,9)) rfl rfl (λhg a w he hw=>p6 tk rfl rfl he hg rfl rfl (hw.get (i:=2) rfl) rfl rfl) ?_;refine J.qp (b1Q q sL 0 9 9) [1] λ_=>?_;rw[show(y5 sL (0,9,9)).isSome=true from rfl,show a0v sL (0,9,9)=[((1,2,3),sX)]from rfl];refine J.q λ_=>?_;refine J.v (M4 (0,9,9)) rfl rfl (λhg a w he hw=>p6 tk rfl rfl he hg rfl rfl (hw.get (i:=2) rfl) rfl rfl) ?_;refine J.qp (b1Q q [((1,2,3),sX)] 0 9 9) [1] λ_=>?_;rw[show(y5 [(((1:Int),(2:Int),(3:Int)),sX)] (0,9,9)).isSome=false from rfl];refine J.q λ_=>?_;refine J.v (slv (some g2) 2 c2) rfl rfl (λhg a w he hw=>l8 tk rfl rfl he hg rfl rfl (hw.get (i:=3) rfl) rfl) ?_;refine J.q λ_=>?_;refine J.v (slv (some g2) 2 c2) rfl rfl (λhg a w he hw=>l8 tk rfl rfl he hg rfl rfl (hw.get (i:=3) rfl) rfl) ?_;refine J.q λ_=>?_;refine J.v (iI 2) rfl rfl (λhg a w he hw=>l8 tk rfl rfl he hg rfl rfl (hw.get (i:=4) rfl) rfl) ?_;exact J.qx []
theorem b2U:FP 291 [] [] (Ps (.bool true) []):=by
 refine FE [] Tryz.func291 λX F hX=>?_;refine J.qp (b2T) [] λ_=>?_;exact J.qx []
def b7r:List Lk:=lvD++[.int .i64, .int .i64, .int .i64, .int .i64, .int .i64, .int .i64, .int .i64]
theorem b2L:C1 Tryz.prog 100 234=some b7r:=by kernel_rfl
theorem b3u (s:Sh):Fits b7r (shL s):=Fits.append (M6 s.data) (show Fits [.int .i64, .int .i64, .int .i64, .int .i64, .int .i64, .int .i64, .int .i64] [.int .i64 s.role, .int .i64 s.lpn, .int .i64 s.seq, .int .i64 s.kind, .int .i64 s.block, .int .i64 s.row, .int .i64 s.mask]from⟨rfl,rfl,rfl,rfl,rfl,rfl,rfl,trivial⟩)
theorem b7F (zs:List Value):mkV Tryz.prog 234 zs= .agg zs.toArray:=by simp[mkV,Tryz.underlying234]
theorem b7J:Tryz.prog.eqGuardType Tryz.prog.depth 234=false:=by kernel_rfl
theorem b7K (x y:Sh) (hx:x.data.length=16) (hy:y.data.length=16):j8 (shL x) (shL y)=decide (x=y):=by
 have h1:shL x=n9 x.data++[.int .i64 x.role, .int .i64 x.lpn, .int .i64 x.seq, .int .i64 x.kind, .int .i64 x.block, .int .i64 x.row, .int .i64 x.mask]:=rfl;have h2:shL y=n9 y.data++[.int .i64 y.role, .int .i64 y.lpn, .int .i64 y.seq, .int .i64 y.kind, .int .i64 y.block, .int .i64 y.row, .int .i64 y.mask]:=rfl;rw[h1,h2,D6 (a:=n9 x.data) (c:=n9 y.data) rfl,eqD _ _ hx hy];obtain⟨d,r,l,s,k,b,ro,m⟩:=x;obtain⟨d',r',l',s',k',b',ro',m'⟩:=y;rw[Bool.eq_iff_iff];simp[j8,a0u,Sh.mk.injEq]
def b7t:List Lk:=[.int .i64, .int .i64, .int .i64]++lvD
theorem a7y:C1 Tryz.prog 100 155=some b7t:=by kernel_rfl
theorem a6n (e:En):Fits b7t (enL e):=Fits.append (show Fits [.int .i64, .int .i64, .int .i64] [.int .i64 e.lpn, .int .i64 e.seq, .int .i64 e.role]from⟨rfl,rfl,rfl,trivial⟩) (M6 e.data)
theorem b7q (zs:List Value):mkV Tryz.prog 155 zs= .agg zs.toArray:=by simp[mkV,Tryz.underlying155]
theorem b7w:Tryz.prog.eqGuardType Tryz.prog.depth 155=false:=by kernel_rfl
theorem b7y (x y:En) (hx:x.data.length=16) (hy:y.data.length=16):j8 (enL x) (enL y)=true↔x=y:=by
 have h1:enL x=[.int .i64 x.lpn, .int .i64 x.seq, .int .i64 x.role]++n9 x.data:=rfl;have h2:enL y=[.int .i64 y.lpn, .int .i64 y.seq, .int .i64 y.role]++n9 y.data:=rfl;rw[h1,h2,D6 (a:=[.int .i64 x.lpn, .int .i64 x.seq, .int .i64 x.role]) (c:=[.int .i64 y.lpn, .int .i64 y.seq, .int .i64 y.role]) rfl,eqD _ _ hx hy];obtain⟨l,s,r,d⟩:=x;obtain⟨l',s',r',d'⟩:=y;simp[j8,a0u,En.mk.injEq,and_assoc]
section
variable {X : Cx} {P : Program} {T : Tab} {K : List KI} {E : Env} {L : List Atom} {N : Nat} {F : HP} {Post : Value → List Atom → Prop} {rs : List ResultVar}
theorem J.effG (hX:IsCx X P rs N F Post) (hT:TabOK P T) {ops:Array Oper} {C:Cl} {lt:Bool} {i:Nat} {t:PT} {o:Oper} {g:G} {v:Nat->Value} {tag:Nat} {L':Nat->List Atom} {ob:List Prop} {E':Value->Env}
  (ho:n5 ops.toList i=some o) (hg:gd ops.toList E o=some g) (hgo:g.on=true) (hef:∀x:Nat,eff T (λ_=>x) E L 0 o.op=some ⟨v x,tag,L' x,ob,1⟩) (hob:Conj ob)
  (hd:∀v,C4 N o.dst v tag .tt E=some (E' v)) (hJ:∀x,Conj (p9 lt C (L' x))/\J X (.reg ops C t::K) (E' (v x)) (L' x)):J X (.reg ops C (.alt lt i t .non)::K) E L:=by
 refine J.op hX (S:=λv' L2=>∃x,v'=v x/\L2=L' x) tag ho hg hgo (λa0 w hen hs=>?_) hd (λv' L2 ⟨x,e1,e2⟩=>by subst e1;subst e2;exact hJ x);obtain⟨nv,w',r1,r2,r3,r4⟩:=a9K (P:=P) hT hen (hef w.heap.size) hob hs (.inr rfl);exact⟨v w.heap.size,L' w.heap.size,nv,w',⟨w.heap.size,rfl,rfl⟩,r1,r2,r3,r4⟩
end
end Go.Proofs.YtnffkcabeecopaaGreat
namespace Go.Proofs.YtnffkcabeecopaaGreat
open Go Go.RowKit
def pgB (a b:UInt8):List UInt8:=[a,b,0,0,0,0,0,0,0,0,0,0,0,0,0,0,0,0,0,0,0,0,0,0,0,0,0,0,0,0,0,0]
namespace B7
def N0:Nand:=Nand.new 3 8 2
def N1:Nand:=N0.progN 1 0 0 (pgB 7 0)
def N2:Nand:=N1.progN 1 0 0 (pgB 8 0)
def N3:Nand:=(N2.fault 3 1 0 0 0 0).2
def N4:Nand:=N3.eraseN 1 0
def N5:Nand:=N4.setCut 0 1
def N6:Nand:=N5.progN 1 0 0 (pgB 5 6)
def N7:Nand:=N6.onN
def N8:Nand:=(N7.fault 4 2 0 0 0 0).2
theorem G0:N0.Gd 100 0:=Nand.Gd.new 3 8 2 rfl 100 (by decide)
theorem G1:N1.Gd 99 0:=G0.prog 1 0 0 _ rfl
theorem G2:N2.Gd 98 0:=G1.prog 1 0 0 _ rfl
theorem G3:N3.Gd 98 0:=G2.fault0 3 1 0 0 0 0 (by decide)
theorem G4:N4.Gd 97 0:=G3.erase 1 0
theorem G5:N5.Gd 97 0:=G4.cut 0 1 (by decide) (by decide)
theorem G6:N6.Gd 96 0:=G5.prog 1 0 0 _ rfl
theorem G7:N7.Gd 96 0:=G6.on
theorem G8:N8.Gd 96 0:=G7.fault0 4 2 0 0 0 0 (by decide)
end B7
open B7
theorem b4R:FP 43 [.agg #[iI 0,iI 0,iI 0]] [] (Ps (.pointer none) []):=by
 refine FE [0] Tryz.func43 λX F hX=>?_;refine J.q λg1=>?_;refine J.cb (a0Z 0 0 0) [] ?_;refine cpq ⟨_,rfl,trivial,?_⟩;rw[show n8 0 0 0=false from rfl];refine J.qT λ_=>?_;exact J.qx []
theorem b2R:FP 281 [] [] (Ps (.bool true) []):=by
 refine FE [] Tryz.func281 λX F hX=>?_;refine J.qc (a3l 3 8 2 rfl) [] λ_=>?_;rintro v As ⟨q,rfl,rfl⟩;refine⟨_,rfl,trivial,?_⟩;refine J.qp (b4R) [] λ_=>?_;refine J.qF λ_=>?_;refine J.p (.of [0,5,8,16,21,24,14,31,32,36]) [7,8,9] [3] λ_=>?_;refine J.qp (Z9 q N0 G0.ok G0.room 1 0 0 (pgB 7 0) rfl) [2] λ_=>?_;rw[show N0.progE 1 0 0=0 from by kernel_rfl];refine J.qp (Z9 q N1 G1.ok G1.room 1 0 0 (pgB 8 0) rfl) [2] λ_=>?_;rw[show N1.progE 1 0 0=4 from by kernel_rfl];refine J.qp (a3k q N2 G2.ok 1 0 0) [2] λ_=>?_;rw[show N2.readE 1 0 0=0 from by kernel_rfl,show N2.readV 1 0 0=pgB 7 0 from by kernel_rfl];refine J.qp (a3k q N2 G2.ok 2 0 0) [2] λ_=>?_;rw[show N2.readE 2 0 0=5 from by kernel_rfl];refine J.qp (Q4 q N2 G2.ok 0 3 1 0 0 0 0) [2] λ_=>?_;rw[show(N2.fault 3 1 0 0 0 0).1=true from by kernel_rfl];refine J.qp (a3k q N3 G3.ok 1 0 0) [2] λ_=>?_;rw[show N3.readE 1 0 0=6 from by kernel_rfl];refine J.qp (a9r q N3 G3.ok G3.room G3.nodup (Nat.le_trans G3.few (by decide)) 1 0) [2] λ_=>?_;rw[show N3.eraseE 1 0=0 from by kernel_rfl];refine J.qp (a9s q N4 0 1) [2] λ_=>?_;refine J.qp (Z9 q N5 G5.ok G5.room 1 0 0 (pgB 5 6) rfl) [2] λ_=>?_;rw[show N5.progE 1 0 0=9 from by kernel_rfl];refine J.qp (b4Q q N6) [2] λ_=>?_;refine J.qp (a3k q N7 G7.ok 1 0 0) [2] λ_=>?_;rw[show N7.readE 1 0 0=0 from by kernel_rfl,show N7.readV 1 0 0=Nand.fillP 1 (pgB 5 6)from by kernel_rfl];refine J.q λbf=>?_;refine J.cb (b7k (bf (0+1))) [8] ?_;rintro v As ⟨p,a,c,rfl,rfl⟩;refine⟨_,rfl,trivial,?_⟩;refine J.know (λh' s=>j4 (c:=(a,c)) (by decide) (s.get (i:=9) rfl)) λhg=>?_;obtain⟨g,rfl⟩:=hg;refine J.qp (b2U) [] λ_=>?_;refine J.qp (a7C) [] λ_=>?_;refine J.qp (a3n q N7) [2] λ_=>?_;rw[show N7.broken=1 from by kernel_rfl];refine J.q λ_=>?_;refine J.v (.bool true) rfl rfl (λhg a w he hw=>(C7 (xs:=y7 (pgB 7 0)) (ys:=y7 (pgB 7 0)) rfl rfl rfl he hg rfl a3z (a1A _) (a1A _) b4S b7v).trans (by rw[b6G _ _ rfl rfl];simp)) ?_;refine J.qp (a7m q N7) [2] λ_=>?_;rw[show N7.ops=3 from by kernel_rfl];refine J.qp (a8w q N7 G7.ok 1 0) [2] λ_=>?_;rw[show N7.wornAt 1 0=1 from by kernel_rfl];refine J.qp (b2C q N7 G7.ok 1 0) [2] λ_=>?_;rw[show N7.next 1 0=1 from by kernel_rfl];refine J.qp (b6d p (some ⟨g,0,none⟩) 1 c) [8] λ_=>?_;refine J.qp (b7j p g c q N7 G7.ok (by kernel_rfl)) [8,9,2] λ_=>?_;refine J.qp (a3m q N8 G8.ok 2) [2] λ_=>?_;rw[show N8.deadAt 2=true from by kernel_rfl];refine J.q λ_=>?_;refine J.effG hX tk rfl rfl rfl (λ_=>rfl) (by(repeat' (first | exact Conj.nil | refine Conj.cons ?_ ?_ | omega | exact hq0 | (simpa using hq0) | (exactλh=>h) | exact rfl | (intro hq;have hq0:=hq;try simp only[Bool.and_eq_true,Bool.or_eq_true,decide_eq_true_eq,Bool.not_eq_true',decide_eq_false_iff_not]at hq) | (simp;done) | (simp;omega) | decide))) (λ_=>rfl) λbg=>⟨trivial,?_⟩;refine J.qp (b6e bg) [10] λ_=>?_;exact J.qx []
theorem a7B:FP 277 [] [] (Ps (.bool true) []):=by
 refine FE [] Tryz.func277 λX F hX=>?_;refine J.qp (b2R) [] λ_=>?_;exact J.qx []
end Go.Proofs.YtnffkcabeecopaaGreat
namespace Go.Proofs.YtnffkcabeecopaaGreat
open Go Go.RowKit
theorem b1p (x:Int):FP 302 [.int .u8 x] [] (Ps (.bool (x !=255)) []):=by
 refine FE [0] Tryz.func302 λX F hX=>?_;exact J.qx []
theorem b3T (b:Nat) (p:List UInt8) (h:(((p.getD 0 0).toNat:Int) !=255)=true):FP 314 [.slice (some ⟨b,0,none⟩) 32 32, .func (.func 302) #[] #[]] [.pt b 106 (y7 p)] (Ps (iI 0) []):=by
 refine FE [2,0] Tryz.func314 λX F hX=>?_;refine J.q λ_=>?_;refine J.l (α:=Nat) (λk=>k=0) (λk=>[si 8 0,si 7 32,⟨0, .slice (some ⟨b,0,none⟩) 32 32,2, .tt⟩,⟨1, .func (.func 302) #[] #[],0, .tt⟩]) [] (λk=>[]) (λk=>0) (0) (rfl) λk hI=>?_;refine J.qT λ_=>?_;refine J.q λ_=>?_;refine J.v (byC p 0) rfl rfl (λhg a w he hw=>j5 tk rfl rfl he rfl rfl rfl (hw.get (i:=1) rfl) rfl) ?_;refine J.qp (b1p ((p.getD 0 0).toNat:Int)) [] λ_=>?_;rw[h];refine J.qT λ_=>?_;exact J.qx []
theorem a8b (b:Nat) (p:List UInt8) (h:(((p.getD 0 0).toNat:Int) !=255)=true):FP 301 [.slice (some ⟨b,0,none⟩) 32 32, .func (.func 302) #[] #[]] [.pt b 106 (y7 p)] (Ps (.bool true) []):=by
 refine FE [2,0] Tryz.func301 λX F hX=>?_;refine J.qp (b3T b p h) [1] λ_=>?_;exact J.qx []
theorem b3U (p:List UInt8) (h:(((p.getD 0 0).toNat:Int) !=255)=true):FP 295 [pgV p] [] (Ps (.bool false) []):=by
 refine FE [0] Tryz.func295 λX F hX=>?_;refine J.q λbb=>?_;refine J.cb (a8b (bb 0) p h) [1] ?_;refine cpq ⟨_,rfl,trivial,?_⟩;exact J.qx []
namespace B9
def e:En:=⟨3,9,1,[1,2,0,0,0,0,0,0,0,0,0,0,0,0,0,0]⟩
def pad:En:=⟨0,0,3,zeros16⟩
def a:Sh:=W.sh 2 1 7 e
def b:Sh:=W.sh 2 1 7 pad
def p:Sh:=W.par 2 1 7 [e,pad]
def pg:List UInt8:=B8 a
theorem h_a:W.own 2 1 7 e=a:=by kernel_rfl
theorem h_a2:W.ok 2 1 7 e=true:=by kernel_rfl
theorem h_b:W.own 2 1 7 pad=b:=by kernel_rfl
theorem h_b2:W.ok 2 1 7 pad=true:=by kernel_rfl
theorem h_p2:W.parB 2 1 7 [e,pad]=true:=by kernel_rfl
theorem h_pl:p.data.length=16:=by kernel_rfl
theorem h_m:S.may a=true:=by kernel_rfl
theorem h_g:S.getV pg=a:=by kernel_rfl
theorem h_g2:S.getE pg=0:=by kernel_rfl
theorem h_z2:S.getE U4=1:=by kernel_rfl
theorem h_k:W.back p [b]=e:=by kernel_rfl
theorem h_k2:W.backB p [b]=true:=by kernel_rfl
theorem h_meta:S.meta_ 2 5 77=144120685633994829:=by kernel_rfl
theorem h_mp:S.may p=true:=by kernel_rfl
theorem h_mz:S.may Sh.zero=false:=by kernel_rfl
theorem h_bl:(((pg.getD 0 0).toNat:Int) !=255)=true:=by kernel_rfl
theorem h_pgl:pg.length=32:=X5 a rfl
end B9
open B9
theorem b2Q:FP 282 [] [] (Ps (.bool true) []):=by
 refine FE [] Tryz.func282 λX F hX=>?_;refine J.qp (a6M 2 1 7 e rfl) [] λ_=>?_;rw[h_a,h_a2];refine J.qp (a6M 2 1 7 pad rfl) [] λ_=>?_;rw[h_b,h_b2];refine J.q λb1=>?_;refine J.ca hX (by kernel_rfl) (a6L 2 1 7 (.pt (b1 (0+1)) 155 (d6 [e,pad])) (some ⟨b1 (0+1),0,none⟩) 2 2 [e,pad] (W3 _ _ _ _ _ rfl) rfl (by decide)) [5] 0 rfl rfl rfl rfl rfl rfl (λ_=>rfl) ?_;refine cpq ⟨_,rfl,trivial,?_⟩;rw[show W.par 2 1 7 [e,pad]=p from rfl,h_p2];refine J.qp (b3n a rfl) [] λ_=>?_;rw[show B8 a=pg from rfl,h_m];refine J.qp (b3p pg h_pgl) [] λ_=>?_;rw[h_g,h_g2];refine J.qp (b3p U4 rfl) [] λ_=>?_;rw[h_z2];refine J.q λb2=>?_;refine J.cO 234 23 1 1 (m9 [b]) 10 ?_;refine J.qp (b1z p h_pl (some (b2 (0+1))) 1 1 [b] rfl (by decide) (by decide)) [10] λ_=>?_;rw[h_k,h_k2];refine J.qp (b3o 2 5 77) [] λ_=>?_;rw[h_meta];refine J.qp (b6B 144120685633994829 (by decide)) [] λ_=>?_;refine J.qp (a7C) [] λ_=>?_;refine J.q λ_=>?_;refine J.v (.bool true) rfl rfl (λhg x w he hw=>(C7 (xs:=shL a) (ys:=shL a) rfl rfl rfl he hg rfl b2L (b3u _) (b3u _) b7F b7J).trans (by rw[b7K _ _ rfl rfl];simp)) ?_;refine J.q λ_=>?_;refine J.v (.bool true) rfl rfl (λhg x w he hw=>(C7 (xs:=enL e) (ys:=enL e) rfl rfl rfl he hg rfl a7y (a6n _) (a6n _) b7q b7w).trans (by rw[(b7y _ _ rfl rfl).2 rfl])) ?_;refine J.qp (a5h p h_pl) [] λ_=>?_;rw[h_mp];refine J.qp (a5h Sh.zero rfl) [] λ_=>?_;rw[h_mz];refine J.qp (b3U pg h_bl) [] λ_=>?_;refine J.qr [] λ_=>?_;exact⟨by kernel_rfl,rfl⟩
theorem a7A:FP 278 [] [] (Ps (.bool true) []):=by
 refine FE [] Tryz.func278 λX F hX=>?_;refine J.qp (b2Q) [] λ_=>?_;exact J.qx []
end Go.Proofs.YtnffkcabeecopaaGreat
namespace Go.Proofs.YtnffkcabeecopaaGreat
open Go Go.RowKit
namespace B11
def N0:Nand:=Nand.new 3 8 2
def N1:Nand:=(R.write N0 1 0 7 [B9.e,B9.pad]).1
def N2:Nand:=(N1.fault 4 0 0 0 0 0).2
def fn:Fnd:=⟨B9.e,1,0,0,7,true,true⟩
theorem G0:N0.Gd 100 0:=Nand.Gd.new 3 8 2 rfl 100 (by decide)
theorem G1:N1.Gd 92 0:=a0x (by decide) G0
theorem G2:N2.Gd 92 0:=G1.fault0 4 0 0 0 0 0 (by decide)
theorem h_w:(R.write N0 1 0 7 [B9.e,B9.pad]).2=(0,0):=by kernel_rfl
theorem h_l1:(M.look N1 0 1 0).2=1:=by kernel_rfl
theorem h_l2:(M.look N1 0 1 0).1.lpn=3:=by kernel_rfl
theorem h_l3:(M.look N1 0 2 0).2=2:=by kernel_rfl
theorem h_r:R.read N2 1 0 0 7=(B9.e,0):=by kernel_rfl
theorem h_a:R.all N2 1 0=[fn]:=by kernel_rfl
theorem h_m:M.masks N2 1 0=[7]:=by kernel_rfl
end B11
open B11
theorem b0L:FP 266 [] [] (Ps (.bool true) []):=by
 refine FE [] Tryz.func266 λX F hX=>?_;refine J.q λb1=>?_;refine J.cb (a3l 3 8 2 rfl) [] ?_;rintro v As ⟨q,rfl,rfl⟩;refine⟨_,rfl,trivial,?_⟩;refine J.qF λ_=>?_;refine J.q λb1=>?_;refine J.ca hX (by kernel_rfl) (a2w q N0 (.pt (b1 (0+1)) 155 (d6 [B9.e,B9.pad])) 1 0 7 (some ⟨b1 (0+1),0,none⟩) 2 2 0 [B9.e,B9.pad] (W3 _ _ _ _ _ rfl) rfl (by decide) (G0.less (by decide) (Nat.le_refl _))) [1,3] 0 rfl rfl rfl rfl rfl rfl (λ_=>rfl) ?_;refine cpq ⟨_,rfl,trivial,?_⟩;rw[h_w];refine J.qp (a1t q N1 G1.ok G1.room 0 1 0) [1] λ_=>?_;rw[h_l1];refine J.qp (a1t q N1 G1.ok G1.room 0 2 0) [1] λ_=>?_;rw[h_l3];refine J.qp (Q4 q N1 G1.ok 0 4 0 0 0 0 0) [1] λ_=>?_;refine J.qp (a5U q N2 G2.ok G2.room 1 0 0 7 (by decide) (by decide)) [1] λ_=>?_;rw[h_r];refine J.qc (b5G q N2 G2.ok G2.room 1 0) [1] λ_=>?_;rintro v As ⟨a,c,rfl,rfl⟩;refine⟨_,rfl,trivial,?_⟩;rw[h_a];refine J.know (λh' s=>j4 (c:=(a,c)) (by decide) (s.get (i:=7) rfl)) λhg=>?_;obtain⟨ga,rfl⟩:=hg;refine J.qp (a7B) [] λ_=>?_;refine J.qp (a7A) [] λ_=>?_;refine J.q λ_=>?_;rw[h_l2];refine J.v (.bool true) rfl rfl (λhg x w he hw=>(C7 (xs:=enL B9.e) (ys:=enL B9.e) rfl rfl rfl he hg rfl a7y (a6n _) (a6n _) b7q b7w).trans (by rw[(b7y _ _ rfl rfl).2 rfl])) ?_;refine J.q λ_=>?_;refine J.v (.bool true) rfl rfl (λhg x w he hw=>l8 tk rfl rfl he hg rfl rfl (hw.get (i:=7) rfl) rfl) ?_;refine J.q λ_=>?_;refine J.v (.bool true) rfl rfl (λhg x w he hw=>l8 tk rfl rfl he hg rfl rfl (hw.get (i:=7) rfl) rfl) ?_;refine J.q λ_=>?_;refine J.v (iI 7) rfl rfl (λhg x w he hw=>l8 tk rfl rfl he hg rfl rfl (hw.get (i:=7) rfl) rfl) ?_;refine J.qc (a9x q N2 G2.ok G2.room 1 0) [1] λ_=>?_;rintro v As ⟨a2,c2,rfl,rfl⟩;refine⟨_,rfl,trivial,?_⟩;rw[h_m];exact J.qx []
end Go.Proofs.YtnffkcabeecopaaGreat
namespace Go.Proofs.YtnffkcabeecopaaGreat
open Go Go.RowKit
theorem a4B (a:Int) (n:Int) (hn:0<n): -n<a.tmod n/\a.tmod n<n:=by
 refine⟨?_,Int.tmod_lt_of_pos a hn⟩;obtain⟨k,rfl | rfl⟩:=Int.eq_nat_or_neg a
 ·have:=Int.tmod_nonneg (a:=(k:Int)) n (by omega);omega
 ·rw[Int.neg_tmod];have:=Int.tmod_lt_of_pos (k:Int) hn;omega
theorem b5Z (a:Int) (n:Int) (hn:0<n):0<=(a.tmod n+n).tmod n/\(a.tmod n+n).tmod n<n:=by
 have:=a4B a n hn;exact⟨Int.tmod_nonneg _ (by omega),Int.tmod_lt_of_pos _ hn⟩
theorem b6w (a b c:Int):FP 17 [iI a,iI b,iI c] [] (λv As=>∃D B P:Nat,v= .agg #[iI D,iI B,iI P]/\(3<=D/\D<=6)/\(8<=B/\B<=16)/\(2<=P/\P<=8)/\As=[]):=by
 have a1:=a4B a 4 (by decide);have a2:=b5Z a 4 (by decide);have b1:=a4B b 9 (by decide);have b2:=b5Z b 9 (by decide);have c1:=a4B c 7 (by decide);have c2:=b5Z c 7 (by decide);refine FE [0,0,0] Tryz.func17 λX F hX=>?_;refine J.q λb1=>?_;refine J.ru hX [] ?_;obtain⟨D,hD⟩:=Int.eq_ofNat_of_zero_le a2.1;obtain⟨B,hB⟩:=Int.eq_ofNat_of_zero_le b2.1;obtain⟨P,hP⟩:=Int.eq_ofNat_of_zero_le c2.1;refine⟨3+D,8+B,2+P,?_,by omega,by omega,by omega,rfl⟩;rw[hD,hB,hP,Int.natCast_add,Int.natCast_add,Int.natCast_add];rfl
namespace B13
def e1:En:={En.zero with lpn:=4,seq:=7,role:=1}
def e2:En:={En.zero with lpn:=4,seq:=6,role:=1}
def e3:En:={En.zero with lpn:=10,seq:=9,role:=1}
def T0:Tb:=⟨10,[],[],1⟩
def T1:Tb:=⟨10,[(4,⟨2,1,0,7,7,1⟩)],[(2,1)],8⟩
def t0:Tl:=Tl.new 3 8 2
def t1:Tl:=⟨3,8,2,⟨3,0,false,false⟩::List.replicate 7 Sb.zero,0⟩
def t2:Tl:=⟨3,8,2,[⟨3,0,false,false⟩,Sb.zero,⟨0,2,false,false⟩,Sb.zero,Sb.zero,Sb.zero,Sb.zero,Sb.zero],0⟩
theorem h0:Tb.new 10=T0:=by kernel_rfl
theorem h1:Tb.put T0 e1 2 1 0 7=T1:=by kernel_rfl
theorem h2:Tb.put T1 e2 0 0 0 7=T1:=by kernel_rfl
theorem h3:Tb.put T1 e3 0 0 0 7=T1:=by kernel_rfl
theorem p1:Tb.putB T0 e1=true:=by kernel_rfl
theorem p2:Tb.putB T1 e2=false:=by kernel_rfl
theorem p3:Tb.putB T1 e3=false:=by kernel_rfl
theorem w1:t0.wore 0 3=t1:=by kernel_rfl
theorem w2:t1.bad 1 2=t2:=by kernel_rfl
theorem c0 (k:Int):0<=T0.count k/\T0.count k<=1000000:=by
 have:T0.count k=0:=rfl;rw[this];omega
theorem c1 (k:Int):0<=T1.count k/\T1.count k<=1000000:=by
 have:T1.count k=(if k=2 then some (1:Int)else none).getD 0:=rfl;rw[this];split<;>simp
theorem o1:H0 (λx y=>y6 (t2.wear x) (t2.wear y)) (f7 (y9 t2 T1) (-1) t2.b)=1:=by kernel_rfl
theorem o2:H0 (λx y=>orI [y6 (T1.count x) (T1.count y),y6 (t2.wear x) (t2.wear y)]) (f7 (B3 t2 T1) (-1) t2.b)=2:=by kernel_rfl
theorem o3:(f7 (y9 t2 T1) (-1) t2.b).length=7:=by kernel_rfl
theorem o4:f7 (j3 t2 T1) (-1) t2.b=[]:=by kernel_rfl
theorem o5:f7 (J2 t2 T1) (-1) t2.b=[2]:=by kernel_rfl
theorem o6:T1.ins 2=[4]:=by kernel_rfl
theorem o7:t2.mask 2=5:=by kernel_rfl
theorem o8:t2.usable 2=true:=by kernel_rfl
theorem o9:t2.alive=7:=by kernel_rfl
theorem o10:t2.wear 0=3:=by kernel_rfl
theorem o11:t2.blank 3=true:=by kernel_rfl
theorem o12:T1.count 2=1:=by kernel_rfl
end B13
theorem b0J:FP 267 [] [] (Ps (.bool true) []):=by
 refine FE [] Tryz.func267 λX F hX=>?_;refine J.qc (a8h 10) [] λ_=>?_;rintro v As ⟨r,rfl,rfl⟩;refine⟨_,rfl,trivial,?_⟩;rw[B13.h0];refine J.qc (a8e 3 8 2 rfl) [] λ_=>?_;rintro v As ⟨q,rfl,rfl⟩;refine⟨_,rfl,trivial,?_⟩;rw[show Tl.new 3 8 2=B13.t0 from rfl];refine J.qp (b4n) [] λ_=>?_;refine J.qF λ_=>?_;refine J.qp (a2L r B13.T0 B13.e1 2 1 0 7 (by decide) B13.c0) [1] λ_=>?_;rw[B13.h1,B13.p1];refine J.qp (a2L r B13.T1 B13.e2 0 0 0 7 (by decide) B13.c1) [1] λ_=>?_;rw[B13.h2,B13.p2];refine J.qp (a2L r B13.T1 B13.e3 0 0 0 7 (by decide) B13.c1) [1] λ_=>?_;rw[B13.h3,B13.p3];refine J.qp (a1o r B13.T1 4) [1] λ_=>?_;rw[show Tb.look B13.T1.at_ 4=some ⟨2,1,0,7,7,1⟩from rfl,Option.getD_some,Option.isSome_some];refine J.qp (a5J q B13.t0 (by decide) rfl 0 3) [2] λ_=>?_;rw[B13.w1];refine J.qp (a8f q B13.t1 (by decide) rfl 1 2) [2] λ_=>?_;rw[B13.w2];refine J.qp (a7B) [] λ_=>?_;refine J.qp (a7A) [] λ_=>?_;refine J.qp (b1O r B13.T1) [1] λ_=>?_;refine J.qp (E9 r B13.T1 2) [1] λ_=>?_;rw[B13.o12];refine J.qc (b1P r B13.T1 10 rfl (by decide) 2) [1] λ_=>?_;rintro v As ⟨a1,c1,rfl,rfl⟩;refine⟨_,rfl,trivial,?_⟩;rw[B13.o6];refine J.qp (b4o r B13.T1) [1] λ_=>?_;refine J.qp (a0B q B13.t2 (by decide) rfl 0) [2] λ_=>?_;rw[B13.o10];refine J.qp (Q3 q B13.t2 (by decide) rfl 2) [2] λ_=>?_;rw[B13.o7];refine J.qp (Z4 q B13.t2 (by decide) rfl 2) [2] λ_=>?_;rw[B13.o8];refine J.qp (b1K q B13.t2) [2] λ_=>?_;rw[B13.o9];refine J.qp (a8r q B13.t2 (by decide) rfl r B13.T1 (-1)) [2,1] λ_=>?_;rw[B13.o1];refine J.qp (a7j q B13.t2 (by decide) rfl r B13.T1 (-1)) [2,1] λ_=>?_;rw[B13.o2];refine J.qp (b2r q B13.t2 (by decide) rfl r B13.T1 (-1)) [2,1] λ_=>?_;rw[B13.o3];refine J.qc (a9n q B13.t2 (by decide) rfl r B13.T1 (-1)) [2,1] λ_=>?_;rintro v As ⟨a2,c2,rfl,rfl⟩;refine⟨_,rfl,trivial,?_⟩;rw[B13.o4];refine J.qc (a8s q B13.t2 (by decide) rfl r B13.T1 10 rfl (by decide)) [2,1] λ_=>?_;rintro v As ⟨a3,c3,rfl,rfl⟩;refine⟨_,rfl,trivial,?_⟩;rw[B13.o5];refine J.qp (a2K q B13.t2 (by decide) rfl 3) [2] λ_=>?_;rw[B13.o11];exact J.qx []
theorem b0K:FP 243 [] [] (Ps (.bool true) []):=by
 refine FE [] Tryz.func243 λX F hX=>?_;refine J.qp (b0J) [] λ_=>?_;exact J.qx []
section
variable {X : Cx} {P : Program} {K : List KI} {E : Env} {L : List Atom} {N : Nat} {F : HP} {Post : Value → List Atom → Prop} {rs : List ResultVar} {T : Tab}
theorem W8 (hT:TabOK P T) {o:Oper} {x y:Operand} {st e size by_ ks tgs ky tgy:Nat} {gs gy:G} {a:Option Nat} {n cap:Nat} {xs:List Value} {s1 b1:Nat} {z1:List Value} {ac:Act} {w:World} {NN:Nat}
  (hop:o.op= .call ⟨.builtin .append,#[x,y],#[st,st]⟩) (hx:ev E x=some ⟨ks,slv a n cap,tgs,gs⟩) (hvx:gs.on=true) (hy:ev E y=some ⟨ky, .slice none 0 0,tgy,gy⟩) (hvy:gy.on=true) (hen:EnvOK NN E ac)
  (hst:T.get st=some ⟨.slice e size,s1,z1,b1⟩) {td:TD} {z:List Value} (he:T.get e=some ⟨td,size,z,by_⟩) (hown:J3 e size a n cap xs (hl w)):
  (execOp ac.eval o).run P w= .ok (.value (slv a n cap)) w:=by
 obtain⟨d,f,zv,ok⟩:=i5 (hT.get hst);obtain⟨fe,rfl,g1,g2⟩:=ok.slice rfl;obtain⟨d',f',zv',ok'⟩:=i5 (hT.get he);have hf:fe=f':=by have:=g1.symm.trans ok'.hf;injection this
 subst hf;have ex:=i9 hen hx;have ey:=i9 hen hy;simp only[Slot.val,hvx,hvy]at ex ey;have hr:=run_append_owned_none (P:=P) w 0 st o.type e fe size ok.hd ok'.hf _ n xs (a3g hown);simp only[execOp,hop,resolve,Sem.run_bind,Sem.run_pure,Result.andThen_ok,invoke,builtin,List.map_toArray,List.map_cons,List.map_nil,ex,ey,hr]
theorem J.appendO (hX:IsCx X P rs N F Post) (hT:TabOK P T) {ops:Array Oper} {C:Cl} {lt:Bool} {i:Nat} {t:PT} {o:Oper} {x y:Operand} {st e size by_:Nat} {ks tgs:Nat} {gs:G} {a:Option Nat} {n cap:Nat} {xs:List Value} {ky tgy:Nat} {gy:G} {ay:Option Nat} {m cy:Nat} {cs:List Value} {s1 b1:Nat} {z1:List Value} {E':Value->Env} (is iy:Nat)
  (ho:n5 ops.toList i=some o) (hg:gd ops.toList E o=some .tt) (hop:o.op= .call ⟨.builtin .append,#[x,y],#[st,st]⟩)
  (hx:ev E x=some ⟨ks,slv a n cap,tgs,gs⟩) (hvx:gs.on=true) (hy:ev E y=some ⟨ky,slv ay m cy,tgy,gy⟩) (hvy:gy.on=true)
  (hLs:n5 L is=some (c9 e size a n cap xs)) (hLy:n5 L iy=some (c9 e size ay m cy cs)) (hst:T.get st=some ⟨.slice e size,s1,z1,b1⟩) {td:TD} {z:List Value} (he:T.get e=some ⟨td,size,z,by_⟩) (hz:Nat.beq z.length size=true)
  (hsz:Nat.blt 0 size=true) (h1:∀u∈cs,u.oneCell'=true) (h63:n+m<=maxLen) (hbytes:(n+m)*by_<=140737488355328)
  (hd:∀v,C4 N o.dst v 0 .tt E=some (E' v))
  (hJ:∀a' cap',∃L',A9 L is (c9 e size a' (n+m) cap' (xs++cs))=some L'/\Conj (p9 lt C L')/\J X (.reg ops C t::K) (E' (slv a' (n+m) cap')) L'):J X (.reg ops C (.alt lt i t .non)::K) E L:=by
 cases ay with
 | some b=>exact J.appendR hX hT (oo:=0) is iy 0 ho hg rfl hop hx hvx hy hvy hLs hLy (D4 _ _ (some b) _ _ _) hst he hz hsz h1 h63 hbytes hd hJ
 | none=>
  rw[n4]at hLs hLy;refine J.know (p:=cs.length=m*size/\m=0/\cy=0) (λh s=>(show J3 e size none m cy cs h from s.get hLy)) λhk=>?_;obtain⟨q1,rfl,rfl⟩:=hk;have hcs:cs=[]:=List.eq_nil_of_length_eq_zero (by rw[q1,Nat.zero_mul]);subst hcs;obtain⟨L',e1,e2,e3⟩:=hJ a cap;rw[Nat.add_zero,List.append_nil]at e1;rw[Nat.add_zero]at e3;have hL:L'=L:=by
   rw[A7 e1];apply List.ext_getElem?;intro j;rw[List.getElem?_set];split
   ·rename_i e;subst e;split
    ·exact hLs.symm
    ·rename_i e4;rw[List.getElem?_eq_none (by omega)]
   ·rfl
  subst hL;exact J.val hX (slv a n cap) 0 ho hg (λ_ ac w hen hs=>W8 hT hop hx hvx hy hvy hen hst he (show J3 e size a n cap xs (hl w)from hs.get hLs)) (hd _) e2 e3
end
def FOk (m:Nat) (L:List Fnd) (Z:List FSlot):Prop:=Z.map (·.l)=(List.range m).map λk:Nat=>V.of L (k:Int)
theorem FOk.len {m:Nat} {L:List Fnd} {Z:List FSlot} (h:FOk m L Z):Z.length=m:=by have:=congrArg List.length h;simpa using this
theorem FOk.get {m:Nat} {L:List Fnd} {Z:List FSlot} (h:FOk m L Z) {k:Nat} (hk:k<m):∃z,Z[k]? =some z/\z.l=V.of L (k:Int):=by
 have hl:=h.len;refine⟨Z[k],List.getElem?_eq_getElem (by omega),?_⟩;have:=congrArg (λl=>l[k]?) h;simp only[List.getElem?_map,List.getElem?_range hk,List.getElem?_eq_getElem (show k<Z.length by omega),Option.map_some,Option.some.injEq]at this;exact this
theorem FOk.zero (m:Nat):FOk m [] (List.replicate m ⟨none,0,[]⟩):=by
 unfold FOk;apply List.ext_getElem?;intro i;rw[List.getElem?_map,List.getElem?_replicate,List.getElem?_map]
 by_cases h:i<m
 ·rw[if_pos h,List.getElem?_range h];simp[V.of]
 ·rw[if_neg h,List.getElem?_eq_none (by simp;omega)];rfl
theorem FOk.hit {m:Nat} {L:List Fnd} {Z:List FSlot} (h:FOk m L Z) {x:Fnd} {k:Nat} (hx:x.en.lpn=(k:Int)) {z z':FSlot} (hz:Z[k]? =some z) (hz':z'.l=z.l++[x]):FOk m (L++[x]) (Z.set k z'):=by
 have hl:=h.len;have hk:k<Z.length:=(List.getElem?_eq_some_iff.1 hz).1;have hzl:z.l=V.of L (k:Int):=by
  obtain⟨z2,h1,h2⟩:=h.get (k:=k) (by omega);rw[hz]at h1;injection h1 with h1;subst h1;exact h2
 unfold FOk;rw[List.map_set,show Z.map (·.l)=_ from h,hz',hzl];apply List.ext_getElem?;intro i;rw[List.getElem?_set,List.getElem?_map,List.getElem?_map]
 by_cases e:k=i
 ·subst e;rw[if_pos rfl,if_pos (by simp;omega),List.getElem?_range (by omega),Option.map_some,V.of_snoc,if_pos hx]
 ·rw[if_neg e]
  by_cases h2:i<m
  ·rw[List.getElem?_range h2,Option.map_some,Option.map_some,V.of_snoc,if_neg (by omega)]
  ·rw[List.getElem?_eq_none (by simp;omega)];rfl
theorem FOk.miss {m:Nat} {L:List Fnd} {Z:List FSlot} (h:FOk m L Z) {x:Fnd} (hx:(m:Int)<=x.en.lpn):FOk m (L++[x]) Z:=by
 unfold FOk;rw[show Z.map (·.l)=_ from h];apply List.map_congr_left;intro i hi;rw[List.mem_range]at hi;rw[V.of_snoc,if_neg (by omega)]
theorem FOk.le {m:Nat} {L:List Fnd} {Z:List FSlot} (h:FOk m L Z) {k:Nat} {z:FSlot} (hz:Z[k]? =some z):z.l.length<=L.length:=by
 have hl:=h.len;have hk:k<Z.length:=(List.getElem?_eq_some_iff.1 hz).1;obtain⟨z2,h1,h2⟩:=h.get (k:=k) (by omega);rw[hz]at h1;injection h1 with h1;subst h1
 rw[h2];exact V.of_len L k
theorem a0s {α β:Type} (f:α->List β) (c:Nat) (l:List α) (h:∀x∈l,(f x).length<=c):(l.flatMap f).length<=c*l.length:=by
 induction l with
 | nil=>simp
 | cons x l ih=>
  rw[List.flatMap_cons,List.length_append,List.length_cons];have:=h x (List.mem_cons_self ..);have:=ih (λy hy=>h y (List.mem_cons_of_mem _ hy));rw[Nat.mul_add];omega
theorem a0H (N:Nand) (hN:N.Ok) (b r:Int):(R.all N b r).length<=42:=by
 have hbd:=hN.bd;have:=a3i N b r (M.masks N b r).length (by omega);unfold a0M at this
 rwa [List.take_length]at this
theorem b4g (N:Nand) (hN:N.Ok) (b:Nat) (hb:b<=16):(V.upB N b).length<=5376:=by
 have hbd:=hN.bd;unfold V.upB;have:=a0s (λb:Nat=>(List.range N.pages).flatMap λr=>R.all N (b:Nat) (r:Nat)) 336 (List.range b) (λx _=>by
  have:=a0s (λr:Nat=>R.all N (x:Nat) (r:Nat)) 42 (List.range N.pages) (λr _=>a0H N hN _ _);rw[List.length_range]at this;omega)
 rw[List.length_range]at this;omega
theorem b4e (N:Nand) (hN:N.Ok) (b r:Nat) (hb:b<=16) (hr:r<=8):(V.upR N b r).length<=5712:=by
 have h1:=b4g N hN b hb;have:=a0s (λr:Nat=>R.all N (b:Nat) (r:Nat)) 42 (List.range r) (λr _=>a0H N hN _ _);rw[List.length_range]at this;unfold V.upR;rw[List.length_append];omega
theorem b4f (N:Nand) (hN:N.Ok) (b r i:Nat) (hb:b<=16) (hr:r<=8):(V.upI N b r i).length<=5754:=by
 have h1:=b4e N hN b r hb hr;have:=a0H N hN b r;unfold V.upI;rw[List.length_append,List.length_take];omega
theorem b5U (N:Nand) (b:Nat):∀f∈V.upB N b,a1I f.en:=by
 intro f h;unfold V.upB at h;rw[List.mem_flatMap]at h;obtain⟨_,_,h⟩:=h;rw[List.mem_flatMap]at h;obtain⟨_,_,h⟩:=h;exact(a3H h).2.2
theorem b5S (N:Nand) (b r:Nat):∀f∈V.upR N b r,a1I f.en:=by
 intro f h;unfold V.upR at h;rw[List.mem_append]at h;rcases h with h | h
 ·exact b5U N b f h
 ·rw[List.mem_flatMap]at h;obtain⟨_,_,h⟩:=h;exact(a3H h).2.2
theorem b5T (N:Nand) (b r i:Nat):∀f∈V.upI N b r i,a1I f.en:=by
 intro f h;unfold V.upI at h;rw[List.mem_append]at h;rcases h with h | h
 ·exact b5S N b r f h
 ·exact(a3H (List.mem_of_mem_take h)).2.2
theorem Sep.ofAll {L:List Atom} {h:Hl} (hL:∀A∈L,∀h,A.sat h):Sep L h:=⟨λ_=>0,λi A hA=>hL A (List.mem_of_getElem? hA) _⟩
def svL (q:Nat) (torn:Value) (first:Int) (held:Value) (next pages:Int):List Value:=[pp q,torn,iI first,held,iI next,iI pages]
def svV (q:Nat) (S:Scd) (a1:Option Nat) (c1:Nat) (a2:Option Nat) (c2:Nat):Value:= .agg (svL q (slv a1 S.torn.length c1) S.first (slv a2 S.held.length c2) S.next S.pages).toArray
def sv0 (q:Nat) (L:List Fnd):List Value:=svL q (.slice none 0 0) 0 (.slice none 0 0) (V.nextOf L) L.length
theorem a1Y {α:Type} (x:α):∀n:Nat,(List.replicate n [x]).flatten=List.replicate n x
 | 0=>rfl
 | n+1=>by rw[List.replicate_succ,List.replicate_succ,List.flatten_cons,a1Y x n];rfl
theorem b0X (m:Nat):(List.replicate m [Value.slice none 0 0]).flatten=Y3 (List.replicate m ⟨none,0,[]⟩):=by
 rw[a1Y];unfold Y3;rw[List.map_replicate];rfl
theorem b0Y {Z:List FSlot} {k:Int} {z:FSlot} (h:Z[k.toNat]? =some z):(Y3 Z)[0+k.toNat*1]? =some z.hdr:=by
 rw[show 0+k.toNat*1=k.toNat from by omega,Y3,List.getElem?_map,h];rfl
theorem b6t (a b:Int):(if b>a then b else a)=max a b:=by split<;>omega
theorem a8O (l m:List Int):f9 l++f9 m=f9 (l++m):=by simp[f9]
theorem a8Q (l m:List En):d6 l++d6 m=d6 (l++m):=by simp[d6]
theorem a8N (l:List Int):∀u∈f9 l,u.oneCell'=true:=by
 intro u hu;simp only[f9,List.mem_map]at hu;obtain⟨x,_,rfl⟩:=hu;rfl
theorem b1E (p:Nat) (N:Nand) (hN:N.Ok) (hR:N.Room) (hoff:N.off=false) (n:Int):FP 79 [pp p,iI n] [i6 p N]
  (λv As=>∃q a1 c1 a2 c2,v= .tuple #[svV q (V.scan N n) a1 c1 a2 c2,iI 0]/\As=[i6 p N,TbA q (V.scan N n).tb,c9 155 19 a1 (V.scan N n).torn.length c1 (d6 (V.scan N n).torn),c9 3 1 a2 (V.scan N n).held.length c2 (f9 (V.scan N n).held)]):=by
 have hbd:=hN.bd;refine FE [2,0] Tryz.func79 λX F hX=>?_;refine J.q λbr=>?_;refine J.cF ?_;refine J.qp (a0N p N) [1] λ_=>?_;rw[hoff];refine J.qF λ_=>?_;refine J.qc (a8h n) [] λ_=>?_;rintro v As ⟨q,rfl,rfl⟩;refine⟨_,rfl,trivial,?_⟩;refine J.qn 11 λbo=>?_;rw[b1N];obtain⟨m,hm⟩:∃m:Nat,min (max n 0) 65536=(m:Int):=⟨(min (max n 0) 65536).toNat,by omega⟩;have hms:V.size n=m:=by unfold V.size;omega
 have hm1:m<=65536:=by omega
 rw[hm];refine J.mk 6 λg=>?_;rw[b0X];refine J.q λbs=>?_;refine J.turn1 [] rfl (As:=[.hp (HP.of (a0Y (List.replicate m ⟨none,0,[]⟩)))]) (λh s=>Sep.hpOf.2 (Sep.ofAll λA hA h=>by
  unfold a0Y at hA;rw[List.map_replicate,List.mem_replicate]at hA;rw[hA.2];exact⟨rfl,rfl,rfl⟩)) rfl ?_
 refine J.qp (I6 p N) [1] λ_=>?_;refine J.q λ_=>?_;refine J.l (α:=(Nat×List FSlot)) (λz=>z.1<=N.blocks/\FOk m (V.upB N z.1) z.2) (λz=>[si 38 z.1,si 37 N.blocks,⟨0,pp p,2, .tt⟩,⟨4,pp (br 0),3, .tt⟩,⟨6,pp (bo 0),5, .tt⟩,⟨7,pp (bs 0),7, .tt⟩]) [4,5,7] (λz=>[.pt (bo 0) 134 (sv0 q (V.upB N z.1)), .pt g 199 (Y3 z.2), .hp (HP.of (a0Y z.2))]) (λz=>N.blocks-z.1) ((0,List.replicate m ⟨none,0,[]⟩)) (⟨Nat.zero_le _,FOk.zero m⟩) λz hI=>?_;obtain⟨b,Z⟩:=z;dsimp only at hI ⊢;obtain⟨hb,hZ⟩:=hI;refine J.qd (λ_ h1=>?_) λ_ h1=>?_
 ·simp only[decide_eq_true_eq,Int.ofNat_lt]at h1;refine J.qp (I6 p N) [1] λ_=>?_;rw[<- V.upR_zero]at hZ;rw[<- V.upR_zero];refine J.q λ_=>?_;refine J.l (α:=(Nat×List FSlot)) (λz=>z.1<=N.pages/\FOk m (V.upR N b z.1) z.2) (λz=>[si 44 z.1,si 43 N.pages,si 8 b,si 38 b,si 37 N.blocks,⟨0,pp p,2, .tt⟩,⟨4,pp (br 0),3, .tt⟩,⟨6,pp (bo 0),5, .tt⟩,⟨7,pp (bs 0),7, .tt⟩]) [4,5,7] (λz=>[.pt (bo 0) 134 (sv0 q (V.upR N b z.1)), .pt g 199 (Y3 z.2), .hp (HP.of (a0Y z.2))]) (λz=>N.pages-z.1) ((0,Z)) (⟨Nat.zero_le _,hZ⟩) λz hI=>?_;clear hZ Z;obtain⟨r,Z⟩:=z;dsimp only at hI ⊢;obtain⟨hr,hZ⟩:=hI;refine J.qd (λ_ h2=>?_) λ_ h2=>?_
  ·simp only[decide_eq_true_eq,Int.ofNat_lt]at h2;refine J.qc (b5G p N hN hR b r) [1] λ_=>?_;rintro v As ⟨al,cl,rfl,rfl⟩;refine⟨_,rfl,trivial,?_⟩;rw[<- V.upI_zero]at hZ;rw[<- V.upI_zero];refine J.q λ_=>?_;refine J.l (α:=(Nat×List FSlot)) (λz=>z.1<=(R.all N b r).length/\FOk m (V.upI N b r z.1) z.2) (λz=>[si 52 z.1,⟨51,iI (R.all N b r).length,0, .tt⟩,sv 50 (slv al (R.all N b r).length cl),si 9 r,si 44 r,si 43 N.pages,si 8 b,si 38 b,si 37 N.blocks,⟨0,pp p,2, .tt⟩,⟨4,pp (br 0),3, .tt⟩,⟨6,pp (bo 0),5, .tt⟩,⟨7,pp (bs 0),7, .tt⟩]) [4,5,7] (λz=>[.pt (bo 0) 134 (sv0 q (V.upI N b r z.1)), .pt g 199 (Y3 z.2), .hp (HP.of (a0Y z.2))]) (λz=>(R.all N b r).length-z.1) ((0,Z)) (⟨Nat.zero_le _,hZ⟩) λz hI=>?_;clear hZ Z;obtain⟨i,Z⟩:=z;dsimp only at hI ⊢;obtain⟨hi,hZ⟩:=hI;refine J.qd (λ_ h3=>?_) λ_ h3=>?_
   ·simp only[decide_eq_true_eq,Int.ofNat_lt]at h3;obtain⟨x,hx⟩:∃x,(R.all N b r)[i]? =some x:=⟨_,List.getElem?_eq_getElem h3⟩;have hup:=V.upI_succ hx;have hrl:=a0H N hN b r;have hxb:=(a3H (List.mem_of_getElem? hx)).2.2;have hul:=b4f N hN b r i (by omega) (by omega);have hnb:=V.nextOf_bd (b5T N b r i);refine J.know (λh' s=>j4 (c:=(al,cl)) (by omega) (s.get (i:=8) rfl)) λhg=>?_;obtain⟨gl,rfl⟩:=hg;refine J.q λ_=>?_;refine J.v (fdV x) rfl rfl (λhg a w he hs=>?_) ?_
    ·exact p6 tk rfl rfl he rfl rfl rfl (hs.get (i:=8) rfl) (by rw[show 0+(i:Int).toNat*25=i*25 from by omega];exact P8 hx) rfl
    unfold a1I at hxb;refine J.q λbf=>?_;have hn1:V.nextOf (V.upI N b r (i+1))=max (V.nextOf (V.upI N b r i)) (x.en.seq+1):=by rw[hup,V.nextOf_snoc]
    have hn2:((V.upI N b r i).length:Int)+1=((V.upI N b r (i+1)).length:Int):=by rw[hup,List.length_append];rfl
    rw[b6t,<- hn1,hn2];refine J.p (.of [0,4,9,12,16,20,25,28,32]) [] [6,9] λ_=>?_;refine J.qd (λ_ h4=>?_) λ_ h4=>?_
    ·simp only[decide_eq_true_eq]at h4;obtain⟨z,hz,hzl⟩:=hZ.get (k:=x.en.lpn.toNat) (by omega);have hzle:=hZ.le hz;have hZl:=hZ.len;refine J.openAt 7 x.en.lpn.toNat rfl rfl (a0X hz) rfl ?_;refine J.pn 15 (.of [0,4,8,13,16,20,25,28,32,36,41,44,48,53,56,61,65,70,74,76,83]) [19,20] [5,6,9] λ_ _=>?_;refine J.vT z.hdr rfl rfl (λhg a w he hC=>j5 tk rfl rfl he rfl rfl rfl (hC rfl _ (i7 (i:=5) rfl)) (b0Y hz)) ?_;refine J.q λ_=>?_;refine J.append hX tk 10 11 0 rfl rfl rfl rfl rfl rfl rfl rfl rfl rfl rfl rfl rfl rfl rfl rfl ?_ ?_ (λ_=>rfl) λa' c'=>⟨_,(congrArg (λy=>A9 _ 10 (c9 _ _ _ _ _ y)) (Y8 z.l x).symm).trans rfl,⟨rfl,rfl,rfl,trivial⟩,?_⟩
     ·simp only[maxLen];omega
     ·omega
     rw[show z.l.length+1=(z.l++[x]).length from by simp];refine J.q λ_=>?_;have hhit:=hZ.hit (x:=x) (k:=x.en.lpn.toNat) (by omega) hz (z':=⟨a',c',z.l++[x]⟩) rfl;refine J.s1 5 (Y3 (Z.set x.en.lpn.toNat ⟨a',c',z.l++[x]⟩)) ?_ ?_ ?_
     ·rw[show(Y3 Z).length=Z.length from by simp[Y3]];omega
     ·rw[show 0+x.en.lpn.toNat*1=x.en.lpn.toNat from by omega];exact b3k Z _ ⟨a',c',z.l++[x]⟩
     refine J.closeAt (A:=(FSlot.mk a' c' (z.l++[x])).atom) 7 10 x.en.lpn.toNat rfl rfl rfl ?_;rw[b3z];refine J.q λ_=>?_;refine J.n ((i+1,Z.set x.en.lpn.toNat ⟨a',c',z.l++[x]⟩)) (⟨by dsimp only;omega,by dsimp only;rw[hup];exact hhit⟩) (by dsimp only;omega) [0,1,2,3,4,5,6,7,8]
    ·simp only[decide_eq_false_iff_not]at h4;have hmiss:=hZ.miss (x:=x) (by omega);refine J.q λ_=>?_;refine J.n ((i+1,Z)) (⟨by dsimp only;omega,by dsimp only;rw[hup];exact hmiss⟩) (by dsimp only;omega) [0,1,2,3,4,5,6,7,8]
   ·simp only[decide_eq_false_iff_not,Int.ofNat_lt]at h3;obtain rfl:i=(R.all N b r).length:=by omega
    rw[<- V.upR_succ]at hZ;rw[<- V.upR_succ];refine J.q λ_=>?_;refine J.n ((r+1,Z)) (⟨by dsimp only;omega,hZ⟩) (by dsimp only;omega) [0,1,2,3,4,5,6,7]
  ·simp only[decide_eq_false_iff_not,Int.ofNat_lt]at h2;obtain rfl:r=N.pages:=by omega
   rw[<- V.upB_succ]at hZ;rw[<- V.upB_succ];refine J.q λ_=>?_;refine J.n ((b+1,Z)) (⟨by dsimp only;omega,hZ⟩) (by dsimp only;omega) [0,1,2,3,4,5,6,7]
 simp only[decide_eq_false_iff_not,Int.ofNat_lt]at h1;obtain rfl:b=N.blocks:=by omega
 rw[V.upB_all]at hZ;rw[V.upB_all];have hZl:=hZ.len;have hLb:∀f∈V.all N,a1I f.en:=λf hf=>(a8V hf).2;have hLl:=a9R N hN;subst hZl;refine J.q λ_=>?_;refine J.turn1 [] rfl (As:=[c9 155 19 none 0 0 (d6 []),c9 3 1 none 0 0 (f9 []),c9 155 19 none 0 0 (d6 [])]) (λh s=>Sep.ofAll λA hA h=>by
  simp only[List.mem_cons,List.not_mem_nil,or_false]at hA;rcases hA with rfl | rfl | rfl<;>exact⟨rfl,rfl,rfl⟩) rfl ?_
 refine J.q λ_=>?_;refine J.l (α:=(Nat×(Option Nat×Nat)×(Option Nat×Nat)×(Option Nat×Nat))) (λz=>z.1<=Z.length) (λz=>[si 105 z.1,si 104 Z.length,⟨12,slv z.2.2.2.1 (V.goS N (V.all N) n z.1).others.length z.2.2.2.2,0, .tt⟩,⟨0,pp p,2, .tt⟩,⟨4,pp (br 0),3, .tt⟩,⟨6,pp (bo 0),5, .tt⟩,⟨7,pp (bs 0),7, .tt⟩]) [3,4,8,9,10] (λz=>[TbA q (V.goS N (V.all N) n z.1).tb, .pt (bo 0) 134 (svL q (slv z.2.1.1 (V.goS N (V.all N) n z.1).torn.length z.2.1.2) 0 (slv z.2.2.1.1 (V.goS N (V.all N) n z.1).held.length z.2.2.1.2) (V.nextOf (V.all N)) (V.all N).length),c9 155 19 z.2.1.1 (V.goS N (V.all N) n z.1).torn.length z.2.1.2 (d6 (V.goS N (V.all N) n z.1).torn),c9 3 1 z.2.2.1.1 (V.goS N (V.all N) n z.1).held.length z.2.2.1.2 (f9 (V.goS N (V.all N) n z.1).held),c9 155 19 z.2.2.2.1 (V.goS N (V.all N) n z.1).others.length z.2.2.2.2 (d6 (V.goS N (V.all N) n z.1).others)]) (λz=>Z.length-z.1) ((0,(none,0),(none,0),(none,0))) (Nat.zero_le _) λz hI=>?_;obtain⟨k,⟨a1,c1⟩,⟨a2,c2⟩,⟨a3,c3⟩⟩:=z;dsimp only at hI ⊢;have hgl:=V.goS_len N (V.all N) n k;have hgh:=V.goS_held N (V.all N) n k;refine J.qd (λ_ h2=>?_) λ_ h2=>?_
 ·simp only[decide_eq_true_eq,Int.ofNat_lt]at h2;obtain⟨z,hz,hzl⟩:=hZ.get (k:=k) h2;have hzle:=hZ.le hz;have hstep:=V.goS_succ N (V.all N) n k;have hok:=V.goS_ok N (V.all N) n k;have hhl:=V.holds_len (V.of (V.all N) k);have hol:=V.of_len (V.all N) k;have hsm:=V.standOf_mem (l:=V.of (V.all N) k);generalize hS:V.goS N (V.all N) n k=S at hgl hgh hstep hok;refine J.qp (b1C (bs 0) p g Z k z hz (by omega) (by omega)) [6,5,7] λ_=>?_;rw[hzl];unfold V.step at hstep;obtain⟨f,is,hs⟩:∃f is,V.standOf (V.of (V.all N) k)=(f,is):=⟨_,_,rfl⟩;rw[hs]at hsm hstep ⊢;dsimp only at hsm hstep ⊢;refine J.q λbf=>?_;refine J.cond rfl (λh3=>?_) (λh3=>?_)
  ·simp only[Bool.not_eq_true']at h3;subst h3;rw[if_neg Bool.false_ne_true]at hstep;rw[<- hstep];refine J.q λ_=>?_;refine J.n ((k+1,(a1,c1),(a2,c2),(a3,c3))) (by dsimp only;omega) (by dsimp only;omega) [0,1,2,3,4,5,6,7,8,9,10]
  simp only[Bool.not_eq_false']at h3;subst h3;rw[if_pos rfl]at hstep;have hfm:f∈V.all N:=by have:=hsm rfl;unfold V.of at this;exact(List.mem_filter.1 this).1
  obtain⟨⟨r0,hr0,hr1⟩,hfb⟩:=a8V hfm;unfold a1I at hfb;refine J.qp (a2L q S.tb f.en f.block f.row f.slot f.mask (by omega) hok.bd) [3] λ_=>?_;refine J.qd (λ_ h4=>?_) λ_ h4=>?_
  ·rw[if_pos h4]at hstep;have e1:=congrArg Sst.tb hstep;have e2:=congrArg Sst.torn hstep;have e3:=congrArg Sst.held hstep;have e4:=congrArg Sst.others hstep;dsimp only at e1 e2 e3 e4;rw[<- e1,<- e2,<- e3,<- e4];refine J.q λ_=>?_;refine J.n ((k+1,(a1,c1),(a2,c2),(a3,c3))) (by dsimp only;omega) (by dsimp only;omega) [0,1,2,3,4,5,6,7,8,9,10]
  rw[if_neg (by rw[h4];exact Bool.false_ne_true)]at hstep;refine J.qp (b5R p N hN hR (bs 0) (.slice (some ⟨g,0,none⟩) Z.length Z.length) f r0 hr0 (by omega)) [1,6] λ_=>?_;refine J.qd (λ_ h5=>?_) λ_ h5=>?_
  ·rw[if_pos h5]at hstep;have e1:=congrArg Sst.tb hstep;have e2:=congrArg Sst.torn hstep;have e3:=congrArg Sst.held hstep;have e4:=congrArg Sst.others hstep;dsimp only at e1 e2 e3 e4;refine J.q λ_=>?_;refine J.ap 8 12 0 (I0 S.torn f.en) λa4 c4=>?_;rw[show S.torn.length+1=(S.torn++[f.en]).length from by simp];refine J.p (.of [0,5,8,12,18,23,24,31]) [5,6,7] [4] λ_=>?_;refine J.qc (b4d (bs 0) p g Z k z hz (by omega) (by omega)) [6,5,7] λ_=>?_;rintro v As ⟨a5,c5,rfl,rfl⟩;refine⟨_,rfl,stq,?_⟩;rw[hzl];refine J.q λ_=>?_;refine J.appendO hX tk 9 13 rfl rfl rfl rfl rfl rfl rfl rfl rfl rfl rfl rfl rfl (a8N _) ?_ ?_ (λ_=>rfl) λa6 c6=>⟨_,(congrArg (λy=>A9 _ 9 (c9 _ _ _ _ _ y)) (a8O S.held (V.holds (V.of (V.all N) k)))).trans rfl,stq,?_⟩
   ·simp only[maxLen];omega
   ·omega
   rw[show S.held.length+(V.holds (V.of (V.all N) k)).length=(S.held++V.holds (V.of (V.all N) k)).length from by simp];rw[<- e1,<- e2,<- e3,<- e4];refine J.q λ_=>?_;refine J.n ((k+1,(a4,c4),(a6,c6),(a3,c3))) (by dsimp only;omega) (by dsimp only;omega) [0,1,2,3,4,5,6,7,8,9,10]
  ·rw[if_neg (by rw[h5];exact Bool.false_ne_true)]at hstep;have e1:=congrArg Sst.tb hstep;have e2:=congrArg Sst.torn hstep;have e3:=congrArg Sst.held hstep;have e4:=congrArg Sst.others hstep;dsimp only at e1 e2 e3 e4;refine J.q λ_=>?_;refine J.ap 10 12 0 (I0 S.others f.en) λa4 c4=>?_;rw[show S.others.length+1=(S.others++[f.en]).length from by simp];rw[<- e1,<- e2,<- e3,<- e4];refine J.q λ_=>?_;refine J.n ((k+1,(a1,c1),(a2,c2),(a4,c4))) (by dsimp only;omega) (by dsimp only;omega) [0,1,2,3,4,5,6,7,8,9,10]
 simp only[decide_eq_false_iff_not,Int.ofNat_lt]at h2;obtain rfl:k=Z.length:=by omega
 have hsc:V.scan N n=⟨(V.goS N (V.all N) n Z.length).tb,(V.goS N (V.all N) n Z.length).torn++(V.goS N (V.all N) n Z.length).others,(V.goS N (V.all N) n Z.length).torn.length,o0 (I3 (V.goS N (V.all N) n Z.length).held),V.nextOf (V.all N),(V.all N).length⟩:=by
  unfold V.scan V.scanOf;rw[hms]
 generalize V.goS N (V.all N) n Z.length=S at hgl hgh hsc;refine J.q λ_=>?_;refine J.appendO hX tk 8 10 rfl rfl rfl rfl rfl rfl rfl rfl rfl rfl rfl rfl rfl (a3W _) ?_ ?_ (λ_=>rfl) λa6 c6=>⟨_,(congrArg (λy=>A9 _ 8 (c9 _ _ _ _ _ y)) (a8Q S.torn S.others)).trans rfl,stq,?_⟩
 ·simp only[maxLen];omega
 ·omega
 rw[show S.torn.length+S.others.length=(S.torn++S.others).length from by simp];refine J.qp (b3X a2 S.held.length c2 S.held rfl (by omega)) [9] λ_=>?_;refine J.q λ_=>?_;refine J.ca hX (by kernel_rfl) (a4x a2 S.held.length c2 (I3 S.held) (R8 _) (by omega)) [9] 0 rfl rfl rfl rfl rfl rfl (λ_=>rfl) ?_;rintro v As ⟨l',hl',rfl,rfl⟩;refine⟨_,rfl,trivial,?_⟩;refine J.qr [1,3,8,9] λ_=>?_;rw[hsc,<- hl'];exact⟨q,a6,c6,a2,c2,rfl,rfl⟩
namespace B16
def e1:En:=⟨2,5,1,1::List.replicate 15 0⟩
def e2:En:=⟨2,4,1,2::List.replicate 15 0⟩
def e3:En:=⟨1,8,2,zeros16⟩
def w1:En:=⟨4,1,0,zeros16⟩
def w2:En:=⟨5,2,0,zeros16⟩
def w3:En:=⟨4,3,0,zeros16⟩
def N0:Nand:=Nand.new 3 8 2
def N1:Nand:=(R.write N0 1 0 7 [e1,B9.pad]).1
def N2:Nand:=(R.write N1 2 0 7 [e2,e3]).1
theorem G0:N0.Gd 100 0:=Nand.Gd.new 3 8 2 rfl 100 (by decide)
theorem G1:N1.Gd 92 0:=a0x (by decide) G0
theorem G2:N2.Gd 84 0:=a0x (by decide) G1
theorem off2:N2.off=false:=by kernel_rfl
def L:List Fnd:=[⟨e1,1,0,0,7,true,false⟩,⟨e2,2,0,0,7,true,false⟩,⟨e3,2,0,1,7,true,false⟩]
def T:Tb:=⟨3,[(1,⟨2,0,1,7,8,2⟩),(2,⟨1,0,0,7,5,1⟩)],[(2,1),(1,1)],9⟩
theorem h_all:V.all N2=L:=by kernel_rfl
theorem h_go:V.goS N2 L 3 3=⟨T,[],[],[]⟩:=by kernel_rfl
theorem h_size:V.size 3=3:=by kernel_rfl
theorem h_next:V.nextOf L=9:=by kernel_rfl
theorem h_scan:V.scan N2 3=⟨T,[],0,[],9,3⟩:=by
 unfold V.scan;rw[h_all];unfold V.scanOf;rw[h_size,h_go,h_next];have:o0 (I3 [])=[]:=a4P;dsimp only;rw[this];rfl
end B16
end Go.Proofs.YtnffkcabeecopaaGreat
namespace Go.Proofs.YtnffkcabeecopaaGreat
open Go Go.RowKit
theorem b0M:FP 242 [] [] (Ps (.bool true) []):=by
 refine FE [] Tryz.func242 λX F hX=>?_;refine J.qp (b0L) [] λ_=>?_;exact J.qx []
open B16
theorem b0H:FP 205 [] [] (Ps (.bool true) []):=by
 refine FE [] Tryz.func205 λX F hX=>?_;refine J.qc (a3l 3 8 2 rfl) [] λ_=>?_;rintro v As ⟨q,rfl,rfl⟩;refine⟨_,rfl,trivial,?_⟩;refine J.qF λ_=>?_;refine J.q λbx=>?_;refine J.ca hX (by kernel_rfl) (a2w q N0 (.pt (bx 0) 155 (d6 [e1,B9.pad])) 1 0 7 (some ⟨bx 0,0,none⟩) 2 2 0 [e1,B9.pad] (W3 _ _ _ _ _ rfl) rfl (by decide) (G0.less (by decide) (Nat.le_refl _))) [1,2] 0 rfl rfl rfl rfl rfl rfl (λ_=>rfl) ?_;refine cpq ⟨_,rfl,trivial,?_⟩;refine J.q λby_=>?_;refine J.ca hX (by kernel_rfl) (a2w q N1 (.pt (by_ 0) 155 (d6 [e2,e3])) 2 0 7 (some ⟨by_ 0,0,none⟩) 2 2 0 [e2,e3] (W3 _ _ _ _ _ rfl) rfl (by decide) (G1.less (by decide) (Nat.le_refl _))) [1,3] 0 rfl rfl rfl rfl rfl rfl (λ_=>rfl) ?_;refine cpq ⟨_,rfl,trivial,?_⟩;refine J.qc (b1E q N2 G2.ok G2.room off2 3) [1] λ_=>?_;rintro v As ⟨r,a1,c1,a2,c2,rfl,rfl⟩;refine⟨_,rfl,trivial,?_⟩;rw[h_scan];refine J.qF λ_=>?_;refine J.qp (a1o r T 2) [4] λ_=>?_;rw[show Tb.look T.at_ 2=some ⟨1,0,0,7,5,1⟩from rfl,Option.getD_some,Option.isSome_some];refine J.qc (b5M) [] λ_=>?_;rintro v As ⟨d,rfl,rfl⟩;refine⟨_,rfl,trivial,?_⟩;refine J.qp (a9L d [] (by decide) w1) [9] λ_=>?_;rw[show H8 [] w1=[w1]from rfl];refine J.qp (a9L d [w1] (by decide) w2) [9] λ_=>?_;rw[show H8 [w1] w2=[w1,w2]from rfl];refine J.qp (a9L d [w1,w2] (by decide) w3) [9] λ_=>?_;rw[show H8 [w1,w2] w3=[w2,w3]from rfl];refine J.qc (a9N d [w2,w3] (by decide) 5) [9] λ_=>?_;rintro v As ⟨a3,c3,rfl,rfl⟩;refine⟨_,rfl,trivial,?_⟩;rw[show dkN [w2,w3] 5=2 from rfl,show[w2,w3].take 2=[w2,w3]from rfl];refine J.know (λh' s=>j4 (c:=(a3,c3)) (by decide) (s.get (i:=10) rfl)) λhg=>?_;obtain⟨ga,rfl⟩:=hg;refine J.know (λh' s=>I5 (show J3 _ _ (some ga) 2 c3 _ _ from s.get (i:=10) rfl)) λhcap=>?_;refine J.qp (b5N d [w2,w3] (by decide) 4) [9] λ_=>?_;rw[show U0 [w2,w3] 4=(w3,true)from rfl];refine J.qp (b0M) [] λ_=>?_;refine J.qp (b0K) [] λ_=>?_;refine J.qp (b1O r T) [4] λ_=>?_;refine J.q λ_=>?_;refine J.v (iI 5) rfl rfl (λhg a w he hw=>l8 tk rfl rfl he hg rfl rfl (hw.get (i:=10) rfl) rfl) ?_;refine J.q λ_=>?_;have hRd:Rd (c9 155 19 (some ga) 2 c3 (d6 [w2,w3])) (some ⟨ga,0,none⟩) 19 1 (d6 [w2]):=(D4 155 19 (some ga) 2 c3 (d6 [w2,w3])).take 1 (by decide);refine J.qp (b3E d [w2,w3] (by decide) (c9 155 19 (some ga) 2 c3 (d6 [w2,w3])) (some ⟨ga,0,none⟩) 1 c3 [w2] hRd rfl (by decide)) [9,10] λ_=>?_;rw[show I9 [w2,w3] [w2]=[w3]from rfl];refine J.qp (a9M d [w3]) [9] λ_=>?_;exact J.qx []
end Go.Proofs.YtnffkcabeecopaaGreat
namespace Go.Proofs.YtnffkcabeecopaaGreat
end Go.Proofs.YtnffkcabeecopaaGreat
namespace Go.Proofs.YtnffkcabeecopaaGreat
open Go Go.RowKit
namespace Bt
end Bt
namespace K
end K
namespace S
end S
section
variable {P : Program} {T : Tab} {E : Env} {n : Nat} {ac : Act} {w : World}
end
namespace F9
end F9
namespace T2
end T2
theorem Y4 {α:Type} (f:α->List Value) (w:Nat) (hw:∀x,(f x).length=w):∀(l:List α) (k:Nat) (x:α),l[k]? =some x->((l.flatMap f).drop (k*w)).take w=f x
 | [],k,x,h=>by simp at h
 | y::l,0,x,h=>by
  simp at h;subst h;rw[List.flatMap_cons,Nat.zero_mul,List.drop_zero,List.take_left' (hw y)]
 | y::l,k+1,x,h=>by
  have ih:=Y4 f w hw l k x (by simpa using h);rw[List.flatMap_cons,show(k+1)*w=(f y).length+k*w from by rw[hw y,Nat.add_mul,Nat.one_mul,Nat.add_comm],<- List.drop_drop,List.drop_left' rfl];exact ih
end Go.Proofs.YtnffkcabeecopaaGreat
namespace Go.Proofs.YtnffkcabeecopaaGreat
open Go Go.RowKit
open Go.ChangeShapes Go.WideShapes
def frz (W:World):Atom:= .hp ⟨Hle (hl W),λ_ _ l s=>s.trans l⟩
theorem b6D {W:World} {a:Option Addr} {size n:Nat} {xs:List Value} (h:rdP a size n xs (hl W)):Rd (frz W) a size n xs:=λ_ s=>h.up s
theorem Fn.whole {P:Program} {f:FuncId} {args:List Value} {r:Value} {W:World} (h:Fn P f args [frz W] (λv As=>v=r/\As=[frz W])):Calls P f args.toArray W λe w'=>e= .returned r/\Below W.heap.size W w':=by
 have hs:Sep (.hp ⟨λ_=>True,λ_ _ _ s=>s⟩::[frz W]) (hl W):=by
  refine⟨λ_=>1,λi A hA=>?_⟩
  match i,hA with
  | 0,hA=>simp at hA;subst hA;trivial
  | 1,hA=>
   simp at hA;subst hA;intro b o hb;exact res_some.2 ⟨rfl,hb⟩
  | i+2,hA=>simp at hA
 refine(h _ W hs).mono λe w' ⟨v,As,e1,⟨e2,e3⟩,s,x⟩=>?_;subst e2 e3;have hle:Hle (hl W) (hl w'):=s.get (i:=1) rfl;refine⟨e1,x.os,x.tape,x.output,x.size,λk hk=>?_⟩;have:W.heap[k]? =some W.heap[k]:=Array.getElem?_eq_getElem hk;rw[this];exact hle k _ this
theorem b4z {size:Nat} {h:Hl}:rdP none size 0 [] h:=⟨by simp,λh=>absurd h (by omega)⟩
theorem b4y {α:Type} {W:World} {base size n:Nat} {a:Addr} (f:α->List Value) (hsz:0<size)
  (h:∀i,i<n->∃x,W.cells? base (a.add (i*size)) size=some (f x)):∃l:List α,l.length=n/\rdP (some a) size n (l.flatMap f) (hl W):=by
 have h1:∀m,m<=n->∃l:List α,l.length=m/\(l.flatMap f).length=m*size/\∀i,i<m*size->W.cell? (a.add i)=(l.flatMap f)[i]?:=by
  intro m
  induction m with
  | zero=>exactλ_=>⟨[],rfl,by simp,λi hi=>by omega⟩
  | succ m ih=>
   intro hm;obtain⟨l,e1,e2,e3⟩:=ih (by omega);obtain⟨x,hx⟩:=h m (by omega);obtain⟨_,q1,q2⟩:=World.cells?_some hx;have hlen:((l++[x]).flatMap f).length=(m+1)*size:=by simp[List.flatMap_append,e2,q1,Nat.succ_mul]
   refine⟨l++[x],by simp[e1],hlen,λi hi=>?_⟩;rw[List.flatMap_append,List.getElem?_append,e2];split
   ·exact e3 i (by assumption)
   ·rename_i hge;have:=q2 (i-m*size) (by rw[Nat.succ_mul]at hi;omega);rw[Deep.add_add,show m*size+(i-m*size)=i by omega]at this;rw[this];simp
 obtain⟨l,e1,e2,e3⟩:=h1 n (Nat.le_refl n);refine⟨l,e1,e2,λhn=>?_⟩;obtain⟨b,o,sp⟩:=a;have hpos:0<n*size:=Nat.mul_pos hn hsz;have h0:=e3 0 hpos;have hv:(l.flatMap f)[0]? =some ((l.flatMap f)[0]'(by omega)):=List.getElem?_eq_getElem _;rw[hv]at h0;have hsp:sp=none:=by simpa[Addr.add]using World.cell?_spot h0
 subst hsp;have hcell:∀i,W.cell? ⟨b,o+i,none⟩=W.cell? ((⟨b,o,none⟩:Addr).add i):=λi=>by rw[Addr.add_none]
 have hblk:∃cs ty fr,W.heap[b]? =some (.cells cs ty fr):=by
  unfold World.cell? at h0;cases hh:W.heap[b]? with
  | none=>simp[Addr.add,hh]at h0
  | some ob=>
   cases ob with
   | cells cs ty fr=>exact⟨cs,ty,fr,rfl⟩
   | _=>simp[Addr.add,hh]at h0
 obtain⟨cs,ty,fr,hh⟩:=hblk;refine⟨b,o,cs,ty,fr,rfl,hh,?_⟩;apply List.ext_getElem?;intro i;rw[List.getElem?_take];split
 ·rename_i hi;rw[<- e3 i hi,<- hcell,cell_of_row W b (o+i) cs ty fr hh];simp
 ·rename_i hi;exact(List.getElem?_eq_none (by omega)).symm
section
variable {H : Type} {enc : TypeId × Value → H} {w : World} {base : Nat} {spare : Nat → Bool} {held : Bool}
theorem Z7 {t:TypeId} (ht:Tryz.prog.underlying t=some (.int .i64)) {fuel:Nat} {cs:List Value} {y:DataW H×List MemPlace} (h:DataW.trod enc Tryz.prog w base spare held fuel t cs=some y):∃n,cs=[.int .i64 n]:=by
 obtain⟨n,rfl,_,_⟩:=DataW.trod_int ht h;exact⟨n,rfl⟩
end
end Go.Proofs.YtnffkcabeecopaaGreat
namespace Go.Proofs.YtnffkcabeecopaaGreat
open Go Go.RowKit
open Go.ChangeShapes Go.WideShapes Go.ChangeAt
section
variable {H : Type} {enc : TypeId × Value → H} {w : World} {base : Nat} {spare : Nat → Bool} {held : Bool}
theorem b0r {α:Type} {held':Bool} {fuel:Nat} {st et:TypeId} {size:Nat} (f:α->List Value) (good:α->Prop) (hu:Tryz.prog.underlying st=some (.slice et)) (hc:Tryz.prog.cellsOf et=size) (hsz:0<size)
  (hof:∀{fuel:Nat} {held:Bool} {cs:List Value} {y:DataW H×List MemPlace},DataW.trod enc Tryz.prog w base spare held fuel et cs=some y->∃x:α,good x/\cs=f x)
  {a:Option Addr} {len cap:Nat} {x:DataW H×List MemPlace} (h:DataW.trod enc Tryz.prog w base spare held' fuel st [.slice a len cap]=some x):
  ∃l:List α,l.length=len/\(∀e∈l,good e)/\rdP a size len (l.flatMap f) (hl w):=by
 rcases Deep.open_slice hu h with⟨hcs,_⟩ | ⟨a',len',cap',m,n,D,Pl,hcs,hb,hlc,hm,hmm,rfl,hx⟩
 ·simp at hcs;obtain⟨rfl,rfl,rfl⟩:=hcs;exact⟨[],rfl,λ_ h=>by simp at h,b4z⟩
 ·simp at hcs;obtain⟨rfl,rfl,rfl⟩:=hcs;rw[hc]at hx;obtain⟨l,e1,e2⟩:=b4y (W:=w) (base:=base) (size:=size) (n:=len) (a:=a') (λe:{e:α//good e}=>f e.1) hsz (λi hi=>by
   obtain⟨cs,q1,q2⟩:=hx i (by rw[hmm];split<;>omega);obtain⟨e,he,rfl⟩:=hof q2;exact⟨⟨e,he⟩,q1⟩)
  refine⟨l.map (·.1),by simpa using e1,λe he=>?_,?_⟩
  ·obtain⟨x,_,rfl⟩:=List.mem_map.1 he;exact x.2
  ·rw[List.flatMap_map];exact e2
end
end Go.Proofs.YtnffkcabeecopaaGreat
namespace Go.Proofs.YtnffkcabeecopaaGreat
open Go Go.RowKit
open Go.ChangeShapes Go.WideShapes Go.ChangeAt
section
variable {H : Type} {enc : TypeId × Value → H} {w : World} {base : Nat} {spare : Nat → Bool} {held : Bool}
theorem b6y {fuel:Nat} {cs:List Value} {y:DataW H×List MemPlace} (h:DataW.trod enc Tryz.prog w base spare held fuel 3 cs=some y):∃x:Int,(-9223372036854775808<=x/\x<=9223372036854775807)/\cs=[.int .i64 x]:=by
 obtain⟨n,rfl,_,hw⟩:=DataW.trod_int Tryz.underlying3 h;refine⟨n,?_,rfl⟩;simpa[Lit.wf,IntKind.min,IntKind.max,IntKind.signed,IntKind.bits]using hw
theorem b0s {held':Bool} {fuel:Nat} {a:Option Addr} {len cap:Nat} {x:DataW H×List MemPlace} (h:DataW.trod enc Tryz.prog w base spare held' fuel 74 [.slice a len cap]=some x):
  ∃l:List Int,l.length=len/\(∀e∈l,-9223372036854775808<=e/\e<=9223372036854775807)/\rdP a 1 len (l.flatMap λx=>[.int .i64 x]) (hl w):=
 b0r (λx:Int=>[.int .i64 x]) (λx=> -9223372036854775808<=x/\x<=9223372036854775807) Tryz.underlying74 (by kernel_rfl) (by decide) b6y h
end
end Go.Proofs.YtnffkcabeecopaaGreat
namespace Go.Proofs.YtnffkcabeecopaaGreat
open Go Go.RowKit
def rdA (a:Option Addr) (size n:Nat) (xs:List Value):Atom:= .hp ⟨rdP a size n xs,λ_ _ l s=>s.up l⟩
theorem a5S (a:Option Addr) (size n:Nat) (xs:List Value):Rd (rdA a size n xs) a size n xs:=λ_ s=>s
def y8:Option (Nat×Nat)->Option Addr
 | some x=>some ⟨x.1,x.2,none⟩
 | none=>none
def U1 (a:Option (Nat×Nat)) (size h c:Nat):Option (Nat×Nat):=match a with
 | some y=>if c=h then some y else some (y.1,y.2+h*size)
 | none=>none
section
variable {P : Program} {T : Tab} {E : Env} {n : Nat} {ac : Act} {w : World}
theorem V4 (hT:TabOK P T) {o:Oper} {t e size:Nat} {x y:Operand} {k1 k2 t1 t2:Nat} {g1 g2:G} {a:Option (Nat×Nat)} {m c h:Nat} {kk:IntKind} {hI:Int} {s1 b1 b2:Nat} {z1 z2:List Value} {td:TD} (hop:o.op= .slice t x (some y) none none) (hx:ev E x=some ⟨k1, .slice (y8 a) m c,t1,g1⟩) (hy:ev E y=some ⟨k2, .int kk hI,t2,g2⟩) (he:EnvOK n E ac) (v1:g1.on=true) (v2:g2.on=true)
  (ht:T.get t=some ⟨.slice e size,s1,z1,b1⟩) (hte:T.get e=some ⟨td,size,z2,b2⟩) (hhI:hI=(h:Int)) (hh:h<=m):
  (execOp ac.eval o).run P w= .ok (.value (.slice (y8 (U1 a size h c)) (m-h) (c-h))) w:=by
 subst hhI;have e1:=i9 he hx;have e2:=i9 he hy;simp only[Slot.val,v1,v2]at e1 e2;obtain⟨d,f,zv,ok⟩:=i5 (hT.get ht);obtain⟨fe,rfl,g1,g2⟩:=ok.slice rfl;cases a with
 | none=>
  simp only[execOp,hop,Option.map_some,Option.map_none,e1,e2,Instr.sliceAt,Instr.slice,Instr.sliceBounds,Instr.sliceBound,asIntOf,Sem.run_bind,Sem.run_pure,Result.andThen_ok,d7 ok.hd,m7 g1,g2];simp[hh,y8,U1]
 | some ad=>
  by_cases hne:c=h
  ·simp only[execOp,hop,Option.map_some,Option.map_none,e1,e2,Instr.sliceAt,Instr.slice,Instr.sliceBounds,Instr.sliceBound,asIntOf,Sem.run_bind,Sem.run_pure,Result.andThen_ok,d7 ok.hd,m7 g1,g2];simp[hh,hne,Addr.add_none,y8,U1]
  ·simp only[execOp,hop,Option.map_some,Option.map_none,e1,e2,Instr.sliceAt,Instr.slice,Instr.sliceBounds,Instr.sliceBound,asIntOf,Sem.run_bind,Sem.run_pure,Result.andThen_ok,d7 ok.hd,m7 g1,g2];simp[hh,hne,Addr.add_none,y8,U1]
end
section
variable {X : Cx} {P : Program} {K : List KI} {E : Env} {L : List Atom} {N : Nat} {F : HP} {Post : Value → List Atom → Prop} {rs : List ResultVar} {T : Tab}
theorem J.appendRO (hX:IsCx X P rs N F Post) (hT:TabOK P T) {ops:Array Oper} {C:Cl} {lt:Bool} {i:Nat} {t:PT} {o:Oper} {x y:Operand} {st e size by_:Nat} {ks tgs:Nat} {gs:G} {a:Option Nat} {n cap:Nat} {xs:List Value} {ky tgy:Nat} {gy:G} {ay:Option (Nat×Nat)} {m cy:Nat} {cs:List Value} {s1 b1:Nat} {z1:List Value} {E':Value->Env} {Ay:Atom} (is iy:Nat) (hc0:ay=none->cy=0)
  (ho:n5 ops.toList i=some o) (hg:gd ops.toList E o=some .tt) (hop:o.op= .call ⟨.builtin .append,#[x,y],#[st,st]⟩)
  (hx:ev E x=some ⟨ks,slv a n cap,tgs,gs⟩) (hvx:gs.on=true) (hy:ev E y=some ⟨ky, .slice (y8 ay) m cy,tgy,gy⟩) (hvy:gy.on=true)
  (hLs:n5 L is=some (c9 e size a n cap xs)) (hLy:n5 L iy=some Ay) (hrd:Rd Ay (y8 ay) size m cs) (hst:T.get st=some ⟨.slice e size,s1,z1,b1⟩) {td:TD} {z:List Value} (he:T.get e=some ⟨td,size,z,by_⟩) (hz:Nat.beq z.length size=true)
  (hsz:Nat.blt 0 size=true) (h1:∀u∈cs,u.oneCell'=true) (h63:n+m<=maxLen) (hbytes:(n+m)*by_<=140737488355328)
  (hd:∀v,C4 N o.dst v 0 .tt E=some (E' v))
  (hJ:∀a' cap',∃L',A9 L is (c9 e size a' (n+m) cap' (xs++cs))=some L'/\Conj (p9 lt C L')/\J X (.reg ops C t::K) (E' (slv a' (n+m) cap')) L'):J X (.reg ops C (.alt lt i t .non)::K) E L:=by
 cases ay with
 | some b=>exact J.appendR hX hT (oo:=b.2) is iy 0 ho hg rfl hop hx hvx hy hvy hLs hLy hrd hst he hz hsz h1 h63 hbytes hd hJ
 | none=>
  obtain rfl:=hc0 rfl;rw[n4]at hLs hLy;refine J.know (p:=cs.length=m*size/\m=0) (λh s=>⟨(hrd _ (s.get hLy)).1,by
   rcases Nat.eq_zero_or_pos m with h0 | h0
   ·exact h0
   ·obtain⟨_,_,_,_,_,e,_⟩:=(hrd _ (s.get hLy)).2 h0;cases e⟩) λhk=>?_
  obtain⟨q1,rfl⟩:=hk;have hcs:cs=[]:=List.eq_nil_of_length_eq_zero (by rw[q1,Nat.zero_mul]);subst hcs;obtain⟨L',e1,e2,e3⟩:=hJ a cap;rw[Nat.add_zero,List.append_nil]at e1;rw[Nat.add_zero]at e3;have hL:L'=L:=by
   rw[A7 e1];apply List.ext_getElem?;intro j;rw[List.getElem?_set];split
   ·rename_i e;subst e;split
    ·exact hLs.symm
    ·rename_i e4;rw[List.getElem?_eq_none (by omega)]
   ·rfl
  subst hL;exact J.val hX (slv a n cap) 0 ho hg (λ_ ac w hen hs=>W8 hT hop hx hvx hy hvy hen hst he (show J3 e size a n cap xs (hl w)from hs.get hLs)) (hd _) e2 e3
end
theorem a3h {e size:Nat} {a:Option Nat} {n cap:Nat} {xs:List Value} {h:Hl} (s:J3 e size a n cap xs h):a=none->cap=0:=λe=>by subst e;exact s.2.2
theorem a5R {a:Option (Nat×Nat)} {size n c h:Nat} {xs:List Value} {hh:Hl} (s:rdP (y8 a) size n xs hh) (hn:h<=n) (hc:n<=c):rdP (y8 (U1 a size h c)) size (n-h) (xs.drop (h*size)) hh:=by
 cases a with
 | none=>
  refine⟨by rw[List.length_drop,s.1,Nat.sub_mul],λh0=>?_⟩;obtain⟨b,o,_,_,_,e,_⟩:=s.2 (by omega);cases e
 | some y=>
  by_cases e:c=h
  ·refine⟨by rw[List.length_drop,s.1,Nat.sub_mul],λh0=>by omega⟩
  ·unfold U1;simp only[if_neg e];exact(a5S (some ⟨y.1,y.2,none⟩) size n xs).drop h hn _ s
theorem b0w {a:Option (Nat×Nat)} {size n:Nat} {xs:List Value} {h:Hl} (s:rdP (y8 a) size n xs h) (hn:0<n):∃y,a=some y:=by
 cases a with
 | none=>obtain⟨_,_,_,_,_,e,_⟩:=s.2 hn;cases e
 | some y=>exact⟨y,rfl⟩
theorem a7V (L:List En):∀k,(d6 L).drop (k*19)=d6 (L.drop k):=by
 induction L with
 | nil=>intro k;simp[d6]
 | cons x l ih=>
  intro k;cases k with
  | zero=>simp
  | succ k=>
   have e1:d6 (x::l)=enL x++d6 l:=by simp[d6]
   rw[e1,List.drop_succ_cons,<- ih k,show(k+1)*19=(enL x).length+k*19 from by show _=19+k*19;omega,<- List.drop_drop,List.drop_left' rfl]
theorem a9j {a:Option (Nat×Nat)} {n c h:Nat} {L:List En} {hh:Hl} (s:rdP (y8 a) 19 n (d6 L) hh) (hl:L.length=n) (hn:h<=n) (hc:n<=c):rdP (y8 (U1 a 19 h c)) 19 (L.drop h).length (d6 (L.drop h)) hh:=by
 have:=a5R s hn hc
 rwa [a7V,<- hl,<- List.length_drop]at this
theorem a0f {a:Option (Nat×Nat)} {size h c:Nat} (hz:a=none->c=0):U1 a size h c=none->c-h=0:=by
 cases a with
 | none=>intro _;rw[hz rfl];omega
 | some y=>intro e;unfold U1 at e;simp only at e;split at e<;>cases e
theorem a7T (xs:List Int):(xs.flatMap λx=>[Value.int .i64 x])=f9 xs:=by
 induction xs with
 | nil=>rfl
 | cons x xs ih=>simp only[List.flatMap_cons,ih];rfl
theorem a5Z (n t l p:Nat) (S:Dv) (k mm:Nat) (A:Atom) (a:Option (Nat×Nat)) (m c:Nat) (es:List En) (hA:Rd A (y8 a) 19 m (d6 es)) (hl:es.length=m) (hm:m<=1000000) (hc:m<=c) (ha:a=none->c=0) (hd:∀s∈es,s.data.length=16) (hO:S.Ok (Dv.costT*m+k) mm) (hmm:mm<=1000):
  FP 84 [pp n,pp t,pp l,pp p, .slice (y8 a) m c] (DvP p n t l S++[A])
  (Ps (iI (S.torn es).2) (DvP p n t l (S.torn es).1++[A])):=by
 subst hl;refine FE [3,4,5,2,0] Tryz.func84 λX F hX=>?_;refine J.q λ_=>?_;refine J.l (α:=(Nat×Dv×List En×Option (Nat×Nat)×Nat)) (λz=>z.2.2.1.length<=z.1/\z.2.2.1.length<=z.2.2.2.2/\z.2.2.1.length<=1000000/\(z.2.2.2.1=none->z.2.2.2.2=0)/\Rd A (y8 z.2.2.2.1) 19 z.2.2.1.length (d6 z.2.2.1)/\(∀s∈z.2.2.1,s.data.length=16)/\z.2.1.Ok (Dv.costT*z.1+k) mm/\Dv.tornGo z.1 z.2.1 z.2.2.1=S.torn es) (λz=>[sv 4 (.slice (y8 z.2.2.2.1) z.2.2.1.length z.2.2.2.2),⟨0,pp n,3, .tt⟩,⟨1,pp t,4, .tt⟩,⟨2,pp l,5, .tt⟩,⟨3,pp p,2, .tt⟩]) [1,2,3,4] (λz=>DvP p n t l z.2.1) (λz=>z.1) ((es.length,S,es,a,c)) (⟨Nat.le_refl _,hc,hm,ha,hA,hd,hO,rfl⟩) λz hI=>?_;obtain⟨j,Q,L,a',c'⟩:=z;dsimp only at hI ⊢;obtain⟨hj,hLc,hLm,ha',hAr,hLd,hQ,hw⟩:=hI;refine J.qd (λ_ h1=>?_) λ_ h1=>?_
 ·simp only[decide_eq_true_eq]at h1;have hL0:L.length≠0:=by omega
  obtain⟨j,rfl⟩:∃i,j=i+1:=⟨j-1,by omega⟩;rw[Dv.tornGo,if_neg hL0]at hw;dsimp only at hw;have hQ1:Q.Ok (Dv.costM+(8*Dv.fuel+(Dv.costT*j+k))) mm:=hQ.less (by unfold Dv.costT Dv.cost;rw[Nat.mul_succ];omega);have hr:=Dv.room_keep hQ1;refine J.qp (a0E n t l p Q _ mm hQ1 hmm) [1,2,3,4] λ_=>?_;generalize Q.room=W at hw hr ⊢;obtain⟨P,er⟩:=W;dsimp only at hw hr ⊢;refine J.qd (λ_ h2=>?_) λ_ h2=>?_
  ·simp only[bne_iff_ne,ne_eq]at h2;rw[if_pos h2]at hw;refine J.qr [1,2,3,4,5] λ_=>?_;rw[<- hw];exact⟨rfl,rfl⟩
  simp only[bne_eq_false_iff_eq]at h2;rw[if_neg (by rw[h2];decide)]at hw;have htook:=λh0=>Dv.pen_took hr.1 hLd h0 hL0;have hkeep:=Dv.pen_keep hr.1 hLd;refine J.qp (X6 p n t l P _ mm hr.1 A (y8 a') L.length c' L hAr rfl hLm hLd) [1,2,3,4,5] λ_=>?_;have hpb:0<=(P.pen L).2.1/\(P.pen L).2.1<=7:=a0w _ _ _;generalize P.pen L=W at hw htook hkeep hpb ⊢;obtain⟨P',nn,er2⟩:=W;dsimp only at hw htook hkeep hpb ⊢;refine J.qd (λ_ h3=>?_) λ_ h3=>?_
  ·simp only[bne_iff_ne,ne_eq]at h3;rw[if_pos h3]at hw;refine J.qr [1,2,3,4,5] λ_=>?_;rw[<- hw];exact⟨rfl,rfl⟩
  simp only[bne_eq_false_iff_eq]at h3;rw[if_neg (by rw[h3];decide)]at hw;have htk:=htook h3;obtain⟨v,rfl⟩:=Int.eq_ofNat_of_zero_le hpb.1;have hvL:v<=L.length:=by have:=htk.2.1;omega
  rw[Int.toNat_natCast]at hw;refine J.qn 4 λ_=>?_;refine J.v (.slice (y8 (U1 a' 19 v c')) (L.length-v) (c'-v)) rfl rfl (λhg aa w he hw=>V4 tk rfl rfl rfl he rfl rfl rfl rfl rfl hvL) ?_;rw[show L.length-v=(L.drop v).length from by rw[List.length_drop]];refine J.q λ_=>?_;refine J.n ((j,P',L.drop v,U1 a' 19 v c',c'-v)) (⟨by dsimp only;rw[List.length_drop];omega,by dsimp only;rw[List.length_drop];omega,by dsimp only;rw[List.length_drop];omega,a0f ha',λh s=>a9j (hAr h s) rfl hvL hLc,λs hs=>hLd s (List.mem_of_mem_drop hs),hkeep.1,hw⟩) (by dsimp only;omega) [0,1,2,3,4,5]
 ·simp only[decide_eq_false_iff_not]at h1;have hL0:L.length=0:=by omega
  have hz:Dv.tornGo j Q L=(Q,0):=by
   cases j with
   | zero=>rfl
   | succ j=>rw[Dv.tornGo,if_pos hL0]
  refine J.qr [1,2,3,4,5] λ_=>?_;rw[<- hw,hz];exact⟨rfl,rfl⟩
theorem a1m (x:Int):Value.int .u8 (IntKind.u8.wrap x)=bv (u8 x):=by
 have h:IntKind.u8.wrap x=x % 256:=by simp[IntKind.wrap,IntKind.bits,IntKind.signed]
 rw[h,bv,u8];congr 1;have h1:0<=x % 256/\x % 256<256:=⟨Int.emod_nonneg _ (by decide),Int.emod_lt_of_pos _ (by decide)⟩;have h2:(UInt8.ofNat (x % 256).toNat).toNat=(x % 256).toNat:=by
  rw[UInt8.toNat_ofNat'];omega
 rw[h2];omega
def e18 (k s:Int):En:=⟨k,s,1,[u8 k,u8 s,u8 (s/256),7,0,0,0,0,0,0,0,0,0,0,0,0]⟩
theorem T5 (k s:Int):FP 148 [iI k,iI s] [] (Ps (enV (e18 k s)) []):=by
 refine FE [0,0] Tryz.func148 λX F hX=>?_;refine J.qn 9 λ_=>?_;refine J.v (bv (u8 k)) rfl rfl (λhg a w he hs=>by rw[<- a1m k];exact D7 tk rfl rfl he rfl rfl rfl) ?_;refine J.qn 1 λ_=>?_;refine J.v (bv (u8 s)) rfl rfl (λhg a w he hs=>by rw[<- a1m s];exact D7 tk rfl rfl he rfl rfl rfl) ?_;refine J.qn 2 λ_=>?_;rw[show s.fdiv (2^min (Int.toNat 8) IntKind.i64.bits)=s/256 from Int.fdiv_eq_ediv_of_nonneg s (by decide:(0:Int)<=256)];refine J.v (bv (u8 (s/256))) rfl rfl (λhg a w he hs=>by rw[<- a1m (s/256)];exact D7 tk rfl rfl he rfl rfl rfl) ?_;exact J.qx []
def Dv.new (d b p:Nat) (lg:Int):Dv:=⟨Nand.new d b p,Tl.new d b p,Tb.new lg,-1,0,0,1⟩
theorem b6C (d b p:Nat) (h:n8 d b p=true) (k:Nat) (hk:k<=1000000000000000):(Nand.new d b p).Gd k 0:=by
 have h0:=Nand.Gd.new d b p h 0 (by omega);refine⟨h0.ok,?_,?_,h0.nodup,h0.few⟩
 ·show(0:Int)+(k:Int)<_;omega
 ·show(0:Int)+(k:Int)<_;omega
theorem Dv.Ok.new (d b p:Nat) (lg:Int) (h:n8 d b p=true) (k:Nat) (hk:k<=1000000000000000):(Dv.new d b p lg).Ok k 0:=
 ⟨b6C d b p h k hk,⟨rfl,rfl,rfl,by show(List.replicate b Sb.zero).length=b;simp⟩,Tb.Ok.new lg,λx hx=>by simp[Dv.new,Tb.new]at hx,by show(0:Int)<=0/\(0:Int)<=8;omega,by show(1:Int)<=1/\(1:Int)<=1099511627776;omega⟩
theorem b0E (d b p:Nat) (h:n8 d b p=true) (lg:Int):FP 147 [.agg #[iI d,iI b,iI p],iI lg] []
  (λv As=>∃n t l q,v= .tuple #[pp n,pp t,pp l,pp q]/\As=DvP q n t l (Dv.new d b p lg)):=by
 refine FE [0,0] Tryz.func147 λX F hX=>?_;refine J.qc (a3l d b p h) [] λ_=>?_;rintro v As ⟨n,rfl,rfl⟩;refine⟨_,rfl,trivial,?_⟩;refine J.qc (a8e d b p h) [] λ_=>?_;rintro v As ⟨t,rfl,rfl⟩;refine⟨_,rfl,trivial,?_⟩;refine J.qc (a8h lg) [] λ_=>?_;rintro v As ⟨l,rfl,rfl⟩;refine⟨_,rfl,trivial,?_⟩;refine J.qc (b2l n t l 1 (by decide) (Nand.new d b p) (Tl.new d b p) (Tb.new lg)) [] λ_=>?_;rintro v As ⟨q,rfl,rfl⟩;refine⟨_,rfl,trivial,?_⟩;refine J.qr [5,2,3,4] λ_=>?_;exact⟨n,t,l,q,rfl,rfl⟩
namespace Inv
variable {fd : Int} {S : Dv} {k m : Nat}
theorem free_iff (h:Inv fd S) (hO:S.Ok k m) {b:Int} (hb:S.t.has b=true):y9 S.t S.T b=S.t.blank b/\(S.t.blank b=true->(b !=S.op)=true):=by
 have hu:=h.usable hO hb;unfold y9;rw[hu,Bool.true_and];have hop:S.t.blank b=true->(b !=S.op)=true:=λhbl=>by
  simp only[Tl.blank,Bool.and_eq_true,Bool.not_eq_true']at hbl;rw[bne_iff_ne];intro e;rcases h.op with e2 | e2
  ·have:=(Tl.has_iff.1 hb).1;omega
  ·have:=e2.used;rw[<- e,hbl.2]at this;cases this
 refine⟨?_,hop⟩;cases hbl:S.t.blank b with
 | false=>rfl
 | true=>
  rw[Bool.true_and,beq_iff_eq];simp only[Tl.blank,Bool.and_eq_true,Bool.not_eq_true']at hbl;rw[hO.T.cnt];unfold Tb.cntB;have:(S.T.at_.countP λx=>x.2.block==b)=0:=by
   rw[List.countP_eq_zero];intro x hx hxb;simp only[beq_iff_eq]at hxb;have hlk:Tb.look S.T.at_ x.1=some x.2:=a6d hO.T hx;have:=(h.st _ _ hlk).used;rw[hxb,hbl.2]at this;cases this
  rw[this];rfl
end Inv
namespace SeqI
variable {D B P rows : Nat} {S : Dv} {k m : Nat} {l : List En}
end SeqI
namespace Dv
end Dv
theorem a8q (N:Nand) (d b r:Int):N.pageAt d b r=N.pageAt (d.toNat:Int) b r:=by unfold Nand.pageAt;rw[Int.toNat_natCast]
namespace TornR
variable {N N' : Nand} {b r kp : Int} {q : List (Int × Sh)} {c : Nat}
end TornR
namespace DscA
variable {C : En → Prop} {N N' : Nand} {Q : Dv} {l : List En} {k m : Nat}
end DscA
theorem Msk.any {D:Nat} {fd m:Int} (h:Msk D (-1) m):Msk D fd m:=⟨h.set,h.lt,λd hd _=>h.all d hd (by omega)⟩
theorem Full.any {fd:Int} {N:Nand} {b r m:Int} {l:List En} (h:Full (-1) N b r m l):Full fd N b r m l:=⟨h.is,λx hx _=>h.good x hx (by have:=h.is.inn x hx;omega),h.inn⟩
theorem Inv.any {fd:Int} {S:Dv} (h:Inv (-1) S) (hn:S.N.plan=[]):Inv fd S:=by
 refine⟨h.lit,λi _=>h.dead i (by omega),λa ha=>(by rw[hn]at ha;cases ha),λi j _=>h.flags i j (by omega),⟨h.tdead.1,λd hd=>?_⟩,λb hb=>⟨(h.tbad b hb).1,λd hd=>?_⟩,?_,h.blank,λi a ha=>?_⟩
 ·have:=h.tdead.2 d hd;obtain⟨x,hx,_⟩:=L.has_rng hd;omega
 ·have:=(h.tbad b hb).2 d hd;obtain⟨x,hx,_⟩:=L.has_rng hd;omega
 ·rcases h.op with e | e
  ·exact .inl e
  ·exact .inr ⟨e.blk,e.used,e.row,e.mask.any,e.cells⟩
 ·have hs:=h.st i a ha;obtain⟨l,g1,g2⟩:=hs.row;exact⟨⟨l,g1.any,g2⟩,hs.used,hs.below,hs.seq⟩
theorem Inv.went1 {fd:Int} {S:Dv} {k m:Nat} (h:Inv fd S) (hO:S.Ok k m) (hl:S.at1.left=true):Went fd S S.at1 0:=by
 unfold Dv.at1 at hl ⊢;split
 ·exact Went.refl h
 ·rename_i hh;rw[if_neg hh]at hl;have hf:S.left=false:=by simpa using hh
  have:=(Dv.left_spec hl).1;exact(h.opens hO hf (by show¬S.pick<0;have:0<=S.pick:=this;omega)).1
namespace Inv
variable {fd : Int} {S : Dv} {k m : Nat} {l : List En}
theorem full (h:Inv fd S) (hO:S.Ok k m) (hr:S.rows=0):S.left=false/\S.pick<0:=by
 have hg:=hO.gd.ok.bd16;unfold Dv.rows at hr;have h1:S.N.pages*S.t.blanks=0:=by omega
 have h2:S.t.blanks=0:=by
  rcases Nat.mul_eq_zero.1 h1 with e | e
  ·omega
  ·exact e
 refine⟨?_,?_⟩
 ·cases hl:S.left with
  | false=>rfl
  | true=>
   have:=Dv.left_spec hl;rw[if_pos (by omega)]at hr;omega
 ·refine Classical.byContradiction λhp=>?_;have:=Tl.blanks_open hO.t.len (Dv.pick_blank hp);omega
end Inv
namespace Tb
theorem put1_keys2 {α β:Type} (k:Int) (v:α) (v':β):∀(l:List (Int×α)) (l':List (Int×β)),l.map (·.1)=l'.map (·.1)->(put1 l k v).map (·.1)=(put1 l' k v').map (·.1)
 | [],[],_=>rfl
 | [],y::l',h=>by cases h
 | x::l,[],h=>by cases h
 | x::l,y::l',h=>by
  simp only[List.map_cons,List.cons.injEq]at h;simp only[put1];rw[h.1];split
  ·simp only[List.map_cons,h.2]
  ·simp only[List.map_cons,h.1,put1_keys2 k v v' l l' h.2]
end Tb
def K6 (W:List (Int×En)) (l:List En) (n:Nat):List (Int×En):=(List.range n).foldl (λW (i:Nat)=>Tb.put1 W (l.getD i En.zero).lpn (l.getD i En.zero)) W
theorem N9 (W:List (Int×En)) (l:List En) (n:Nat):K6 W l (n+1)=Tb.put1 (K6 W l n) (l.getD n En.zero).lpn (l.getD n En.zero):=by unfold K6;rw[List.range_succ,List.foldl_append];rfl
theorem J1 {W:List (Int×En)} {l:List En}:∀n:Nat,(∀i j,i<j->j<n->(l.getD i En.zero).lpn≠(l.getD j En.zero).lpn)->(∀j,j<n->Tb.look (K6 W l n) (l.getD j En.zero).lpn=some (l.getD j En.zero))/\∀i,(∀j,j<n->(l.getD j En.zero).lpn≠i)->Tb.look (K6 W l n) i=Tb.look W i
 | 0,_=>⟨λj hj=>by omega,λi _=>rfl⟩
 | n+1,h=>by
  obtain⟨i1,i2⟩:=J1 (W:=W) n λi j hij hj=>h i j hij (by omega);rw[N9];refine⟨λj hj=>?_,λi hi=>?_⟩
  ·rw[Tb.look_put1]
   by_cases e:j=n
   ·subst e;rw[if_pos rfl]
   ·rw[if_neg (h j n (by omega) (by omega))];exact i1 j (by omega)
  ·rw[Tb.look_put1,if_neg (λe=>hi n (by omega) e.symm)];exact i2 i λj hj=>hi j (by omega)
structure Hd (S:Dv) (W:List (Int×En)):Prop where
 keys:S.T.at_.map (·.1)=W.map (·.1)
 each:∀i e,Tb.look W i=some e->e.data.length=16/\∃a,Tb.look S.T.at_ i=some a/\R.read S.N a.block a.row a.slot a.mask=({e with seq:=a.seq},0)
namespace Hd
variable {fd : Int} {S Q : Dv} {W : List (Int × En)} {k m : Nat} {l : List En}
theorem went (h:Hd S W) (hi:Inv fd S) {β:Nat} (w:Went fd S Q β):Hd Q W:=by
 refine⟨by rw[w.T];exact h.keys,λi e he=>?_⟩;obtain⟨h1,a,h2,h3⟩:=h.each i e he;exact⟨h1,a,by rw[w.T];exact h2,by rw[w.reads i a (hi.st i a h2)];exact h3⟩
theorem none (h:Hd S W) {i:Int} (hi:Tb.look W i= .none):Tb.look S.T.at_ i= .none:=by
 rw[Tb.look_none]at hi ⊢;rw[h.keys];exact hi
theorem wrote (h:Hd Q W) (hQ:Inv fd Q) (hO:Q.Ok k m) (hl:Last fd Q l) (hf:∀e∈l,FitR e) (hlg:∀e∈l,e.lpn<Q.T.logical) (hnd:(l.map (·.lpn)).Nodup):Hd (u0 Q l) (K6 W l (Q.fit l)):=by
 obtain⟨l1,l2⟩:=hl.look hQ hO hf hlg hnd;have hes:=λj (hj:j<Q.fit l)=>hl.seqs hO hj;have hdis:∀i j,i<j->j<Q.fit l->(l.getD i En.zero).lpn≠(l.getD j En.zero).lpn:=λi j hij hj e=>by
  have g1:=(hes j hj).1;have g2:=(hes i (by omega)).1;have:(l.map (·.lpn))[i]? =(l.map (·.lpn))[j]?:=by
   rw[List.getElem?_map,List.getElem?_map,List.getElem?_eq_getElem g1,List.getElem?_eq_getElem g2];rw[List.getD_eq_getElem?_getD,List.getD_eq_getElem?_getD,List.getElem?_eq_getElem g1,List.getElem?_eq_getElem g2]at e;exact congrArg some e
  have:=(List.getElem?_inj (by rw[List.length_map];exact g2) hnd).1 this;omega
 obtain⟨w1,w2⟩:=J1 (W:=W) (l:=l) (Q.fit l) hdis;refine⟨?_,λi e he=>?_⟩
 ·have key:∀n,n<=Q.fit l->(Dv.puts Q.T Q.op Q.row Q.mask (Q.es l) n).at_.map (·.1)=(K6 W l n).map (·.1):=by
   intro n
   induction n with
   | zero=>intro _;exact h.keys
   | succ n ih=>
    intro hn;have hb:=(hes n (by omega));have hin:=I7 hb.1;have hfe:=hf _ hin;have hl2:Tb.look (Dv.puts Q.T Q.op Q.row Q.mask (Q.es l) n).at_ (l.getD n En.zero).lpn=Tb.look Q.T.at_ (l.getD n En.zero).lpn:=by
     have hp:=(a1r (T:=Q.T) (b:=Q.op) (r:=Q.row) (mk:=Q.mask) (es:=Q.es l) n (λj hj=>?_) (λj hj a ha=>?_) (λi j hij hj=>?_)).2
     ·refine hp _ λj hj=>?_;rw[(hes j (by omega)).2.1];exact hdis j n hj (by omega)
     ·rw[(hes j (by omega)).2.1];have hfe:=hf _ (I7 (hes j (by omega)).1);have:=hlg _ (I7 (hes j (by omega)).1);unfold Tb.ok;have e1:decide (({l.getD j En.zero with seq:=Q.next+(j:Int)}:En).lpn<0)=false:=decide_eq_false (by have:=hfe.lpn;show¬(l.getD j En.zero).lpn<0;omega);have e2:decide (({l.getD j En.zero with seq:=Q.next+(j:Int)}:En).lpn>=Q.T.logical)=false:=decide_eq_false (by show¬(l.getD j En.zero).lpn>=Q.T.logical;omega);rw[e1,e2];show(!(false||false||((l.getD j En.zero).role !=1&&(l.getD j En.zero).role !=2&&(l.getD j En.zero).role !=4)))=true;rcases hfe.role with e | ⟨e | e,_⟩<;>rw[e]<;>rfl
     ·rw[(hes j (by omega)).2.1]at ha ⊢;have:=(hQ.st _ a ha).seq;show a.seq<=Q.next+(j:Int);omega
     ·rw[(hes j (by omega)).2.1,(hes i (by omega)).2.1];exact hdis i j hij (by omega)
    have hp:Tb.putB (Dv.puts Q.T Q.op Q.row Q.mask (Q.es l) n) ((Q.es l).getD n En.zero)=true:=by
     have hlog:∀n,(Dv.puts Q.T Q.op Q.row Q.mask (Q.es l) n).logical=Q.T.logical:=by
      intro n
      induction n with
      | zero=>rfl
      | succ n ih=>rw[Dv.puts_succ,Tb.put_logical];exact ih
     rw[hb.2.1];have:=hlg _ hin;have e1:Tb.ok (Dv.puts Q.T Q.op Q.row Q.mask (Q.es l) n) ({l.getD n En.zero with seq:=Q.next+(n:Int)}:En)=true:=by
      unfold Tb.ok;rw[hlog];have e1:decide (({l.getD n En.zero with seq:=Q.next+(n:Int)}:En).lpn<0)=false:=decide_eq_false (by have:=hfe.lpn;show¬(l.getD n En.zero).lpn<0;omega);have e2:decide (({l.getD n En.zero with seq:=Q.next+(n:Int)}:En).lpn>=Q.T.logical)=false:=decide_eq_false (by show¬(l.getD n En.zero).lpn>=Q.T.logical;omega);rw[e1,e2];show(!(false||false||((l.getD n En.zero).role !=1&&(l.getD n En.zero).role !=2&&(l.getD n En.zero).role !=4)))=true;rcases hfe.role with e | ⟨e | e,_⟩<;>rw[e]<;>rfl
     have e2:Tb.elder (Dv.puts Q.T Q.op Q.row Q.mask (Q.es l) n) ({l.getD n En.zero with seq:=Q.next+(n:Int)}:En)=false:=by
      unfold Tb.elder;rw[show({l.getD n En.zero with seq:=Q.next+(n:Int)}:En).lpn=(l.getD n En.zero).lpn from rfl,hl2];cases hh:Tb.look Q.T.at_ (l.getD n En.zero).lpn with
      | none=>rfl
      | some a=>have:=(hQ.st _ a hh).seq;exact decide_eq_false (by show¬(Q.next+(n:Int))<a.seq;omega)
     unfold Tb.putB;rw[e1,e2];rfl
    rw[Dv.puts_succ,N9];unfold Tb.put;rw[if_pos hp];show(Tb.put1 _ _ _).map (·.1)=_;rw[hb.2.1];exact Tb.put1_keys2 _ _ _ _ _ (ih (by omega))
  exact key _ (Nat.le_refl _)
 ·by_cases hex:∃j,j<Q.fit l/\(l.getD j En.zero).lpn=i
  ·obtain⟨j,hj,rfl⟩:=hex;rw[w1 j hj]at he;injection he with he;subst he;refine⟨(hf _ (I7 (hes j hj).1)).len,_,l1 j hj,?_⟩;exact hl.reads hQ hO hj
  ·have hno:∀j,j<Q.fit l->(l.getD j En.zero).lpn≠i:=λj hj e=>hex ⟨j,hj,e⟩;rw[w2 i hno]at he;obtain⟨h1,a,h2,h3⟩:=h.each i e he;refine⟨h1,a,by rw[l2 i hno];exact h2,?_⟩;rw[hl.stay hQ hO hf (hQ.st i a h2)];exact h3
end Hd
theorem a4G (D B P:Nat) (lg:Int):(Dv.new D B P lg).rows=P*B:=by
 unfold Dv.rows;have e1:(Dv.new D B P lg).op= -1:=rfl;have e2:(Dv.new D B P lg).t.blanks=B:=by
  show(List.replicate B Sb.zero).countP _=B;rw[List.countP_replicate];rfl
 have e3:(Dv.new D B P lg).N.pages=P:=rfl;rw[e1,e2,e3,if_neg (by decide)];omega
end Go.Proofs.YtnffkcabeecopaaGreat
