/- Helpers. No condition. -/
import Derived.Test.YtmafiplddapokaaGreatU13
import Derived.Below
import Derived.BigQuiet
import Derived.ChangeOld
import Derived.Deep.AppendLies
import Derived.Deep.DeepCutAuto
import Derived.Deep.DrawnRows
import Derived.Deep.Draws
import Derived.Deep.MidRow
import Derived.Deep.QuietTactic
import Derived.Deep.RegionHeld3
import Derived.Deep.RegionLaw
import Derived.Deep.Slices
import Derived.Deep.Strs
import Derived.Defers
import Derived.JoinedOf
import Derived.Laws.AppendOwn
import Derived.Laws.CopyOwn
import Derived.Laws.MakeOwn
import Derived.Laws.OwnMore
import Derived.Laws.ResultCell
import Derived.Laws.StructEq
import Derived.Lib.Hide
import Derived.Lib.SmallJoins
import Derived.Maps.AppendAt
import Derived.Maps.RangeRun
import Derived.OpenShut
import Derived.ProofKit
import Derived.Shelf.GgSortFunc.InsertionK
import Derived.Shelf.SlLaysF0
import Derived.Shelf.SlSortCmp.WholeK
import Derived.Shelf.Sort.Plain
import Derived.Sort.Grow
import Derived.StillTailTactics
import Derived.WalkKit
import Derived.WalkLawsBesides
import Derived.WalkSpells
import Derived.WideKeyEntry
set_option maxRecDepth 20000
set_option linter.all false
namespace Go.Proofs.YtmafiplddapokaaGreat
section
open Go Go.RowKit
theorem Dv.Ok.fault0 {S:Dv} {k m:Nat} (h:S.Ok k m) (kd x y z n xx:Int) (hk:kd≠1):({S with N:=(S.N.fault kd x y z n xx).2}:Dv).Ok k m:=
 ⟨h.gd.fault0 kd x y z n xx hk,h.t.like (Nand.like_fault _ _ _ _ _ _ _),h.T,h.sl,h.row,h.next⟩
namespace B18
def S0:Dv:=Dv.new 3 8 2 20
def S1:Dv:=(S0.pen [e18 1 1,e18 2 2,e18 3 3]).1
def S2:Dv:=(S1.pen [e18 3 3]).1
def S3:Dv:=(S2.carry 0 2).1
def S4:Dv:={S3 with N:=(S3.N.fault 4 2 0 0 0 0).2}
def S5:Dv:=(S4.step 2).1
def S6:Dv:=S5.room.1
def S7:Dv:=(S6.torn [e18 9 9]).1
theorem h1:(S0.pen [e18 1 1,e18 2 2,e18 3 3]).2=(2,0):=by kernel_rfl
theorem h2:(S1.pen [e18 3 3]).2=(1,0):=by kernel_rfl
theorem h3:(S2.carry 0 2).2=(2,0):=by kernel_rfl
theorem h4:Tb.look S3.T.at_ 1=some ⟨1,0,0,7,4,1⟩:=by kernel_rfl
theorem h5:S3.op=1:=by kernel_rfl
theorem h6:(S4.step 2).2=(1,0):=by kernel_rfl
theorem h7:S5.leftN=2:=by kernel_rfl
theorem h8:S5.N.broken=0:=by kernel_rfl
theorem h9:S5.room.2=0:=by kernel_rfl
theorem h10:(S6.torn [e18 9 9]).2=0:=by kernel_rfl
theorem h11:S7.clear.2=0:=by kernel_rfl
def U:Nat:=10000000000
theorem G0:S0.Ok (10*U) 0:=Dv.Ok.new 3 8 2 20 rfl _ (by decide)
theorem d3:∀s∈[e18 1 1,e18 2 2,e18 3 3],s.data.length=16:=by decide
theorem d1:∀s∈[e18 3 3],s.data.length=16:=by decide
theorem d9:∀s∈[e18 9 9],s.data.length=16:=by decide
theorem G1:S1.Ok (9*U) 0:=(Dv.pen_keep (G0.less (by decide:8*Dv.fuel+9*U<=_)) d3).1
theorem G2:S2.Ok (8*U) 0:=(Dv.pen_keep (G1.less (by decide:8*Dv.fuel+8*U<=_)) d1).1
theorem G3:S3.Ok (7*U) 0:=(Dv.carry_keep (G2.less (by decide:Dv.costC+7*U<=_)) 0 2).1
theorem G4:S4.Ok (7*U) 0:=Dv.Ok.fault0 G3 4 2 0 0 0 0 (by decide)
theorem G5:S5.Ok (6*U) 0:=(Dv.step_keep (G4.less (by decide:Dv.costS+6*U<=_)) 2).1
theorem G6:S6.Ok (5*U) 0:=(Dv.room_keep (G5.less (by decide:Dv.costM+5*U<=_))).1
theorem G7:S7.Ok (4*U) 0:=(Dv.tornGo_keep 1 S6 [e18 9 9] _ (G6.less (by decide:Dv.costT*1+4*U<=_)) d9).1
end B18
end
section
open Go Go.RowKit
open B18
theorem b4X:FP 140 [] [] (Ps (.bool true) []):=by
 refine FE [] Tryz.func140 λX F hX=>?_;refine J.qp (b4W) [] λ_=>?_;exact J.qx []
theorem b4U:FP 89 [] [] (Ps (.bool true) []):=by
 refine FE [] Tryz.func89 λX F hX=>?_;refine J.qc (b4T 3 8 2 rfl 20) [] λ_=>?_;rintro v As ⟨n,t,l,q,rfl,rfl⟩;refine⟨_,rfl,trivial,?_⟩;rw[show Dv.new 3 8 2 20=S0 from rfl];refine J.qF λ_=>?_;refine J.qp (a2F 1 1) [] λ_=>?_;refine J.qp (a2F 2 2) [] λ_=>?_;refine J.qp (a2F 3 3) [] λ_=>?_;refine J.q λbx=>?_;refine J.ca hX (by kernel_rfl) (a3F q n t l S0 (9*U) 0 (G0.less (by decide)) (.pt (bx 0) 101 (n7 [e18 1 1,e18 2 2,e18 3 3])) (some ⟨bx 0,0,none⟩) 3 3 [e18 1 1,e18 2 2,e18 3 3] (a3m _ _ _ _ _ rfl) rfl (by decide) B18.d3) [1,2,3,4,5] 0 rfl rfl rfl rfl rfl rfl (λ_=>rfl) ?_;refine cpq ⟨_,rfl,trivial,?_⟩;rw[show(S0.pen [e18 1 1,e18 2 2,e18 3 3]).1=S1 from rfl,h1];refine J.qp (a2F 3 3) [] λ_=>?_;refine J.q λby_=>?_;refine J.ca hX (by kernel_rfl) (a3F q n t l S1 (8*U) 0 (G1.less (by decide)) (.pt (by_ 0) 101 (n7 [e18 3 3])) (some ⟨by_ 0,0,none⟩) 1 1 [e18 3 3] (a3m _ _ _ _ _ rfl) rfl (by decide) B18.d1) [1,2,3,4,6] 0 rfl rfl rfl rfl rfl rfl (λ_=>rfl) ?_;refine cpq ⟨_,rfl,trivial,?_⟩;rw[show(S1.pen [e18 3 3]).1=S2 from rfl,h2];refine J.qp (a7w n t l q S2 (7*U) 0 (G2.less (by decide)) 0 2) [1,2,3,4] λ_=>?_;rw[show(S2.carry 0 2).1=S3 from rfl,h3];refine J.qp (a5M l S3.T 1) [4] λ_=>?_;rw[h4,j3,a2m];refine J.qp (a2T q n t l S3) [1] λ_=>?_;rw[h5];refine J.qp (a4c n S3.N G3.gd.ok 0 4 2 0 0 0 0) [2] λ_=>?_;rw[show(S3.N.fault 4 2 0 0 0 0).2=S4.N from rfl,show a1W q n t l S3=a1W q n t l S4 from rfl,show S3.t=S4.t from rfl,show S3.T=S4.T from rfl];refine J.qp (b3L n t l q S4 (6*U) 0 (G4.less (by decide)) (by decide) 2) [1,2,3,4] λ_=>?_;rw[show(S4.step 2).1=S5 from rfl,h6];refine J.qp (b4X) [] λ_=>?_;refine J.qp (b3M t l S5 (6*U) 0 G5) [3,4] λ_=>?_;rw[h7];refine J.qp (a7T n S5.N) [2] λ_=>?_;rw[h8];refine J.qp (a4V n t l q S5 (5*U) 0 (G5.less (by decide)) (by decide)) [1,2,3,4] λ_=>?_;rw[show S5.room.1=S6 from rfl,h9];refine J.qp (a2F 9 9) [] λ_=>?_;refine J.q λ_=>?_;refine J.effG hX tk rfl rfl rfl (λ_=>rfl) (by(repeat' (first | exact Conj.nil | refine Conj.cons ?_ ?_ | omega | exact hq0 | (simpa using hq0) | (exactλh=>h) | exact rfl | (intro hq;have hq0:=hq;try simp only[f7,j6,d5,i4,c8]at hq) | (simp;done) | (simp;omega) | decide))) (λ_=>rfl) λbt=>⟨trivial,?_⟩;refine J.q λ_=>?_;refine J.ca hX (by kernel_rfl) (b0B n t l q S6 (4*U) 0 (.pt bt 101 (n7 [e18 9 9])) (some (bt,0)) 1 1 [e18 9 9] (a3m _ _ _ _ _ rfl) rfl (by decide) (by decide) (λh=>by cases h) B18.d9 (G6.less (by decide)) (by decide)) [1,2,3,4,8] 0 rfl rfl rfl rfl rfl rfl (λ_=>rfl) ?_;refine cpq ⟨_,rfl,trivial,?_⟩;rw[show(S6.torn [e18 9 9]).1=S7 from rfl,h10];refine J.qp (a2T q n t l S7) [1] λ_=>?_;refine J.q λ_=>?_;refine J.ca hX (by kernel_rfl) (a4W n t l S7.N S7.t S7.T (3*U) 0 (G7.gd.less (by decide) (i7 _)) (by decide) G7.t S7.op) [2,3,4] 0 rfl rfl rfl rfl rfl rfl (λ_=>rfl) ?_;refine cpq ⟨_,rfl,trivial,?_⟩;rw[show(Dv.clearX S7.N S7.t S7.T S7.op).2.2=0 from h11];exact J.qx []
end
end Go.Proofs.YtmafiplddapokaaGreat
