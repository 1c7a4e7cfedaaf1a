/- Helpers. No condition. -/
import Derived.Test.YtnffkcabeecopaaGreatRows
import Derived.Test.YtnffkcabeecopaaGreatW04
import Derived.Test.YtnffkcabeecopaaGreatW12
import Derived.Test.YtnffkcabeecopaaGreatW14
import Derived.Test.YtnffkcabeecopaaGreatW16
import Derived.Test.YtnffkcabeecopaaGreatW18
import Derived.JoinedOf
set_option maxRecDepth 20000
set_option linter.all false
namespace Go.Proofs.YtnffkcabeecopaaGreat
open Go Go.RowKit
theorem MSl.m1_of {y z:MSl} (ha:y.a1=z.a1) (hc:y.c1=z.c1) (hv:y.v.may=z.v.may):y.m1=z.m1:=by unfold MSl.m1;rw[ha,hc,hv]
theorem MSl.m2_of {y z:MSl} (ha:y.a2=z.a2) (hc:y.c2=z.c2) (hv:y.v.ever=z.v.ever):y.m2=z.m2:=by unfold MSl.m2;rw[ha,hc,hv]
theorem MSl.map_m1 {Z:List MSl} {k:Nat} {z y:MSl} (hz:Z[k]? =some z) (h:y.m1=z.m1):(Z.set k y).map MSl.m1=Z.map MSl.m1:=by rw[List.map_set,h];exact a2T (by rw[List.getElem?_map,hz];rfl)
theorem MSl.map_m2 {Z:List MSl} {k:Nat} {z y:MSl} (hz:Z[k]? =some z) (h:y.m2=z.m2):(Z.set k y).map MSl.m2=Z.map MSl.m2:=by rw[List.map_set,h];exact a2T (by rw[List.getElem?_map,hz];rfl)
theorem b1t {α:Type} {f:α->α} {V Y:List α} {k:Nat} {x:α} (h:Y=(V.take k).map f++V.drop k) (hk:k<V.length) (hx:Y[k]? =some x):Y.set k (f x)=(V.take (k+1)).map f++V.drop (k+1):=by
 have hl:((V.take k).map f).length=k:=by simp;omega
 have hv:V.drop k=V[k]::V.drop (k+1):=List.drop_eq_getElem_cons hk;have he:x=V[k]:=by
  rw[h,List.getElem?_append_right (by omega),hl,Nat.sub_self,hv,List.getElem?_cons_zero]at hx;injection hx with hx;exact hx.symm
 rw[h,hv,List.set_append_right _ _ (by omega),hl,Nat.sub_self,List.set_cons_zero,List.take_succ_eq_append_getElem hk,List.map_append,List.append_assoc,he];rfl
def Mv.cut1 (v:MPv):MPv:={v with op:=true}
theorem b6p (q g:Nat) (Z:List MSl) (hn:Z.length<=65536):FP 49 [pp q] (a6t q g Z) (λv As=>∃Z',v= .tuple #[]/\As=a6t q g Z'/\Z'.map (·.v)=Mv.cut (Z.map (·.v))):=by
 refine FE [2] Tryz.func49 λX F hX=>?_;refine J.qF λ_=>?_;refine J.q λ_=>?_;refine J.l (α:=(Nat×List MSl)) (λz=>z.1<=Z.length/\z.2.length=Z.length/\z.2.map MSl.m1=Z.map MSl.m1/\z.2.map MSl.m2=Z.map MSl.m2/\z.2.map (·.v)=((Z.map (·.v)).take z.1).map Mv.cut1++(Z.map (·.v)).drop z.1) (λz=>[si 10 z.1,si 9 Z.length,⟨0,pp q,2, .tt⟩]) [2] (λz=>[.pt g 170 (z.2.flatMap MSl.cells)]) (λz=>Z.length-z.1) ((0,Z)) (⟨Nat.zero_le _,rfl,rfl,rfl,rfl⟩) λz hI=>?_;obtain⟨k,Y⟩:=z;dsimp only at hI ⊢;obtain⟨hk,hYl,hY1,hY2,hY⟩:=hI;refine J.qd (λ_ h1=>?_) λ_ h1=>?_
 ·simp only[decide_eq_true_eq,Int.ofNat_lt]at h1;obtain⟨z,hz⟩:∃z,Y[k]? =some z:=⟨_,List.getElem?_eq_getElem (by omega)⟩;have hstep:(Y.set k ⟨Mv.cut1 z.v,z.a1,z.c1,z.a2,z.c2⟩).map (·.v)=((Z.map (·.v)).take (k+1)).map Mv.cut1++(Z.map (·.v)).drop (k+1):=by
   rw[List.map_set];exact b1t hY (by simpa using h1) (by rw[List.getElem?_map,hz];rfl)
  refine J.qn 16 λ_=>?_;refine J.s1 2 ((Y.set k ⟨Mv.cut1 z.v,z.a1,z.c1,z.a2,z.c2⟩).flatMap MSl.cells) ?_ ?_ ?_
  ·show 0+(k:Int).toNat*19+16<_;rw[MSl.flat_len];omega
  ·rw[show 0+(k:Int).toNat*19+16=k*19+16 from by omega];exact x7 MSl.cells 19 MSl.cells_len 16 (y:=⟨Mv.cut1 z.v,z.a1,z.c1,z.a2,z.c2⟩) _ hz (by omega) rfl
  refine J.q λ_=>?_;refine J.n ((k+1,Y.set k ⟨Mv.cut1 z.v,z.a1,z.c1,z.a2,z.c2⟩)) (⟨by dsimp only;omega,by dsimp only;rw[List.length_set];exact hYl,(MSl.map_m1 (y:=⟨Mv.cut1 z.v,z.a1,z.c1,z.a2,z.c2⟩) hz (MSl.m1_of rfl rfl rfl)).trans hY1,(MSl.map_m2 (y:=⟨Mv.cut1 z.v,z.a1,z.c1,z.a2,z.c2⟩) hz (MSl.m2_of rfl rfl rfl)).trans hY2,hstep⟩) (by dsimp only;omega) [0,1,2,3,4]
 simp only[decide_eq_false_iff_not,Int.ofNat_lt]at h1;obtain rfl:k=Z.length:=by omega
 refine J.q λ_=>?_;refine J.f [1,2,3,4] ?_;refine⟨Y,rfl,?_,?_⟩
 ·unfold a6t;rw[hYl,hY1,hY2];rfl
 ·rw[hY,List.take_of_length_le (by simp),List.drop_eq_nil_of_le (by simp),List.append_nil];rfl
theorem Fv.allG_keep {k m:Nat}:∀(n:Nat) (i:Int) (Z:Fv),Z.Ok k m->(Fv.allG n i Z).1.Ok k m
 | 0,_,_,h=>h
 | n+1,i,Z,h=>by
  rw[Fv.allG_succ];split
  ·exact(Fv.read_keep h i).1
  ·exact Fv.allG_keep n (i+1) _ (Fv.read_keep h i).1
theorem Fv.all_keep {Z:Fv} {k m:Nat} (h:Z.Ok k m):Z.all.1.Ok k m:=by
 unfold Fv.all;split
 ·exact Fv.allG_keep _ _ _ h
 ·exact Fv.allG_keep _ _ _ h
namespace B21
def d1 (n:UInt8):List UInt8:=n::List.replicate 15 0
def N0:Nand:=Nand.new 3 8 2
def F0:Fv:=Fv.of (u0 N0).1
def F1:Fv×Int:=F0.write 1 (d1 7)
def F2:Fv×Int:=F1.1.trim 2
def F3:Fv×Int:=F2.1.write 3 zd
def F4:Fv×List UInt8×Int:=F3.1.read 1
def F5:Fv×Int:=F4.1.flush
def F6:Fv:=F5.1.setN (F5.1.S.N.setCut (-1) 0)
def F7:Fv×List UInt8×Int:=F6.read 1
def N8:Nand:=F7.1.S.N.onN
def F8:Fv:=Fv.of (u0 N8).1
def F9:Fv×List UInt8×Int:=F8.read 1
def Fa:Fv×List (List UInt8)×Int:=F9.1.all
def P0:Pv:=Pv.new 3 8 2 []
def s1:Stp:=⟨2,0,d1 9,0,0,dF⟩
def s2:Stp:=⟨1,0,zd,0,0,dF⟩
def Z1:Fv:=((F0.setN F0.S.N).write 0 (d1 9)).1
def Z2:Fv:=((Z1.setN Z1.S.N).read 0).1
def Z3:Fv:=((Z2.setN Z2.S.N)).flush.1
theorem m0:(u0 N0).2=0:=by kernel_rfl
theorem v1:F1.2=0:=by kernel_rfl
theorem v2:F2.2=0:=by kernel_rfl
theorem v3:F3.2=3:=by kernel_rfl
theorem v4:F4.2.2=0:=by kernel_rfl
theorem w4:F4.2.1=d1 7:=by kernel_rfl
theorem v5:F5.2=0:=by kernel_rfl
theorem v7:F7.2.2=9:=by kernel_rfl
theorem m8:(u0 N8).2=0:=by kernel_rfl
theorem v9:F9.2.2=0:=by kernel_rfl
theorem w9:F9.2.1=d1 7:=by kernel_rfl
theorem va:Fa.2.1.length=3:=by kernel_rfl
theorem wa:Fa.2.2=0:=by kernel_rfl
theorem z0:P0.Z=some F0:=by kernel_rfl
theorem e1:(P0.step s1).2.err=0:=by kernel_rfl
theorem z1:(P0.step s1).1.Z=some Z1:=by kernel_rfl
def P1:Pv:=(P0.step s1).1
theorem e2:(P1.step s2).2.data=d1 9:=by kernel_rfl
theorem z2:(P1.step s2).1.Z=some Z2:=by kernel_rfl
def P2:Pv:=(P1.step s2).1
theorem z3:(P2.step flS).1.Z=some Z3:=by kernel_rfl
theorem pL1:P1.L=[]:=by kernel_rfl
theorem pl1:P1.log.length=1:=by kernel_rfl
theorem pL2:P2.L=[]:=by kernel_rfl
theorem lg2:P2.log.length=2:=by kernel_rfl
theorem t3:decide ((Z3.ticks 50).2>=0)=true:=by kernel_rfl
theorem lgA:Fa.1.lg=3:=by kernel_rfl
def M0:List MPv:=Mv.new 2
def M1:List MPv:=Mv.cut (Mv.write M0 0 (d1 1))
theorem q1:Mv.may M1 0 zd=true:=by kernel_rfl
theorem q2:Mv.may M1 0 (d1 1)=true:=by kernel_rfl
theorem q3:Mv.may M1 0 (d1 2)=false:=by kernel_rfl
def K (j:Nat):Nat:=(20-j)*10000000000000
theorem ok0:F0.Ok (K 0) 0:=Fv.of_ok (a3p (a6u 3 8 2 rfl _ (by decide))).1 (by decide)
theorem ok1:F1.1.Ok (K 1) 0:=(Fv.write_keep (ok0.less (k':=Fv.cW+(1+K 1)) (by decide)) 1 rfl).1
theorem ok2:F2.1.Ok (K 2) 0:=(Fv.trim_keep (ok1.less (k':=Fv.cW+(1+K 2)) (by decide)) 2).1
theorem ok3:F3.1.Ok (K 3) 0:=(Fv.write_keep (ok2.less (k':=Fv.cW+(1+K 3)) (by decide)) 3 rfl).1
theorem ok4:F4.1.Ok (K 4) 0:=(Fv.read_keep (ok3.less (k':=K 4) (by decide)) 1).1
theorem ok5:F5.1.Ok (K 5) 0:=(Fv.flush_keep (ok4.less (k':=Fv.cW*200+K 5) (by decide))).1
theorem ok6:F6.Ok (K 5) 0:=ok5.setN (Nand.like_cut _ _ _) (ok5.dv.gd.cut (-1) 0 (by decide) (by decide))
theorem ok7:F7.1.Ok (K 5) 0:=(Fv.read_keep ok6 1).1
theorem g8:N8.Gd (Dv.costK+K 6) 0:=(ok7.dv.gd.less (by decide) (Nat.le_refl 0)).on
theorem ok8:F8.Ok (K 6) 0:=Fv.of_ok (a3p g8).1 (by decide)
theorem ok9:F9.1.Ok (K 6) 0:=(Fv.read_keep ok8 1).1
theorem oka:Fa.1.Ok (K 6) 0:=Fv.all_keep ok9
theorem okz1:Z1.Ok (K 1) 0:=(Fv.write_keep ((ok0.setN (Nand.Like.refl _) ok0.dv.gd).less (k':=Fv.cW+(1+K 1)) (by decide)) 0 rfl).1
theorem okz2:Z2.Ok (K 1) 0:=(Fv.read_keep (okz1.setN (Nand.Like.refl _) okz1.dv.gd) 0).1
theorem okz2o:Z2.S.N.off=false:=by kernel_rfl
end B21
end Go.Proofs.YtnffkcabeecopaaGreat
namespace Go.Proofs.YtnffkcabeecopaaGreat
open Go Go.RowKit
theorem M4 (q n:Nat) (A:Pad) (P:Pv) (Z:Fv) (hZ:P.Z=some Z):T9 q n A P=[PlQ q n (some Z) A.f (pp A.fp) (slv A.a2 P.log.length A.c2), .pt A.fp 176 [.slice (A4 A.a) P.L.length A.c],rdA (A4 A.a) 7 P.L.length (f9 P.L),c9 50 17 A.a2 P.log.length A.c2 (A9 P.log)]++FvP A.f A.p n A.t A.l A.d Z:=by unfold T9 a0k;rw[hZ];rfl
theorem a2D {Z:List MSl} {M:List MPv} (h:Z.map (·.v)=M) (hM:∀v∈M,v.now.length=16/\(∀x∈v.may,x.length=16)/\(∀x∈v.ever,x.length=16)/\v.may.length<=1000/\v.ever.length<=1000):∀z∈Z,z.Fine:=λz hz=>hM z.v (by rw[<- h];exact List.mem_map.2 ⟨z,hz,rfl⟩)
theorem b0o:FP 51 [] [] (Ps (.bool true) []):=by
 refine FE [] Tryz.func51 λX F hX=>?_;refine J.qp (b0n) [] λ_=>?_;exact J.qx []
open B21
theorem b0l:FP 11 [] [] (Ps (.bool true) []):=by
 have G0:N0.Gd (Dv.costK+0) 0:=a6u 3 8 2 rfl _ (by decide);refine FE [] Tryz.func11 λX F hX=>?_;refine J.qc (a4L 3 8 2 rfl) [] λ_=>?_;rintro v As ⟨n,rfl,rfl⟩;refine⟨_,rfl,trivial,?_⟩;rw[show Nand.new 3 8 2=N0 from rfl];refine J.qc (Y6 n N0 0 0 G0 (by decide) rfl) [1] λ_=>?_;rintro v As (⟨_,f,p,t,l,d,rfl,rfl⟩ | ⟨he,rfl,rfl⟩)
 rotate_left
 ·exact absurd m0 he
 refine⟨_,rfl,trivial,?_⟩;rw[show Fv.of (u0 N0).1=F0 from rfl];refine J.qF λ_=>?_;refine J.qp (a3D f p n t l d F0 (K 1) 0 (ok0.less (by decide)) (by decide) 1 (d1 7) rfl) [1,2,3,4,5,6] λ_=>?_;rw[show F0.write 1 (d1 7)=F1 from rfl,v1];refine J.qp (a9o f p n t l d F1.1 (K 2) 0 (ok1.less (by decide)) (by decide) 2) [1,2,3,4,5,6] λ_=>?_;rw[show F1.1.trim 2=F2 from rfl,v2];refine J.qp (a3D f p n t l d F2.1 (K 3) 0 (ok2.less (by decide)) (by decide) 3 zd rfl) [1,2,3,4,5,6] λ_=>?_;rw[show F2.1.write 3 zd=F3 from rfl,v3];refine J.qp (a0f f p n t l d F3.1 (K 3) 0 ok3 1) [1,2,3,4,5,6] λ_=>?_;rw[show F3.1.read 1=F4 from rfl,v4,w4];refine J.q λc7=>?_;refine J.cb (a7u f p n t l d F4.1 (K 5) 0 (ok4.less (by decide)) (by decide)) [1,2,3,4,5,6] ?_;refine cpq ⟨_,rfl,trivial,?_⟩;rw[show F4.1.flush=F5 from rfl,v5];refine J.qp (a9d n F5.1.S.N (-1) 0) [3] λ_=>?_;refine J.qp (a0f f p n t l d F6 (K 5) 0 ok6 1) [1,2,3,4,5,6] λ_=>?_;rw[show F6.read 1=F7 from rfl,v7];refine J.q λc10=>?_;refine J.cb (b4K n F7.1.S.N) [3] ?_;refine cpq ⟨_,rfl,trivial,?_⟩;rw[show F7.1.S.N.onN=N8 from rfl];refine J.qc (Y6 n N8 (K 6) 0 g8 (by decide) rfl) [3] λ_=>?_;rintro v As (⟨_,f',p',t',l',d',rfl,rfl⟩ | ⟨he,rfl,rfl⟩)
 rotate_left
 ·exact absurd m8 he
 refine⟨_,rfl,trivial,?_⟩;rw[show Fv.of (u0 N8).1=F8 from rfl];refine J.qp (a0f f' p' n t' l' d' F8 (K 6) 0 ok8 1) [3,9,10,11,12,13] λ_=>?_;rw[show F8.read 1=F9 from rfl,v9,w9];refine J.q λc14=>?_;refine J.cb (b6o 2) [] ?_;rintro v As ⟨mq,mg,MZ,rfl,rfl,hM0⟩;refine⟨_,rfl,trivial,?_⟩;have ml0:MZ.length=2:=by have:=congrArg List.length hM0;rw[List.length_map]at this;exact this
 refine J.qc (b2v mq mg MZ (by omega) (a2D hM0 (by decide)) 0 (d1 1) rfl) [15,16,17,18] λ_=>?_;rintro v As ⟨MZ1,rfl,rfl,hM1⟩;refine⟨_,rfl,trivial,?_⟩;rw[hM0]at hM1;have ml1:MZ1.length=2:=by have:=congrArg List.length hM1;rw[List.length_map]at this;exact this
 refine J.qc (b6p mq mg MZ1 (by omega)) [15,16,17,18] λ_=>?_;rintro v As ⟨MZ2,rfl,rfl,hM2⟩;refine⟨_,rfl,trivial,?_⟩;rw[hM1]at hM2;have hM2:MZ2.map (·.v)=M1:=hM2;have ml2:MZ2.length=2:=by have:=congrArg List.length hM2;rw[List.length_map]at this;exact this
 refine J.q λ_=>?_;refine J.turn1 [] rfl (As:=[rdA none 7 0 (f9 [])]) (λh s=>Sep.one ⟨rfl,λh=>absurd h (by decide)⟩) rfl ?_;refine J.q λ_=>?_;refine J.ca hX (by kernel_rfl) (b1W 3 8 2 rfl (rdA none 7 0 (f9 [])) none 0 0 [] (a5K _ _ _ _) rfl (by decide)) [19] 0 rfl rfl rfl rfl rfl rfl (λ_=>rfl) ?_;rintro v As ⟨q,nn,A0,rfl,hA0,rfl⟩;rw[show Pv.new 3 8 2 []=P0 from rfl]at hA0 ⊢;rw[M4 q nn A0 P0 F0 z0];refine⟨_,rfl,trivial,?_⟩;refine J.q λ_=>?_;have hst1:=a2z q nn A0 P0 hA0 F0 z0 (K 1) 0 (ok0.less (by decide)) (by decide) (by decide) (by decide) s1 rfl;rw[M4 q nn A0 P0 F0 z0]at hst1;refine J.qc (hst1) [20,21,22,23,24,25,26,27,28,29] λ_=>?_;rintro v As ⟨A1,rfl,hA1,rfl⟩;obtain⟨x1,hx1⟩:∃x,(P0.step s1).2=⟨0,x⟩:=⟨(P0.step s1).2.data,by rw[<- e1]⟩;rw[show(P0.step s1).1=P1 from rfl]at hA1 ⊢;rw[M4 q nn A1 P1 B21.Z1 z1,hx1];refine⟨_,rfl,trivial,?_⟩;refine J.q λc18=>?_;have hst2:=a2z q nn A1 P1 hA1 B21.Z1 z1 (K 2) 0 (okz1.less (by decide)) (by rw[pL1];decide) (by rw[pL1];decide) (by rw[pl1];decide) s2 rfl;rw[M4 q nn A1 P1 B21.Z1 z1]at hst2;refine J.qc (hst2) [20,21,22,23,24,25,26,27,28,29] λ_=>?_;rintro v As ⟨A2,rfl,hA2,rfl⟩;obtain⟨x2,hx2⟩:∃x,(P1.step s2).2=⟨x,d1 9⟩:=⟨(P1.step s2).2.err,by rw[<- e2]⟩;rw[show(P1.step s2).1=P2 from rfl]at hA2 ⊢;rw[M4 q nn A2 P2 B21.Z2 z2,hx2];refine⟨_,rfl,trivial,?_⟩;refine J.q λc19=>?_;refine J.cb (b6H f' p' n t' l' d' F9.1 (K 6) 0 ok9) [3,9,10,11,12,13] ?_;rintro v As ⟨aa,ac,rfl,rfl⟩;refine⟨_,rfl,trivial,?_⟩;rw[show F9.1.all=Fa from rfl,va,wa];refine J.q λ_=>?_;have hz2:P2.Z=some B21.Z2:=z2;have hlog:=b6d q nn A2 P2 (by rw[lg2];decide);rw[hz2]at hlog;refine J.qc (hlog) [20,23] λ_=>?_;rintro v As ⟨la,lc,rfl,rfl⟩;refine⟨_,rfl,trivial,?_⟩;refine J.qp (b0o) [] λ_=>?_;refine J.qn 19 λ_=>?_;refine J.v (.bool true) rfl rfl (λhg aa w he hw=>(x5 (xs:=j8 (d1 7)) (ys:=j8 (d1 7)) rfl rfl rfl he hg rfl E5 (B8 _) (B8 _) mkD gdD).trans (by rw[eqD _ _ rfl rfl];simp)) ?_;refine J.qn 20 λ_=>?_;refine J.v (.bool true) rfl rfl (λhg aa w he hw=>(x5 (xs:=j8 (d1 7)) (ys:=j8 (d1 7)) rfl rfl rfl he hg rfl E5 (B8 _) (B8 _) mkD gdD).trans (by rw[eqD _ _ rfl rfl];simp)) ?_;refine J.qp (V3 f n t l p d (F7.1.setN Fa.1.S.N) oka.dv.gd.ok) [1,10] λ_=>?_;rw[show(F7.1.setN Fa.1.S.N).lg=3 from lgA];refine J.qp (a8k mq mg MZ2 (by omega) (a2D hM2 (by decide)) 0 (zd) rfl) [15,16,17,18] λ_=>?_;rw[hM2,q1];refine J.qp (a8k mq mg MZ2 (by omega) (a2D hM2 (by decide)) 0 (d1 1) rfl) [15,16,17,18] λ_=>?_;rw[hM2,q2];refine J.qp (a8k mq mg MZ2 (by omega) (a2D hM2 (by decide)) 0 (d1 2) rfl) [15,16,17,18] λ_=>?_;rw[hM2,q3];refine J.qn 11 λ_=>?_;refine J.v (.bool true) rfl rfl (λhg aa w he hw=>(x5 (xs:=j8 (d1 9)) (ys:=j8 (d1 9)) rfl rfl rfl he hg rfl E5 (B8 _) (B8 _) mkD gdD).trans (by rw[eqD _ _ rfl rfl];simp)) ?_;refine J.q λ_=>?_;have hrest:=b5v q nn A2 P2 hA2 B21.Z2 z2 50 0 0 (okz2.less (by decide)) okz2o (by rw[pL2];decide) (by rw[pL2];decide) (by rw[lg2];decide) B21.Z3 z3;rw[M4 q nn A2 P2 B21.Z2 z2]at hrest;refine J.qc (hrest) [20,21,22,23,24,25,26,27,28,29] λ_=>?_;rintro v As ⟨A3,rfl,_,rfl⟩;refine⟨_,rfl,trivial,?_⟩;rw[t3];refine J.qp (b6J 3 8 2) [] λ_=>?_;rw[show a9x 3 8 2=616 from rfl];refine J.qr [] λ_=>?_;refine⟨?_,rfl⟩;rw[lg2];rfl
end Go.Proofs.YtnffkcabeecopaaGreat
namespace Go.Proofs.YtnffkcabeecopaaGreat
open Go Go.RowKit
theorem a5F (fn n:Int) (f:Fl) (A:Atom):FP 5 [iI fn,iI n,flV f] [A] (Ps (.bool true) [A]):=by
 have hz:(Pv.new 4 9 3 []).Z=some (Fv.of (Dv.new 4 9 3 (lgN 4 9 3))):=by
  show(if(u0 (Nand.new 4 9 3)).2=0 then some (Fv.of (u0 (Nand.new 4 9 3)).1)else none)=_;rw[a4M (Dv.Ok.new 4 9 3 (lgN 4 9 3) (by decide) 0 (by decide))];rfl
 have hD:Dev 4 9 3 (Fv.of (Dv.new 4 9 3 (lgN 4 9 3))) 200000 (λ_=>zeros16):=Dev.new (by decide) (by decide) (by decide) (by decide) (by decide) (by decide);refine FE [0,0,0] Tryz.func5 λX F hX=>?_;refine J.qp (b0l) [] λ_=>?_;refine J.qF λ_=>?_;refine J.q λ_=>?_;refine J.turn1 [] rfl (As:=[c9 34 7 none 0 0 (f9 [])]) (λh s=>Sep.one ⟨rfl,rfl,rfl⟩) rfl ?_;refine J.q λ_=>?_;refine J.ca hX (by kernel_rfl) (b1W 4 9 3 (by decide) (c9 34 7 none 0 0 (f9 [])) none 0 0 [] (D0 _ _ none _ _ _) rfl (by decide)) [3] 0 rfl rfl rfl rfl rfl rfl (λ_=>rfl) ?_;rintro v As ⟨q,nn,A0,rfl,hA0,rfl⟩;rw[M4 q nn A0 _ _ hz];refine⟨_,rfl,trivial,?_⟩;refine J.turn1 [4,5,6,7,8,9,10,11,12,13] rfl (As:=[.hp (HP.of (T9 q nn A0 (Pv.new 4 9 3 [])))]) (λh s=>Sep.packTail [] _ (by rw[M4 q nn A0 _ _ hz];exact s)) rfl ?_;refine J.q λ_=>?_;obtain⟨nb,hnb⟩:∃x,IntKind.i64.wrap ((BitVec.ofInt IntKind.i64.bits n&&& BitVec.ofInt IntKind.i64.bits 7).toNat:Int)=x:=⟨_,rfl⟩;rw[hnb];refine J.q λ_=>?_;refine J.ca hX (by kernel_rfl) (Fn.hp (a2z q nn A0 (Pv.new 4 9 3 []) hA0 _ hz 0 0 (hD.ok.less (Nat.le_trans b5y (Nat.mul_le_mul_left _ (by decide)))) (by decide) (by decide) (by decide) ⟨fn,0,zd,nb,0,f⟩ rfl)) [4] 0 rfl rfl rfl rfl rfl rfl (λ_=>rfl) ?_;rintro _ As ⟨Bs,⟨A1,rfl,_,rfl⟩,rfl⟩;rw[b5l];obtain⟨er,her⟩:∃er:Int,(if 1<=fn/\fn<=7 then 0 else if fn=8/\erB f=true then 0 else 1)=er:=⟨_,rfl⟩;rw[her];refine⟨_,rfl,trivial,?_⟩;refine J.qd (λ_ c1=>?_) λ_ c1=>?_
 ·have hf:fn=1:=beq_iff_eq.1 c1;obtain rfl:er=0:=by rw[<- her,if_pos (by omega)]
  refine J.q λ_=>?_;rw[c1];refine J.qT λ_=>?_;refine J.q λ_=>?_;refine J.v (.bool true) rfl rfl (λhg aa w he hw=>(x5 (xs:=j8 zd) (ys:=j8 zd) rfl rfl rfl he hg hg E5 (B8 _) (B8 _) mkD gdD).trans (by rw[eqD _ _ rfl rfl];simp)) ?_;exact J.qx [1]
 refine J.qd (λ_ c2=>?_) λ_ c2=>?_
 ·have hf:fn=2:=beq_iff_eq.1 c2;obtain rfl:er=0:=by rw[<- her,if_pos (by omega)]
  refine J.q λ_=>?_;rw[c2];refine J.qT λ_=>?_;refine J.q λ_=>?_;refine J.v (.bool true) rfl rfl (λhg aa w he hw=>(x5 (xs:=j8 zd) (ys:=j8 zd) rfl rfl rfl he hg hg E5 (B8 _) (B8 _) mkD gdD).trans (by rw[eqD _ _ rfl rfl];simp)) ?_;exact J.qx [1]
 refine J.qd (λ_ c3=>?_) λ_ c3=>?_
 ·have hf:fn=3:=beq_iff_eq.1 c3;obtain rfl:er=0:=by rw[<- her,if_pos (by omega)]
  refine J.q λ_=>?_;rw[c3];refine J.qT λ_=>?_;refine J.q λ_=>?_;refine J.v (.bool true) rfl rfl (λhg aa w he hw=>(x5 (xs:=j8 zd) (ys:=j8 zd) rfl rfl rfl he hg hg E5 (B8 _) (B8 _) mkD gdD).trans (by rw[eqD _ _ rfl rfl];simp)) ?_;exact J.qx [1]
 refine J.qd (λ_ c4=>?_) λ_ c4=>?_
 ·have hf:fn=4:=beq_iff_eq.1 c4;obtain rfl:er=0:=by rw[<- her,if_pos (by omega)]
  refine J.q λ_=>?_;rw[c4];refine J.qT λ_=>?_;refine J.q λ_=>?_;refine J.v (.bool true) rfl rfl (λhg aa w he hw=>(x5 (xs:=j8 zd) (ys:=j8 zd) rfl rfl rfl he hg hg E5 (B8 _) (B8 _) mkD gdD).trans (by rw[eqD _ _ rfl rfl];simp)) ?_;exact J.qx [1]
 refine J.qd (λ_ c5=>?_) λ_ c5=>?_
 ·have hf:fn=5:=beq_iff_eq.1 c5;obtain rfl:er=0:=by rw[<- her,if_pos (by omega)]
  refine J.q λ_=>?_;rw[c5];refine J.qT λ_=>?_;refine J.q λ_=>?_;refine J.v (.bool true) rfl rfl (λhg aa w he hw=>(x5 (xs:=j8 zd) (ys:=j8 zd) rfl rfl rfl he hg hg E5 (B8 _) (B8 _) mkD gdD).trans (by rw[eqD _ _ rfl rfl];simp)) ?_;exact J.qx [1]
 refine J.qd (λ_ c6=>?_) λ_ c6=>?_
 ·have hf:fn=6:=beq_iff_eq.1 c6;obtain rfl:er=0:=by rw[<- her,if_pos (by omega)]
  refine J.q λ_=>?_;rw[c6];refine J.qT λ_=>?_;refine J.q λ_=>?_;refine J.v (.bool true) rfl rfl (λhg aa w he hw=>(x5 (xs:=j8 zd) (ys:=j8 zd) rfl rfl rfl he hg hg E5 (B8 _) (B8 _) mkD gdD).trans (by rw[eqD _ _ rfl rfl];simp)) ?_;exact J.qx [1]
 refine J.qd (λ_ c7=>?_) λ_ c7=>?_
 ·have hf:fn=7:=beq_iff_eq.1 c7;obtain rfl:er=0:=by rw[<- her,if_pos (by omega)]
  refine J.q λ_=>?_;refine J.v (.bool true) rfl rfl (λhg aa w he hw=>(x5 (xs:=j8 zd) (ys:=j8 zd) rfl rfl rfl he hg hg E5 (B8 _) (B8 _) mkD gdD).trans (by rw[eqD _ _ rfl rfl];simp)) ?_;exact J.qx [1]
 refine J.q λ_=>?_;have hn:¬(1<=fn/\fn<=7):=by
  simp only[beq_eq_false_iff_ne]at c1 c2 c3 c4 c5 c6 c7;omega
 rw[if_neg hn]at her;refine J.qd (λ_ c8=>?_) λ_ c8=>?_
 ·refine J.qc (b6z) [] λ_=>?_;rintro _ As ⟨q6,rfl,cs6,hg6,rfl⟩;refine⟨_,rfl,trivial,?_⟩;refine J.p (.of [0,5,8,12,17,22,24,28,32,37,40,44,48,53,56,60,64,68]) [17] [2,14] λ_=>?_;refine J.qc (b3u q6 cs6 hg6 f) [15] λ_=>?_;rintro _ As ⟨rfl,cs7,rfl⟩;refine⟨_,rfl,stq,?_⟩;refine J.r hX tk 400 (λ_=>rfl) (λ_=>?_) (λ_=>by(repeat' (first | exact Conj.nil | refine Conj.cons ?_ ?_ | exact rfl | assumption | (rw[Bool.not_eq_true'];assumption) | exact Bool.and_eq_true_iff.2 ⟨by first | assumption | (rw[Bool.not_eq_true'];assumption),by first | assumption | (rw[Bool.not_eq_true'];assumption)⟩ | intro hq | (simp;done) | (simp;omega) | decide)));refine J.qr [1] λ_=>?_;refine⟨congrArg Value.bool ?_,rfl⟩;have hf:fn=8:=beq_iff_eq.1 c8;rw[hf]at her;cases hb:erB f with
  | true=>rw[hb,if_pos ⟨rfl,rfl⟩]at her;rw[<- her];rfl
  | false=>rw[hb,if_neg (by simp)]at her;rw[<- her];rfl
 have h8:¬fn=8:=beq_eq_false_iff_ne.1 c8;obtain rfl:er=1:=by rw[<- her,if_neg (λh=>h8 h.1)]
 exact J.qx [1]
end Go.Proofs.YtnffkcabeecopaaGreat
namespace Go.Proofs.YtnffkcabeecopaaGreat
open Go Go.RowKit
open Go.ChangeShapes Go.WideShapes Go.ChangeAt
section
variable {H : Type} {enc : TypeId × Value → H} {w : World} {base : Nat} {spare : Nat → Bool} {held : Bool}
set_option maxRecDepth 100000 in
theorem b7v {fuel:Nat} {cs:List Value} {y:DataW H×List MemPlace} (h:DataW.trod enc Tryz.prog w base spare held fuel 34 cs=some y):∃x:Fl,cs=flC x:=by
 obtain⟨xs,n,_,_,hl,hlen,hf⟩:=DataW.trod_struct Tryz.underlying34 h;have hlen2:cs.length=7:=hl.trans (by kernel_rfl);have hx:xs.length=5:=hlen;have c1:Tryz.prog.cellsOf 3=1:=by kernel_rfl
 have c3:Tryz.prog.cellsOf 32=3:=by kernel_rfl
 match xs,hx with
 | [y0,y1,y2,y3,y4],_=>
  have h0:DataW.trod enc Tryz.prog w base spare held n 3 ((cs.drop 0).take (Tryz.prog.cellsOf 3))=some y0:=hf 0 _ rfl;have h1:DataW.trod enc Tryz.prog w base spare held n 3 ((cs.drop 1).take (Tryz.prog.cellsOf 3))=some y1:=hf 1 _ rfl;have h2:DataW.trod enc Tryz.prog w base spare held n 32 ((cs.drop 2).take (Tryz.prog.cellsOf 32))=some y2:=hf 2 _ rfl;have h3:DataW.trod enc Tryz.prog w base spare held n 3 ((cs.drop 5).take (Tryz.prog.cellsOf 3))=some y3:=hf 3 _ rfl;have h4:DataW.trod enc Tryz.prog w base spare held n 3 ((cs.drop 6).take (Tryz.prog.cellsOf 3))=some y4:=hf 4 _ rfl;rw[c1]at h0 h1 h3 h4;rw[c3]at h2;obtain⟨z0,z1,z2,m,_,_,g0,g1,g2⟩:=Deep.trod_struct3 Tryz.underlying32 h2;simp only[c1]at g0 g1 g2;obtain⟨n0,q0⟩:=U5 Tryz.underlying3 h0;obtain⟨n1,q1⟩:=U5 Tryz.underlying3 h1;obtain⟨n2,q2⟩:=U5 Tryz.underlying3 g0;obtain⟨n3,q3⟩:=U5 Tryz.underlying3 g1;obtain⟨n4,q4⟩:=U5 Tryz.underlying3 g2;obtain⟨n5,q5⟩:=U5 Tryz.underlying3 h3;obtain⟨n6,q6⟩:=U5 Tryz.underlying3 h4;refine⟨⟨n0,n1,n2,n3,n4,n5,n6⟩,?_⟩
  match cs,hlen2 with
  | [_,_,_,_,_,_,_],_=>
   simp at q0 q1 q2 q3 q4 q5 q6;subst q0 q1 q2 q3 q4 q5 q6;rfl
end
end Go.Proofs.YtnffkcabeecopaaGreat
namespace Go.Proofs.YtnffkcabeecopaaGreat
open Go
theorem H7 {a b:Bool} (ha:a=true) (hb:b=true):(a&&b)=true:=by rw[ha,hb];rfl
theorem b0v {P:Program} {f:FuncId} {fn:Func} {s:ChangeSpec} {c:OpenClaim} (k0:(c.wf (OpenSpec.ofChange s))=true) (k1:(laidOutB P)=true) (k2:(mapsRowed P)=true) (k3:(fn.params.all (P.readableRec ·))=true) (k4:(namedTie P c.named s.vars)=true) (k5:(c.stops==[])=true) (k6:(P.stops==[])=true) (k7:(c.knobs==[])=true) (k8:(P.stopKnobs==[])=true) (k9:(c.inPlace==P.inPlace f)=true) (k10:(c.unfollowed==P.unfollowed f)=true) (k11:(c.recurses==P.recurses f)=true) (k12:(c.named==P.varsNamed f)=true) (k13:(c.maps==(fn.params.toList++s.plain.varTypes P).any (P.mapsRec ·))=true) (k14:(c.ifaces==(fn.params.toList++s.plain.varTypes P).any (P.ifacesRec ·))=true) (k15:(c.mapsOut==P.mapsAmong fn.resultTypes.toList)=true) (k16:(c.loops==(fn.params.toList++s.plain.varTypes P).any (P.loopsFrom ·))=true) (k17:(c.wideKeys==(fn.params.toList++s.plain.varTypes P++fn.resultTypes.toList).any (P.wideKeysFrom ·))=true) (k18:(s.vars.all (P.varReadable ·))=true) (k19:(fn.resultTypes.all (λt=>P.readableRec t&&decide (t<P.types.size)))=true) (k20:(c.ifacesOut==fn.resultTypes.toList.any (P.ifacesRec ·))=true) (k21:(c.loopsOut==fn.resultTypes.toList.any (P.loopsFrom ·))=true) (k22:(c.plainKeys==P.plainKeys)=true) (k23:(c.shortTexts.isNone)=true) (k24:(P.stopsHeard)=true) (k25:(P.mayEnter)=true) (k26:(c.lifted==P.liftsFinal)=true) (k27:(P.make==some c.make)=true) (k28a:c.domain.isEmpty=true) (k28:(c.kinds==[])=true) (k29:(c.pinned==c.pinnedBy)=true) (k30:(c.veiled==(fn.params.toList++s.plain.varTypes P++fn.resultTypes.toList).any (P.veiledRec ·))=true) (k31:(c.veiledFits P fn.params.toList (fn.params.toList++s.plain.varTypes P++fn.resultTypes.toList))=true):joinedFacts P f fn s c=true:=by
 unfold joinedFacts;rw[if_pos k28a];exact(H7 (H7 (H7 (H7 (H7 (H7 (H7 (H7 (H7 (H7 (H7 (H7 (H7 (H7 (H7 (H7 (H7 (H7 (H7 (H7 (H7 (H7 (H7 (H7 (H7 (H7 (H7 (H7 (H7 (H7 (H7 k0 k1) k2) k3) k4) k5) k6) k7) k8) k9) k10) k11) k12) k13) k14) k15) k16) k17) k18) k19) k20) k21) k22) k23) k24) k25) k26) k27) k28) k29) k30) k31)
theorem b2Q:laidOutB Tryz.prog=true:=by kernel_rfl
theorem b4X:mapsRowed Tryz.prog=true:=by kernel_rfl
theorem b4W:(Tryz.prog.stops==[])=true:=by kernel_rfl
theorem b4Y:(Tryz.prog.stopKnobs==[])=true:=by kernel_rfl
theorem b4Z:Tryz.prog.stopsHeard=true:=by kernel_rfl
theorem b5a:Tryz.prog.mayEnter=true:=by kernel_rfl
end Go.Proofs.YtnffkcabeecopaaGreat
