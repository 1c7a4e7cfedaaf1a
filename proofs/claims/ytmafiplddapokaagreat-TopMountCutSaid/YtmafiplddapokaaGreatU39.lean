/- Helpers. No condition. -/
import Derived.Test.YtmafiplddapokaaGreatU36
import Derived.Test.YtmafiplddapokaaGreatU38
import Derived.Below
import Derived.BigQuiet
import Derived.ChangeOld
import Derived.Deep.AppendLies
import Derived.Deep.DeepCutAuto
import Derived.Deep.DrawnRows
import Derived.Deep.Draws
import Derived.Deep.MidRow
import Derived.Deep.QuietTactic
import Derived.Deep.RegionHeld3
import Derived.Deep.RegionLaw
import Derived.Deep.Slices
import Derived.Deep.Strs
import Derived.Defers
import Derived.JoinedOf
import Derived.Laws.AppendOwn
import Derived.Laws.CopyOwn
import Derived.Laws.MakeOwn
import Derived.Laws.OwnMore
import Derived.Laws.ResultCell
import Derived.Laws.StructEq
import Derived.Lib.Hide
import Derived.Lib.SmallJoins
import Derived.Maps.AppendAt
import Derived.Maps.RangeRun
import Derived.OpenShut
import Derived.ProofKit
import Derived.Shelf.GgSortFunc.InsertionK
import Derived.Shelf.SlLaysF0
import Derived.Shelf.SlSortCmp.WholeK
import Derived.Shelf.Sort.Plain
import Derived.Sort.Grow
import Derived.StillTailTactics
import Derived.WalkKit
import Derived.WalkLawsBesides
import Derived.WalkSpells
import Derived.WideKeyEntry
set_option maxRecDepth 20000
set_option linter.all false
namespace Go.Proofs.YtmafiplddapokaaGreat
open Go Go.RowKit
theorem DevW.desk0 {D B P n:Nat} {F:Fv} {c:Nat->List UInt8} {K K':Nat->List UInt8->Prop} (h:DevW D B P F n c K) (hL:F.L=[]) (hk:∀i:Nat,i<lgN D B P->K' i (c i)):DevW D B P F n c K':=by
 obtain⟨W,hW,hc,_⟩:=h.fc;exact⟨⟨W,hW,hc,λi hi=>by have:=hc i hi;rw[hL]at this;rw[this];exact hk i hi⟩,h.ok,h.nx,h.br,h.geo,h.le⟩
theorem CtI.less {D B P n k i:Nat} {K:Nat->List UInt8->Prop} {N:Nand} (h:CtI D B P n i K N) (hk:k<=n):CtI D B P k i K N:=by
 obtain⟨c,h1,h2⟩:=h;refine⟨c,h1,?_⟩;split at h2
 ·rename_i hi;rw[d8 hi];exact h2.imp (λh=>h.mono (i7 _) (i7 _) hk) λh=>h.mono (i7 _) (i7 _) hk
 ·rename_i hi;rw[d6 hi];exact h2.imp (λh=>h.mono (i7 _) (i7 _) hk) λh=>h.mono (i7 _) (i7 _) hk
theorem DevD.ok_flush {D B P u n:Nat} {c:Nat->List UInt8} {K:Nat->List UInt8->Prop} {Z:Fv} (h:DevD D B P u (n+200) c K Z):Z.Ok (Fv.cW*200+0) 0:=h.ok.less (by rw[a2u];have:=a5x;omega)
theorem b5Z (f p n t l d:Nat) {D B P k:Nat} {Z:Fv} {c0:Nat->List UInt8} (c:Int) (hc:0<=c/\c<=100000) (h:DevC D B P 0 (400+k) Z c0 λ_ _=>True):
  FP 31 [pp f,iI c] (FvP f p n t l d Z) (λv As=>∃Y,v= .bool true/\(DevC D B P (lgN D B P+(D-2)) k Y (λj=>a0R (c+j)) (λ_ _=>True)/\Y.L=[])/\As=FvP f p n t l d Y):=by
 have hlg:=h.w.lg2;have hUN:UN=Fv.cW+1:=rfl;have hg:=h.w.ok.dv.gd.ok.bd16;rw[h.w.geo.1]at hg;refine b8L f p n t l d Z c hc (lgN D B P) 0 (by omega) (by decide) (λi Y=>DevC D B P i (200-i+200+k) Y (λj=>if j<i then a0R (c+j)else c0 j) λ_ _=>True) (λY=>DevC D B P (lgN D B P+(D-2)) k Y (λj=>a0R (c+j)) (λ_ _=>True)/\Y.L=[]) ?_ (λi Y hY=>⟨hY.w.lgF,hY.w.ok.dv.gd.ok⟩) (λi Y hY hi=>?_) λY hY=>?_
 ·have:=h.less (k:=200-0+200+k) (by omega);exact⟨this.w.congr λi _=>by rw[d6 (by omega)],this.cnt,this.len,λ_ _=>trivial⟩
 ·have hY:DevC D B P i ((200-(i+1)+200+k)+1) Y _ _:=hY.less (by omega);have hok:=hY.w.ok.less (k':=UN) (by rw[H3];omega);obtain⟨F',w1,w2,_⟩:=hY.waits (by omega) (e:=⟨i,0,1,a0R (c+i)⟩) (a7q (c+i)) ⟨K9 _,Int.ofNat_lt.2 hi⟩ ⟨⟨⟨K9 _,by show(i:Int)<=65535;omega⟩, .inl rfl,a7q _⟩,by show(1:Int)≠4;decide⟩ (λ_ _ _=>trivial);rw[show Y.write i (a0R (c+i))=Y.waits ⟨i,0,1,a0R (c+i)⟩from rfl,w1];exact⟨hok,rfl,w2.w.congr λj _=>by
   dsimp only
   by_cases e:j=i
   ·rw[d8 (by omega),d8 (by omega),e]
   ·rw[d6 (by omega)]
    by_cases e2:j<i
    ·rw[d8 e2,d8 (by omega)]
    ·rw[d6 e2,d6 (by omega)],w2.cnt,w2.len,λ_ _=>trivial⟩
 ·have hY:DevC D B P (lgN D B P) (k+200) Y _ _:=hY.less (by omega);have hok:=hY.w.ok.less (k':=Fv.cW*200+0) (by rw[a2u];have:=a5x;omega);obtain⟨F',w1,w2,w3,_⟩:=hY.flush (by omega);rw[w1];exact⟨hok,rfl,⟨w2.w.congr λj hj=>d8 hj,w2.cnt,w2.len,λ_ _=>trivial⟩,w3⟩
theorem a8N (g0 g1 g2 ff kk:Int) (A:Atom) (ao:Option Addr) (no co:Nat) (xs:List Int) (hA:Rd A ao 1 no (xs.flatMap λx=>[Value.int .i64 x])) (hlo:xs.length=no) (hdo:∀x∈xs,-9223372036854775808<=x/\x<=9223372036854775807):
  FP 6 [.agg #[iI g0,iI g1,iI g2],iI ff,iI kk, .slice ao no co] [A] (Ps (.bool true) [A]):=by
 rw[b2l]at hA;have hs:=a5N ff (k:=60) (by decide);refine FE [0,0,0,0] Tryz.func6 λX F hX=>?_;refine J.q λ_=>?_;refine J.qp (b6a) [] λ_=>?_;refine J.qF λ_=>?_;refine J.q λ_=>?_;refine J.qc (b2x g0 g1 g2) [] λ_=>?_;rintro v As ⟨D,B,P,n,f,p,t,l,d,Z,rfl,hD,hB,hP,rfl,rfl⟩;refine⟨_,rfl,trivial,?_⟩;have hgb:=b9y hD hB hP;have hZ:DevC D B P 0 200000 (Fv.of (Dv.new D B P (lgN D B P))) (λ_=>zeros16) (λ_ _=>True):=by
  refine⟨DevW.new hD hB hP hgb.2.1 hgb.2.2 (by simp[O8];omega) λ_ _=>trivial,?_,j7 _,λ_ _=>trivial⟩;show _+0<=(D-1)*(Dv.new D B P (lgN D B P)).rows+0;rw[a9k,O0 P];exact i7 _
 generalize Fv.of (Dv.new D B P (lgN D B P))=Z at hZ ⊢;refine J.qc (b5Z f p n t l d 0 (by decide) (hZ.less (k:=400+100000) (by decide))) [3,4,5,6,7,8] λ_=>?_;rintro v As ⟨Y,rfl,⟨hY,hYL⟩,rfl⟩;refine⟨_,rfl,trivial,?_⟩;refine J.qF λ_=>?_;have hlb:=Fv.lg_bd (F:=Y) hY.w.ok.dv.gd.ok;rw[hY.w.lgF]at hlb;refine J.qp (a4P ff 60 (by decide)) [] λ_=>?_;refine J.qp (a4P kk 33 (by decide)) [] λ_=>?_;refine J.qp (a6t n Y.S.N (T5 ff 60) (T5 kk 33)) [5] λ_=>?_;obtain⟨K,hK⟩:∃K:Nat->List UInt8->Prop,K=λ(j:Nat) (x:List UInt8)=>x=a0R (2000+(j:Int))\/x=a0R (j:Int):=⟨_,rfl⟩;have hY0:DevC D B P (lgN D B P+(D-2)) 90000 Y (λj=>a0R (0+(j:Int))) K:=(show DevC D B P (lgN D B P+(D-2)) 100000 Y _ K from⟨hY.w.desk0 hYL λi _=>by rw[hK,Int.zero_add];exact .inr rfl,hY.cnt,hY.len,λi _=>by rw[hK,Int.zero_add];exact .inr rfl⟩).less (by decide);have hZ0:=DevD.cut hY0 (T5 ff 60) (T5 kk 33) (by omega);obtain⟨Z1,hZ1⟩:∃Z1,Y.setN (Y.S.N.setCut (T5 ff 60) (T5 kk 33))=Z1:=⟨_,rfl⟩;rw[hZ1]at hZ0;refine J.turn1 [3,4,5,6,7,8] rfl (As:=FvP f p n t l d Z1) (λh s=>by rw[<- hZ1];exact s) rfl ?_;refine J.q λ_=>?_;refine J.l (α:=(Nat×Fv)) (λz=>z.1<=lgN D B P/\∃c,DevD D B P (lgN D B P+(D-2)+z.1) (90000-z.1) c K z.2) (λz=>[si 12 z.1,sp 11 f,sp 10 n,sv 3 (.slice ao no co)]) [3,4,5,6,7,8] (λz=>FvP f p n t l d z.2) (λz=>lgN D B P-z.1) ((0,Z1)) (⟨j7 _,_,hZ0⟩) λz hI=>?_;obtain⟨i,Z2⟩:=z;dsimp only at hI ⊢;obtain⟨hi,c2,hZ2⟩:=hI;refine J.qp (a1a f n t l p d Z2 hZ2.ok.dv.gd.ok) [3,5] λ_=>?_;rw[hZ2.lg];refine J.qd (λ_ h1=>?_) λ_ h1=>?_
 ·simp only[d5,i5]at h1;have hZ3:=hZ2.less (k:=(90000-(i+1))+1) (by omega);have hk1:Z2.Ok (Fv.cW+(1+0)) 0:=hZ3.ok.less (k':=UN) (by rw[H3];omega);have w1:=hZ3.write (by omega) (i:=i) h1 (a7q (2000+i)) (by rw[hK];exact .inl rfl) (by omega);refine J.qp (a6W (2000+i) (by omega)) [] λ_=>?_;refine J.qp (a3M f p n t l d Z2 0 0 hk1 (by decide) i (a0R (2000+i)) rfl) [3,4,5,6,7,8] λ_=>?_;refine J.q λ_=>?_;refine J.n ((i+1,(Z2.write i (a0R (2000+i))).1)) (⟨by dsimp only;omega,_,by rw[Nat.add_assoc]at w1;exact w1⟩) (by dsimp only;omega) [0,1,2,3,4,5,6,7,8]
 simp only[c8,i5]at h1;obtain rfl:i=lgN D B P:=by omega
 have hZ3:=hZ2.less (k:=80000+200) (by omega);have hk2:Z2.Ok (Fv.cW*200+0) 0:=hZ3.ok_flush;have f1:CtI D B P 80000 0 K Z2.flush.1.S.N:=by
  obtain⟨c',e1,e2⟩:=hZ3.flush (by omega);exact⟨c',e1,by rw[d8 rfl];exact e2⟩
 refine J.qp (a5k f p n t l d Z2 0 0 hk2 (by decide)) [3,4,5,6,7,8] λ_=>?_;generalize Z2.flush.1=Z4 at f1 ⊢;refine J.q λ_=>?_;refine J.l (α:=(Nat×Nand)) (λz=>(z.1<=no/\z.1<=8)/\CtI D B P (80000-3000*z.1) z.1 K z.2) (λz=>[si 13 z.1,sp 10 n,sv 3 (.slice ao no co)]) [5] (λz=>[B8 n z.2]) (λz=>no-z.1) ((0,Z4.S.N)) (⟨⟨j7 _,j7 _⟩,f1.less (by dsimp only;omega)⟩) λz hI=>?_;obtain⟨i,N⟩:=z;dsimp only at hI ⊢;obtain⟨⟨hi1,hi2⟩,hN⟩:=hI;refine J.qd (λ_ h2=>?_) λ_ h2=>?_
 ·simp only[f7,d5,i5]at h2;obtain⟨h2,h3⟩:=h2;have h3:i<8:=by omega
  obtain⟨x,hx⟩:∃x,xs[i]? =some x:=⟨_,c9 (by omega)⟩;have hxd:=hdo x (j8 hx);refine J.know (p:=∃g o,ao=some ⟨g,o,none⟩) (λh' s=>Rd.addr (hA _ (s.get (i:=1) rfl)) (by omega)) λhk=>?_;obtain⟨gm,om,rfl⟩:=hk;have hs1:=a5N x (k:=40) (by decide);refine J.qp (a6t n N (-1) 0) [5] λ_=>?_;refine J.qp (b4O n (N.setCut (-1) 0)) [5] λ_=>?_;have hs2:=a5N (x.tdiv 3) (k:=33) (by decide);have htn:(x.tdiv 3).natAbs=x.natAbs/3:=Int.natAbs_tdiv x 3;have ht1: -9223372036854775808<=x.tdiv 3:=by omega
  have ht2:x.tdiv 3<=9223372036854775807:=by omega
  refine J.pq (.of [0,4,8,12,17,24,28,32,37,40,22,46,50]) [] [1] λ_ _=>?_;refine J.qn 5 λ_=>?_;refine J.vT (iI x) rfl rfl (λhg aa w he hC=>a4X tk rfl rfl he rfl rfl rfl (hA _ (hC rfl _ (B6 (i:=1) rfl))) (by omega) (j:=i) (by omega) (a3h hx)) ?_;refine J.qn 4 λ_=>?_;refine J.vT (iI x) rfl rfl (λhg aa w he hC=>a4X tk rfl rfl he rfl rfl rfl (hA _ (hC rfl _ (B6 (i:=1) rfl))) (by omega) (j:=i) (by omega) (a3h hx)) ?_;refine J.qp (a4P x 40 (by decide)) [] λ_=>?_;refine J.qp (a4P (x.tdiv 3) 33 (by decide)) [] λ_=>?_;refine J.qp (a6t n N.cyc (T5 x 40) (T5 (x.tdiv 3) 33)) [5] λ_=>?_;refine J.q λ_=>?_;have hoff:(N.cyc.setCut (T5 x 40) (T5 (x.tdiv 3) 33)).off=false:=by
   obtain⟨cn,hc⟩:=f9 hs1.1;rw[hc,a4w (N:=N.cyc) rfl];rfl
  rcases Nat.mod_two_eq_zero_or_one i with hp | hp
  ·obtain⟨w1,w2⟩:=CtI.one (n:=80000-3000*(i+1)) (hN.less (by omega)) hp (T5 x 40) (T5 (x.tdiv 3) 33) (by omega);have hpm:((i:Int).tmod 2==1)=false:=by rw[l8,X5 (by omega)];omega
   generalize N.cyc.setCut (T5 x 40) (T5 (x.tdiv 3) 33)=N3 at w1 w2 hoff ⊢;refine J.q λ_=>?_;refine J.ca hX (by kernel_rfl) (a0N n N3 _ 0 w1 (by decide) hoff) [5] 0 rfl rfl rfl rfl rfl rfl (λ_=>rfl) ?_;rintro v As (⟨_,f2,p2,t2,l2,d2,rfl,rfl⟩ | ⟨_,rfl,rfl⟩)
   ·refine⟨_,rfl,trivial,?_⟩;refine J.turn1 [5,9,10,11,12,13] rfl (As:=[B8 n (G9 N3).1.N]) (λh s=>Sep.one (s.get (i:=2) rfl)) rfl ?_;refine J.qn 7 λ_=>?_;rw[hpm];refine J.q λ_=>?_;refine J.gcase hX rfl rfl rfl stq (λhb=>by simp at hb) (λhb=>?_);refine J.q λ_=>?_;refine J.v (.bool false) rfl rfl (λhg a w he hs=>by simp[G.on]at hg) ?_;refine J.qF λ_=>?_;refine J.q λ_=>?_;refine J.n ((i+1,(G9 N3).1.N)) (⟨⟨by dsimp only;omega,by dsimp only;omega⟩,w2⟩) (by dsimp only;omega) [0,1,2,3,4,5,6,7,8]
   ·refine⟨_,rfl,trivial,?_⟩;refine J.qn 7 λ_=>?_;rw[hpm];refine J.q λ_=>?_;refine J.gcase hX rfl rfl rfl stq (λhb=>by simp at hb) (λhb=>?_);refine J.q λ_=>?_;refine J.v (.bool false) rfl rfl (λhg a w he hs=>by simp[G.on]at hg) ?_;refine J.qF λ_=>?_;refine J.q λ_=>?_;refine J.n ((i+1,(G9 N3).1.N)) (⟨⟨by dsimp only;omega,by dsimp only;omega⟩,w2⟩) (by dsimp only;omega) [0,1,2,3,4,5,6,7,8]
  ·obtain⟨w1,N2,w2,w3,w4,w5⟩:=CtI.two (n:=80000-3000*(i+1)) (hN.less (by omega)) hp (T5 x 40) (T5 (x.tdiv 3) 33) (by omega);have hpm:((i:Int).tmod 2==1)=true:=by rw[A4,X5 (by omega)];omega
   generalize N.cyc.setCut (T5 x 40) (T5 (x.tdiv 3) 33)=N3 at w1 w2 hoff ⊢;refine J.q λ_=>?_;refine J.ca hX (by kernel_rfl) (a0N n N3 _ 0 w1 (by decide) hoff) [5] 0 rfl rfl rfl rfl rfl rfl (λ_=>rfl) ?_;rintro v As (⟨_,f2,p2,t2,l2,d2,rfl,rfl⟩ | ⟨_,rfl,rfl⟩)
   ·refine⟨_,rfl,trivial,?_⟩;refine J.turn1 [5,9,10,11,12,13] rfl (As:=[B8 n N2]) (λh s=>Sep.one (by rw[<- w2];exact s.get (i:=2) rfl)) rfl ?_;refine J.qn 7 λ_=>?_;rw[hpm];refine J.q λ_=>?_;refine J.ca hX (by kernel_rfl) (a4Q n N2 _ 0 w3 (by decide) w4) [5] 0 rfl rfl rfl rfl rfl rfl (λ_=>rfl) ?_;rintro v As ⟨f3,p3,t3,l3,d3,rfl,rfl⟩;refine⟨_,rfl,trivial,?_⟩;refine J.qF λ_=>?_;refine J.q λ_=>?_;refine J.n ((i+1,(G9 N2.cyc).1.N)) (⟨⟨by dsimp only;omega,by dsimp only;omega⟩,w5⟩) (by dsimp only;omega) [0,1,2,3,4,15,6,7,8]
   ·rw[w2];refine⟨_,rfl,trivial,?_⟩;refine J.qn 7 λ_=>?_;rw[hpm];refine J.q λ_=>?_;refine J.ca hX (by kernel_rfl) (a4Q n N2 _ 0 w3 (by decide) w4) [5] 0 rfl rfl rfl rfl rfl rfl (λ_=>rfl) ?_;rintro v As ⟨f3,p3,t3,l3,d3,rfl,rfl⟩;refine⟨_,rfl,trivial,?_⟩;refine J.qF λ_=>?_;refine J.q λ_=>?_;refine J.n ((i+1,(G9 N2.cyc).1.N)) (⟨⟨by dsimp only;omega,by dsimp only;omega⟩,w5⟩) (by dsimp only;omega) [0,1,2,3,4,10,6,7,8]
 clear h2;obtain⟨a1,a2,c,a3,a4⟩:=(hN.less (k:=50000+1000) (by omega)).whole;refine J.q λ_=>?_;refine J.ca hX (by kernel_rfl) (a4Q n N _ 0 a1 (by decide) a2) [5] 0 rfl rfl rfl rfl rfl rfl (λ_=>rfl) ?_;rintro v As ⟨f3,p3,t3,l3,d3,rfl,rfl⟩;refine⟨_,rfl,trivial,?_⟩;have hYL:(Fv.of (G9 N.cyc).1).L=[]:=rfl;generalize Fv.of (G9 N.cyc).1=V at a3 hYL ⊢;refine J.qF λ_=>?_;refine J.qc (b3j f3 p3 n t3 l3 d3 V _ 0 a3.ok) [5,9,10,11,12,13] λ_=>?_;rintro v As ⟨aa,ca,rfl,rfl⟩;rw[Fv.all_of a3.lgF λ_ hi=>a3.read hi];dsimp only;refine⟨_,rfl,trivial,?_⟩;obtain⟨Q,hQ⟩:∃Q,(List.range (lgN D B P)).map c=Q:=⟨_,rfl⟩;have hQl:Q.length=lgN D B P:=by rw[<- hQ];simp
 rw[hQ,hQl];refine J.q λ_=>?_;refine J.l (α:=Nat) (λi=>i<=lgN D B P) (λi=>[si 16 i,si 15 0,sv 14 (slv aa (lgN D B P) ca),sp 10 n]) [] (λi=>[]) (λi=>lgN D B P-i) (0) (j7 _) λi hI=>?_;refine J.qd (λ_ h4=>?_) λ_ h4=>?_
 ·simp only[d5,i5]at h4;have hx:Q[i]? =some (c i):=by rw[<- hQ,i9,I4 h4];rfl
  have hxc:c i=a0R (2000+(i:Int))\/c i=a0R (i:Int):=by have:=a4 i h4;rw[hK]at this;exact this
  refine J.know (λh' s=>D1 (c:=(aa,ca)) (by omega) (s.get (i:=14) rfl)) λhg=>?_;obtain⟨ga,rfl⟩:=hg;generalize c i=y at hx hxc;refine J.pq (.of [0,4,8,13,16,22,24,28,32,36,40,45,48,52,58,60,64]) [] [14] λ_ _=>?_;refine J.qn 4 λ_=>?_;refine J.vT (a5t y) rfl rfl (λhg aa2 w he hC=>J8 tk rfl rfl he rfl rfl rfl (hC rfl _ (B6 (i:=14) rfl)) (by rw[show 0+(i:Int).toNat*16=i*16 from by omega];exact a1n I3 16 (λ_=>rfl) Q i _ hx) rfl) ?_;refine J.qp (a6W i (by omega)) [] λ_=>?_
  by_cases e:y=a0R i
  ·subst e;refine J.vT (.bool false) rfl rfl (λhg aa2 w he hC=>(a2z (xs:=I3 (a0R i)) (ys:=I3 (a0R i)) rfl rfl rfl he rfl rfl a1g (a0f _) (a0f _) mkD gdD).trans (by rw[eqD _ _ rfl rfl,i6 rfl];rfl)) ?_;refine J.q λ_=>?_;refine J.vT (a5t (a0R 0)) rfl rfl (λhg aa w he hC=>by simp[G.on]at hg) ?_;refine J.q λ_=>?_;refine J.gcase hX rfl rfl rfl stq (λhb=>by simp at hb) (λhb=>?_);refine J.vT (.bool false) rfl rfl (λhg aa w he hC=>by simp[G.on]at hg) ?_;refine J.qF λ_=>?_;refine J.q λ_=>?_;refine J.n (i+1) (h4) (by omega) [0,1,2,3,4,5,6,7,8,9,10,11,12,13,14]
  ·obtain rfl:=hxc.resolve_right e;refine J.vT (.bool true) rfl rfl (λhg aa2 w he hC=>(a2z (xs:=I3 (a0R (2000+i))) (ys:=I3 (a0R i)) rfl rfl rfl he rfl rfl a1g (a0f _) (a0f _) mkD gdD).trans (by rw[eqD _ _ rfl rfl,n8 e];rfl)) ?_;refine J.q λ_=>?_;refine J.vT (a5t (a0R (2000+i))) rfl rfl (λhg aa2 w he hC=>J8 tk rfl rfl he rfl rfl rfl (hC rfl _ (B6 (i:=14) rfl)) (by rw[show 0+(i:Int).toNat*16=i*16 from by omega];exact a1n I3 16 (λ_=>rfl) Q i _ hx) rfl) ?_;refine J.qp (a6W (2000+i) (by omega)) [] λ_=>?_;refine J.vT (.bool false) rfl rfl (λhg aa2 w he hC=>(a2z (xs:=I3 (a0R (2000+i))) (ys:=I3 (a0R (2000+i))) rfl rfl rfl he rfl rfl a1g (a0f _) (a0f _) mkD gdD).trans (by rw[eqD _ _ rfl rfl,i6 rfl];rfl)) ?_;refine J.qF λ_=>?_;refine J.q λ_=>?_;refine J.n (i+1) (h4) (by omega) [0,1,2,3,4,5,6,7,8,9,10,11,12,13,14]
 have b0:CtI D B P 50000 0 (λj x=>x=c j) V.S.N:=CtI.rest (a3.desk0 hYL λ_ _=>rfl) hYL (λ_ _=>rfl) rfl;obtain⟨b1',b2',c3,b3',b4'⟩:=(b0.less (k:=40000+1000) (by decide)).whole;refine J.q λ_=>?_;refine J.ca hX (by kernel_rfl) (a4Q n V.S.N _ 0 b1' (by decide) b2') [10] 0 rfl rfl rfl rfl rfl rfl (λ_=>rfl) ?_;rintro v As ⟨f4,p4,t4,l4,d4,rfl,rfl⟩;refine⟨_,rfl,trivial,?_⟩;generalize Fv.of (G9 V.S.N.cyc).1=V2 at b3' ⊢;refine J.qF λ_=>?_;refine J.qc (b3j f4 p4 n t4 l4 d4 V2 _ 0 b3'.ok) [10,15,16,17,18,19] λ_=>?_;rintro v As ⟨ab,cb,rfl,rfl⟩;rw[Fv.all_of b3'.lgF λ_ hi=>b3'.read hi];dsimp only;refine⟨_,rfl,trivial,?_⟩;have hQ3:(List.range (lgN D B P)).map c3=Q:=by
  rw[<- hQ];exact W1 λj hj=>b4' j (List.mem_range.1 hj)
 rw[hQ3,hQl];refine J.q λ_=>?_;refine J.l (α:=Nat) (λj=>j<=lgN D B P) (λj=>[si 19 j,si 18 0,sv 17 (slv ab (lgN D B P) cb),sv 14 (slv aa (lgN D B P) ca),sp 10 n]) [] (λj=>[]) (λj=>lgN D B P-j) (0) (j7 _) λj hI=>?_;refine J.qd (λ_ h5=>?_) λ_ h5=>?_
 ·simp only[f7,d5,i5]at h5;have h5:=h5.1;obtain⟨y,hx⟩:∃y,Q[j]? =some y:=⟨_,c9 (by omega)⟩;have hyl:y.length=16:=by
   rw[<- hQ,i9,I4 h5]at hx;injection hx with hx;have:=a4 j h5;rw[hK]at this;rw[<- hx];rcases this with e | e<;>rw[e]<;>rfl
  refine J.know (λh' s=>D1 (c:=(aa,ca)) (by omega) (s.get (i:=14) rfl)) λhg=>?_;obtain⟨ga,rfl⟩:=hg;refine J.know (λh' s=>D1 (c:=(ab,cb)) (by omega) (s.get (i:=20) rfl)) λhg=>?_;obtain⟨gb,rfl⟩:=hg;refine J.pq (.of [0,4,8,13,16,20,24,29,32]) [] [14,20] λ_ _=>?_;refine J.qn 4 λ_=>?_;refine J.vT (a5t y) rfl rfl (λhg aa2 w he hC=>J8 tk rfl rfl he rfl rfl rfl (hC rfl _ (B6 (i:=14) rfl)) (by rw[show 0+(j:Int).toNat*16=j*16 from by omega];exact a1n I3 16 (λ_=>rfl) Q j _ hx) rfl) ?_;refine J.qn 4 λ_=>?_;refine J.vT (a5t y) rfl rfl (λhg aa2 w he hC=>J8 tk rfl rfl he rfl rfl rfl (hC rfl _ (B6 (i:=20) rfl)) (by rw[show 0+(j:Int).toNat*16=j*16 from by omega];exact a1n I3 16 (λ_=>rfl) Q j _ hx) rfl) ?_;refine J.vT (.bool false) rfl rfl (λhg aa2 w he hC=>(a2z (xs:=I3 y) (ys:=I3 y) rfl rfl rfl he rfl rfl a1g (a0f _) (a0f _) mkD gdD).trans (by rw[eqD _ _ hyl hyl,i6 rfl];rfl)) ?_;refine J.qF λ_=>?_;refine J.q λ_=>?_;refine J.n (j+1) (h5) (by omega) [0,1,2,3,4,5,6,7,8,9,10,11,12,13,14,15,16,17,18,19,20]
 refine J.q λ_=>?_;rw[show(((0:Int)==0)&&((lgN D B P:Int)==(lgN D B P:Int)))=true from by simp];refine J.qp (a7T n V2.S.N) [16] λ_=>?_;rw[b3'.br];exact J.qx [1]
theorem a0v {a b:Bool} (ha:a=true) (hb:b=true):(a&&b)=true:=by rw[ha,hb];rfl
theorem b5c {P:Program} {f:FuncId} {fn:Func} {s:ChangeSpec} {c:OpenClaim} (k0:(c.wf (OpenSpec.ofChange s))=true) (k1:(laidOutB P)=true) (k2:(mapsRowed P)=true) (k3:(fn.params.all (P.readableRec ·))=true) (k4:(namedTie P c.named s.vars)=true) (k5:(c.stops==[])=true) (k6:(P.stops==[])=true) (k7:(c.knobs==[])=true) (k8:(P.stopKnobs==[])=true) (k9:(c.inPlace==P.inPlace f)=true) (k10:(c.unfollowed==P.unfollowed f)=true) (k11:(c.recurses==P.recurses f)=true) (k12:(c.named==P.varsNamed f)=true) (k13:(c.maps==(fn.params.toList++s.plain.varTypes P).any (P.mapsRec ·))=true) (k14:(c.ifaces==(fn.params.toList++s.plain.varTypes P).any (P.ifacesRec ·))=true) (k15:(c.mapsOut==P.mapsAmong fn.resultTypes.toList)=true) (k16:(c.loops==(fn.params.toList++s.plain.varTypes P).any (P.loopsFrom ·))=true) (k17:(c.wideKeys==(fn.params.toList++s.plain.varTypes P++fn.resultTypes.toList).any (P.wideKeysFrom ·))=true) (k18:(s.vars.all (P.varReadable ·))=true) (k19:(fn.resultTypes.all (λt=>P.readableRec t&&decide (t<P.types.size)))=true) (k20:(c.ifacesOut==fn.resultTypes.toList.any (P.ifacesRec ·))=true) (k21:(c.loopsOut==fn.resultTypes.toList.any (P.loopsFrom ·))=true) (k22:(c.plainKeys==P.plainKeys)=true) (k23:(c.shortTexts.isNone)=true) (k24:(P.stopsHeard)=true) (k25:(P.mayEnter)=true) (k26:(c.lifted==P.liftsFinal)=true) (k27:(P.make==some c.make)=true) (k28a:c.domain.isEmpty=true) (k28:(c.kinds==[])=true) (k29:(c.pinned==c.pinnedBy)=true) (k30:(c.veiled==(fn.params.toList++s.plain.varTypes P++fn.resultTypes.toList).any (P.veiledRec ·))=true) (k31:(c.veiledFits P fn.params.toList (fn.params.toList++s.plain.varTypes P++fn.resultTypes.toList))=true):joinedFacts P f fn s c=true:=by
 unfold joinedFacts;rw[d8 k28a];exact(a0v (a0v (a0v (a0v (a0v (a0v (a0v (a0v (a0v (a0v (a0v (a0v (a0v (a0v (a0v (a0v (a0v (a0v (a0v (a0v (a0v (a0v (a0v (a0v (a0v (a0v (a0v (a0v (a0v (a0v (a0v k0 k1) k2) k3) k4) k5) k6) k7) k8) k9) k10) k11) k12) k13) k14) k15) k16) k17) k18) k19) k20) k21) k22) k23) k24) k25) k26) k27) k28) k29) k30) k31)
theorem b2W:laidOutB Tryz.prog=true:=by kernel_rfl
theorem b9C:mapsRowed Tryz.prog=true:=by kernel_rfl
theorem b9B:(Tryz.prog.stops==[])=true:=by kernel_rfl
theorem b9D:(Tryz.prog.stopKnobs==[])=true:=by kernel_rfl
theorem b9E:Tryz.prog.stopsHeard=true:=by kernel_rfl
theorem b9F:Tryz.prog.mayEnter=true:=by kernel_rfl
end Go.Proofs.YtmafiplddapokaaGreat
