/- Helpers, proved here. No condition. -/
import Derived.Test.YtgkpkpbnonmopaaGreatB01
import Derived.Test.YtgkpkpbnonmopaaGreatB25
import Derived.Test.YtgkpkpbnonmopaaGreatB27
import Derived.Test.YtgkpkpbnonmopaaGreatB29
set_option maxRecDepth 20000
set_option linter.all false
namespace Go.Proofs.YtgkpkpbnonmopaaGreat
open Go Go.RowKit
def UN:Nat:=Fv.cW+1
theorem a6a:UN=Dv.costM+8*Dv.fuel+1:=rfl
theorem b4Y:96<=UN:=by
 have:96<=8*Dv.fuel:=by decide
 rw[a6a];omega
theorem W9:Fv.cW*200<=UN*200:=Nat.mul_le_mul_right _ (Nat.le_succ _)
theorem b2f:FI.costW*200<=UN*200:=Nat.mul_le_mul_right _ (Nat.le_succ _)
theorem b4Z:Dv.costK<=UN*402:=by
 have h:Dv.costT*200<=UN*200:=Nat.mul_le_mul_right _ (Nat.le_succ _);have:=b4Y;have h2:Dv.costM<=UN:=by rw[a6a];omega
 unfold Dv.costK;omega
theorem a9M:UN*200000<=1000000000000000:=by decide+kernel
theorem b7b {n:Nat} (h:n<=200000):UN*n<=1000000000000000:=Nat.le_trans (Nat.mul_le_mul_left _ h) a9M
theorem Inv.slots_le {fd:Int} {S:Dv} {k m:Nat} (h:Inv fd S) (hO:S.Ok k m) (hr:0<S.rows):S.slots<=(S.N.dies:Int)-1:=by
 have hg:=hO.gd.ok.bd16;unfold Dv.slots;rcases h.rows_pos hO hr with hl | hp
 ·rw[if_pos hl];have:=(h.opn hl).mask.pos hg.1;omega
 ·split
  ·rename_i hl;have:=(h.opn hl).mask.pos hg.1;omega
  ·rcases S.pick_spec with e | ⟨p1,p2,_,_⟩
   ·omega
   ·have:=(h.msk hO (Tl.has_iff.2 ⟨p1,p2⟩)).pos hg.1;omega
theorem a5S (l:List En) (e:En):1<=(I7 l e).length/\(I7 l e).length<=l.length+1:=by
 unfold I7;rw[List.length_append,List.length_singleton];have:=List.length_filter_le (λx:En=>!(x.lpn==e.lpn)) l;omega
theorem Fv.waits_len {F:Fv} {k m D:Nat} (hO:F.Ok (Fv.cW+k) m) {e:En} (h0:(F.waits e).2=0) (h1:1<=F.S.slots) (hs:F.S.slots<=(D:Int)-1) (hl:F.L.length+1<=D):1<=(F.waits e).1.L.length/\(F.waits e).1.L.length+1<=D:=by
 have hk:=Fv.writes_keep (F:=F.ask) hO.ask;have hl:F.ask.L.length+1<=D:=hl;have h1:1<=F.ask.S.slots:=h1;have hs:F.ask.S.slots<=(D:Int)-1:=hs;unfold Fv.waits at h0 ⊢
 by_cases ho:F.ask.off=true
 ·rw[if_pos ho]at h0;cases h0
 rw[if_neg ho]at h0 ⊢
 by_cases hr:e.lpn<0\/e.lpn>=F.ask.lg
 ·rw[if_pos hr]at h0;cases h0
 rw[if_neg hr]at h0 ⊢
 by_cases hw:(F.ask.L.length:Int)>=F.ask.S.slots
 ·rw[if_pos hw]at h0 ⊢;dsimp only at h0 ⊢
  by_cases he:F.ask.writes.2≠0
  ·rw[if_pos he]at h0;exact absurd h0 he
  ·rw[if_neg he];have h3:=hk.2.2.2 (Decidable.of_not_not he) (by omega);have:=a5S F.ask.writes.1.L {e with seq:=F.ask.writes.1.nx};show 1<=(I7 _ _).length/\(I7 _ _).length+1<=D;omega
 ·rw[if_neg hw];have:=a5S F.ask.L {e with seq:=F.ask.nx};show 1<=(I7 F.ask.L _).length/\(I7 F.ask.L _).length+1<=D;omega
structure Dev (D B P:Nat) (F:Fv) (n:Nat) (c:Nat->List UInt8):Prop where
 fc:∃W,FC W (lgN D B P) F/\∀i:Nat,i<lgN D B P->cur W F.L i=c i
 ok:F.Ok (UN*n) 0
 nx:F.S.next+8000*(n:Int)<=1099000000000
 br:F.S.N.broken=0
 geo:F.S.N.dies=D/\F.S.N.blocks=B/\F.S.N.pages=P
 wt:F.L.length+1<=D
 le:n<=200000
namespace Dev
variable {D B P n : Nat} {F : Fv} {c : Nat → List UInt8}
theorem lg (h:Dev D B P F n c):F.lg=(lgN D B P:Int):=by
 obtain⟨W,hW,_⟩:=h.fc;exact hW.fi.lgn
theorem less (h:Dev D B P F n c) {k:Nat} (hk:k<=n):Dev D B P F k c:=
 ⟨h.fc,h.ok.less (Nat.mul_le_mul_left _ hk),by have:=h.nx;omega,h.br,h.geo,h.wt,by have:=h.le;omega⟩
theorem congr (h:Dev D B P F n c) {c':Nat->List UInt8} (hc:∀i,i<lgN D B P->c i=c' i):Dev D B P F n c':=by
 obtain⟨W,hW,h2⟩:=h.fc;exact⟨⟨W,hW,λi hi=>(h2 i hi).trans (hc i hi)⟩,h.ok,h.nx,h.br,h.geo,h.wt,h.le⟩
theorem read (h:Dev D B P F n c) {i:Nat} (h1:i<lgN D B P):F.read i=(F,c i,0):=by
 obtain⟨W,hW,hc⟩:=h.fc;rw[hW.fi.read,if_neg (by omega),hc i h1]
theorem like (h:Dev D B P F n c) {G:Fv} (hl:F.S.N.Like G.S.N):G.S.N.dies=D/\G.S.N.blocks=B/\G.S.N.pages=P:=
 ⟨hl.dies.trans h.geo.1,hl.blocks.trans h.geo.2.1,hl.pages.trans h.geo.2.2⟩
theorem slots (h:Dev D B P F n c):1<=F.S.slots/\F.S.slots<=(D:Int)-1:=by
 obtain⟨W,hW,_⟩:=h.fc;have hg:=h.ok.dv.gd.ok.bd16;have:=hW.fi.inv.slots_le h.ok.dv (by have:=hW.rows;omega);rw[h.geo.1]at this;exact⟨hW.slots h.ok.dv,this⟩
theorem put (h:Dev D B P F (n+1) c) {e:En} {u:Nat} (hu:e.lpn=(u:Int)) (he:FitR e/\e.role≠4/\e.lpn<(lgN D B P:Int)) (hk:(F.waits e).1.Ok (UN*n) 0):
  (F.waits e).2=0/\Dev D B P (F.waits e).1 n (λj=>if j=u then e.data else c j)/\1<=(F.waits e).1.L.length:=by
 obtain⟨W,hW,hc⟩:=h.fc;have hU:UN*(n+1)=UN*n+UN:=Nat.mul_succ _ _;have hU2:=a6a;have hnx:=h.nx;obtain⟨F',W',r1,r2,r3,_,r5,r6,r7⟩:=hW.waits (k:=UN*n) (h.ok.dv.less (by omega)) (by omega) he;have hs:=h.slots;have hlen:=Fv.waits_len (k:=UN*n) (D:=D) (e:=e) (h.ok.less (by unfold Fv.cW;omega)) (by rw[r1]) hs.1 hs.2 h.wt;rw[r1]at hk hlen ⊢;exact⟨rfl,⟨⟨W',r2,λi hi=>by
  rw[r3,hu,hc i hi]
  by_cases e:i=u
  ·rw[if_pos e,if_pos (by omega)]
  ·rw[if_neg e,if_neg (by omega)]⟩,hk,by dsimp only;omega,r6.trans h.br,h.like r7,hlen.2,by have:=h.le;omega⟩,hlen.1⟩
theorem write (h:Dev D B P F (n+1) c) {i:Nat} (h1:i<lgN D B P) {d:List UInt8} (hd:d.length=16):
  (F.write i d).2=0/\Dev D B P (F.write i d).1 n (λj=>if j=i then d else c j)/\1<=(F.write i d).1.L.length:=by
 have h200:=(Fv.lg_bd (F:=F) h.ok.dv.gd.ok).2;rw[h.lg]at h200;have hU:UN*(n+1)=UN*n+UN:=Nat.mul_succ _ _;exact h.put (e:=⟨(i:Int),0,1,d⟩) (u:=i) rfl ⟨⟨⟨Int.natCast_nonneg i,by show(i:Int)<=65535;omega⟩, .inl rfl,hd⟩,by show(1:Int)≠4;decide,by show(i:Int)<_;omega⟩ (Fv.write_keep (k:=UN*n) (h.ok.less (by unfold UN at hU ⊢;omega)) i hd).1
theorem trim (h:Dev D B P F (n+1) c) {i:Nat} (h1:i<lgN D B P):
  (F.trim i).2=0/\Dev D B P (F.trim i).1 n (λj=>if j=i then zeros16 else c j)/\1<=(F.trim i).1.L.length:=by
 have h200:=(Fv.lg_bd (F:=F) h.ok.dv.gd.ok).2;rw[h.lg]at h200;have hU:UN*(n+1)=UN*n+UN:=Nat.mul_succ _ _;exact h.put (e:=⟨(i:Int),0,2,zeros16⟩) (u:=i) rfl ⟨⟨⟨Int.natCast_nonneg i,by show(i:Int)<=65535;omega⟩, .inr ⟨.inl rfl,rfl⟩,rfl⟩,by show(2:Int)≠4;decide,by show(i:Int)<_;omega⟩ (Fv.trim_keep (k:=UN*n) (h.ok.less (by unfold UN at hU ⊢;omega)) i).1
theorem flush (h:Dev D B P F (n+200) c):F.flush.2=0/\Dev D B P F.flush.1 n c/\F.flush.1.L=[]:=by
 obtain⟨W,hW,hc⟩:=h.fc;have hU:UN*(n+200)=UN*n+UN*200:=Nat.mul_add _ _ _;have hf:=W9;have hf2:=b2f;have hnx:=h.nx;have hk:=(Fv.flush_keep (k:=UN*n) (m:=0) (h.ok.less (by omega))).1;obtain⟨F',W',r1,r2,_,r4,r5,r6,r7,r8⟩:=hW.flush (k:=UN*n) (h.ok.dv.less (by omega)) (by omega);have hg:=h.ok.dv.gd.ok.bd16;rw[h.geo.1]at hg;rw[r1]at hk ⊢;exact⟨rfl,⟨⟨W',r2,λi hi=>by rw[r8,hc i hi]⟩,hk,by dsimp only;omega,r5.trans h.br,h.like r6,by dsimp only;rw[r7];simp only[List.length_nil];omega,by have:=h.le;omega⟩,r7⟩
theorem new (hD:3<=D/\D<=6) (hB:8<=B/\B<=16) (hP:2<=P/\P<=8) (hlg:lgN D B P<=200) (hcap:2*lgN D B P<=(B-5)*(P*(D-2))+1) (hgm:n9 D B P=true):Dev D B P (Fv.of (Dv.new D B P (lgN D B P))) 200000 (λ_=>zeros16):=
 ⟨⟨[],FC.new hD hB hP hlg hcap,λ_ _=>rfl⟩,Fv.of_ok (Dv.Ok.new D B P _ hgm _ a9M) a9M,by show(1:Int)+8000*((200000:Nat):Int)<=_;omega,rfl,⟨rfl,rfl,rfl⟩,by show 0+1<=D;omega,Nat.le_refl _⟩
end Dev
namespace FC
variable {W : List (Int × En)} {lg k m : Nat} {F : Fv}
end FC
namespace Dev
variable {D B P n : Nat} {F : Fv} {c : Nat → List UInt8}
theorem all (h:Dev D B P F n c):F.all=(F,(List.range (lgN D B P)).map c,0):=by
 have:∀k i:Nat,i+k<=lgN D B P->Fv.allG k i F=(F,(List.range k).map (λj:Nat=>c (i+j)),0):=by
  intro k
  induction k with
  | zero=>intro i _;rfl
  | succ k ih=>
   intro i hi;rw[Fv.allG_succ,h.read (by omega)];dsimp only;rw[if_neg (by decide),show(i:Int)+1=((i+1:Nat):Int)from by omega,ih (i+1) (by omega),List.range_succ_eq_map,List.map_cons,List.map_map];dsimp only;refine congrArg (λx=>(F,x,(0:Int))) ?_;rw[Nat.add_zero];refine congrArg _ (List.map_congr_left λj _=>?_);show c (i+1+j)=c (i+(j+1));congr 1;omega
 unfold Fv.all;rw[h.lg,Int.toNat_natCast];have h0:=this (lgN D B P) 0 (by omega);rw[show((0:Nat):Int)=0 from rfl]at h0;rw[h0,if_neg (by simp)];refine congrArg (λx=>(F,x,(0:Int))) (List.map_congr_left λj _=>?_);rw[Nat.zero_add]
end Dev
def Fv.ticksG:Nat->Int->Fv->Fv×Int
 | 0,i,Z=>(Z.whole.1,if Z.whole.2 then i else-1)
 | f+1,i,Z=>if Z.whole.2 then(Z.whole.1,i)else if Z.whole.1.tick.2≠0 then(Z.whole.1.tick.1,-1)else Fv.ticksG f (i+1) Z.whole.1.tick.1
theorem Fv.ticksG_succ (f:Nat) (i:Int) (Z:Fv):Fv.ticksG (f+1) i Z=if Z.whole.2 then(Z.whole.1,i)else if Z.whole.1.tick.2≠0 then(Z.whole.1.tick.1,-1)else Fv.ticksG f (i+1) Z.whole.1.tick.1:=rfl
def a5v (most:Int):Nat:=(min (max most 0) 10000).toNat
def Fv.ticks (Z:Fv) (most:Int):Fv×Int:=Fv.ticksG (a5v most) 0 Z
theorem b4N (f p n t l d:Nat) (Z:Fv) (k m:Nat) (most:Int) (hO:Z.Ok (Dv.costS*a5v most+k) m) (hm:m<=12):FP 106 [pp f,iI most] (FvP f p n t l d Z)
  (λv As=>v=iI (Z.ticks most).2/\As=FvP f p n t l d (Z.ticks most).1):=by
 obtain⟨M,hM⟩:∃M,a5v most=M:=⟨_,rfl⟩;have hMM:min (max most 0) 10000=(M:Int):=by rw[<- hM];unfold a5v;omega
 have hM1:M<=10000:=by omega
 rw[show Z.ticks most=Fv.ticksG M 0 Z from by unfold Fv.ticks;rw[hM]];rw[hM]at hO;refine FE [2,0] Tryz.func106 λX F hX=>?_;refine J.qn 9 λ_=>?_;have e:(if(10000:Int)<if(0:Int)>most then 0 else most then 10000 else if(0:Int)>most then 0 else most)=(M:Int):=by
  rw[<- hMM];split<;>split<;>omega
 rw[e];refine J.q λ_=>?_;refine J.lo (α:=(Nat×Fv)) (λz=>(z.1<=M/\z.2.Ok (Dv.costS*(M-z.1)+k) m/\Fv.ticksG M 0 Z=Fv.ticksG (M-z.1) z.1 z.2)\/(z.1=M+1/\Fv.ticksG M 0 Z=(z.2,-1))) (λz=>[si 11 z.1,⟨10,iI ((M:Int)+1),0, .tt⟩,⟨0,pp f,2, .tt⟩,si 1 M]) [1,2,3,4,5,6] (λz=>FvP f p n t l d z.2) (λz=>M+1-z.1) ((0,Z)) (.inl ⟨Nat.zero_le _,hO,rfl⟩) rfl ?_ (λ_=>rfl) λz hI=>?_
 ·rfl
 obtain⟨j,Y⟩:=z;dsimp only at hI ⊢;refine J.qd (λ_ h1=>?_) λ_ h1=>?_
 ·simp only[decide_eq_true_eq]at h1;obtain⟨hj,hY,hgo⟩:j<=M/\Y.Ok (Dv.costS*(M-j)+k) m/\Fv.ticksG M 0 Z=Fv.ticksG (M-j) j Y:=by
   rcases hI with h | h
   ·exact h
   ·omega
  have hw:=Fv.whole_keep hY;refine J.qp (a8m f p n t l d Y _ m hY) [1,2,3,4,5,6] λ_=>?_;obtain⟨W,hW⟩:∃W,Y.whole=W:=⟨_,rfl⟩;rw[hW]at hw ⊢;obtain⟨Y1,wb⟩:=W;dsimp only at hw ⊢;refine J.qd (λ_ h2=>?_) λ_ h2=>?_
  ·have hr:Fv.ticksG (M-j) j Y=(Y1,(j:Int)):=by
    cases hc:M-j with
    | zero=>show(Y.whole.1,if Y.whole.2 then(j:Int)else-1)=_;rw[hW,if_pos h2]
    | succ c=>rw[Fv.ticksG_succ,hW,if_pos h2]
   refine J.qr [1,2,3,4,5,6] λ_=>?_;rw[hgo,hr];exact⟨rfl,rfl⟩
  refine J.qn 6 λ_=>?_;rcases Nat.lt_or_ge j M with hjM | hjM
  ·rw[show decide ((j:Int)<(M:Int))=true from decide_eq_true (by omega)];obtain⟨c,hc⟩:∃c,M-j=c+1:=⟨M-j-1,by omega⟩;have hO1:Y1.Ok (Dv.costS+(Dv.costS*c+k)) m:=hw.1.less (by rw[hc,Nat.mul_succ];omega);have htk:=Fv.tick_keep hO1;refine J.qp (a6O f p n t l d Y1 _ m hO1 hm) [1,2,3,4,5,6] λ_=>?_;have hr:Fv.ticksG (M-j) j Y=if Y1.tick.2≠0 then(Y1.tick.1,-1)else Fv.ticksG c (j+1) Y1.tick.1:=by
    rw[hc,Fv.ticksG_succ,hW,if_neg (by rw[h2];exact Bool.false_ne_true)]
   obtain⟨W,hW2⟩:∃W,Y1.tick=W:=⟨_,rfl⟩;rw[hW2]at htk hr ⊢;obtain⟨Y2,er⟩:=W;dsimp only at htk hr ⊢;refine J.qd (λ_ h3=>?_) λ_ h3=>?_
   ·have he:er≠0:=by simpa using h3
    rw[if_pos he]at hr;refine J.qr [1,2,3,4,5,6] λ_=>?_;rw[hgo,hr];exact⟨rfl,rfl⟩
   ·have he:er=0:=by simpa using h3
    rw[if_neg (λh=>h he)]at hr;refine J.q λ_=>?_;refine J.nS ((j+1,Y2)) (.inl ⟨by dsimp only;omega,by dsimp only;rw[show M-(j+1)=c from by omega];exact htk.1,by dsimp only;rw[show M-(j+1)=c from by omega,hgo,hr];rfl⟩) (by dsimp only;omega) [0,1,2,3,4,5,6] rfl rfl
  ·obtain rfl:j=M:=by omega
   rw[show decide ((j:Int)<(j:Int))=false from decide_eq_false (by omega)];refine J.q λ_=>?_;refine J.v (iI 0) rfl rfl (λhg a w he hw=>by simp[G.on]at hg) ?_;refine J.qF λ_=>?_;refine J.q λ_=>?_;refine J.nS ((j+1,Y1)) (.inr ⟨rfl,by rw[hgo,Nat.sub_self];show(Y.whole.1,if Y.whole.2 then(j:Int)else-1)=_;rw[hW,if_neg (by rw[h2];exact Bool.false_ne_true)]⟩) (by dsimp only;omega) [0,1,2,3,4,5,6] rfl rfl
 simp only[decide_eq_false_iff_not]at h1;obtain⟨rfl,hgo⟩:j=M+1/\Fv.ticksG M 0 Z=(Y,-1):=by
  rcases hI with h | h
  ·omega
  ·exact h
 refine J.qr [1,2,3,4,5,6] λ_=>?_;rw[hgo];exact⟨rfl,rfl⟩
def flS:Stp:=⟨4,0,zd,0,0,dF⟩
theorem Pv.step_flush (P:Pv) (Z:Fv) (hZ:P.Z=some Z) (s:Stp) (hs:s.fn=4):P.step s=(⟨M6 Z.S.N.ops P.L,P.log++[⟨(Z.setN (J3 Z.S.N (y9 Z.S.N.ops P.L))).flush.2,zd⟩],some (Z.setN (J3 Z.S.N (y9 Z.S.N.ops P.L))).flush.1,P.M⟩,⟨(Z.setN (J3 Z.S.N (y9 Z.S.N.ops P.L))).flush.2,zd⟩):=by
 have hnd:P.nd=Z.S.N:=by unfold Pv.nd;rw[hZ]
 have hrun:P.run=⟨M6 Z.S.N.ops P.L,P.log,some (Z.setN (J3 Z.S.N (y9 Z.S.N.ops P.L))),P.M⟩:=by unfold Pv.run;rw[hnd];unfold Pv.setN;rw[hZ]
 have hd:P.run.does s=({P.run with Z:=some (Z.setN (J3 Z.S.N (y9 Z.S.N.ops P.L))).flush.1},⟨(Z.setN (J3 Z.S.N (y9 Z.S.N.ops P.L))).flush.2,zd⟩):=by
  rw[hrun];unfold Pv.does;rw[if_neg (by rw[hs];decide),if_neg (by rw[hs];decide),if_neg (by rw[hs];decide),if_pos hs]
 unfold Pv.step;rw[hd,hrun]
theorem b6F (q n:Nat) (A:Pad) (P:Pv) (hA:A.Ok P) (Z:Fv) (hZ:P.Z=some Z) (most:Int) (k m:Nat) (hO:Z.Ok (Fv.cW*200+(Dv.costS+(Dv.costK+(1+(Dv.costS*a5v most+k))))) m) (hoff:Z.S.N.off=false) (hm:m+(y9 Z.S.N.ops P.L).length<=12) (hL:P.L.length<=1000) (hlg:P.log.length<=1000) (Z1:Fv) (hZ1:(P.step flS).1.Z=some Z1):FP 64 [pp q,iI most] (Z9 q n A P)
  (λv As=>∃A':Pad,v= .bool (decide ((Z1.ticks most).2>=0))/\A'.Ok {(P.step flS).1 with Z:=some (Z1.ticks most).1}/\As=Z9 q n A' {(P.step flS).1 with Z:=some (Z1.ticks most).1}):=by
 have hsf:=Pv.step_flush P Z hZ flS rfl;obtain⟨D,hD⟩:∃D,y9 Z.S.N.ops P.L=D:=⟨_,rfl⟩;rw[hD]at hm hsf;have hO2:(Z.setN (J3 Z.S.N D)).Ok (Fv.cW*200+(Dv.costS+(Dv.costK+(1+(Dv.costS*a5v most+k))))) (m+D.length):=hO.setN (a4j _ _) (a1I hO.dv.gd D);have hkp:=Fv.flush_keep hO2;have hz1:Z1=(Z.setN (J3 Z.S.N D)).flush.1:=by rw[hsf]at hZ1;injection hZ1 with e;exact e.symm
 rw[<- hz1]at hkp;have hst:=a3h q n A P hA Z hZ _ m hO (by rw[hD];exact hm) hL hlg flS rfl;have hone:(P.step flS).1=⟨M6 Z.S.N.ops P.L,(P.step flS).1.log,some Z1,P.M⟩:=by rw[hsf,hz1]
 have hpl:Z9 q n A P=[PlQ q n (some Z) A.f (pp A.fp) (slv A.a2 P.log.length A.c2), .pt A.fp 232 [.slice (A5 A.a) P.L.length A.c],rdA (A5 A.a) 7 P.L.length (i7 P.L),c9 58 17 A.a2 P.log.length A.c2 (A9 P.log)]++FvP A.f A.p n A.t A.l A.d Z:=by unfold Z9 a0J;rw[hZ];rfl
 rw[hpl]at hst ⊢;refine FE [2,0] Tryz.func64 λX F hX=>?_;refine J.qp (a3i q n (flP (some Z) A.f) (pp A.fp) (slv A.a2 P.log.length A.c2)) [1] λ_=>?_;refine J.qp (a1u n Z.S.N) [7] λ_=>?_;rw[hoff];refine J.qp (b3f q n (some Z) A.f (pp A.fp) (slv A.a2 P.log.length A.c2)) [1] λ_=>?_;refine J.qF λ_=>?_;refine J.qc (hst) [1,2,3,4,5,6,7,8,9,10] λ_=>?_;rintro v As ⟨A',rfl,hA',rfl⟩;rw[hone]at hA' ⊢;refine⟨_,rfl,trivial,?_⟩;refine J.qp (b3f q n (some Z1) A'.f (pp A'.fp) (slv A'.a2 (P.step flS).1.log.length A'.c2)) [1] λ_=>?_;refine J.qp (b4N A'.f A'.p n A'.t A'.l A'.d Z1 k (m+D.length) most (hkp.1.less (by omega)) hm) [5,6,7,8,9,10] λ_=>?_;refine J.qr [1,2,3,4,5,6,7,8,9,10] λ_=>?_;refine⟨A',rfl,?_,?_⟩
 ·rw[hone];exact⟨hA'.z,hA'.c⟩
 ·rw[hone];rfl
theorem b6z (x d:List UInt8):decide (d=x)=(x==d):=by
 by_cases h:x=d
 ·rw[h];simp
 ·rw[decide_eq_false (λe=>h e.symm),beq_eq_false_iff_ne.2 h]
theorem b2m (a:Option Nat) (n c:Nat) (l:List (List UInt8)) (hl:l.length=n) (hn:n<=1000000) (d:List UInt8) (hd:d.length=16) (hs:∀x∈l,x.length=16):FP 108 [slv a n c,a2n d] [c9 29 16 a n c (y5 l)] (λv As=>v=iI (match l.findIdx? (λx=>x==d)with | some k=>(k:Int) | none=> -1)/\As=[c9 29 16 a n c (y5 l)]):=by
 refine FE [0,0] Tryz.func108 λX F hX=>?_;refine J.q λbb=>?_;refine J.lo (α:=Nat) (λk=>k<=n/\∀j,j<k->∀x,l[j]? =some x->(x==d)=false) (λk=>[si 8 k,si 7 n,sv 0 (slv a n c),⟨3,pp (bb 0),3, .tt⟩]) [] (λk=>[]) (λk=>n-k) (0) (⟨Nat.zero_le _,λj hj=>absurd hj (Nat.not_lt_zero _)⟩) rfl ?_ (λ_=>rfl) λk hI=>?_
 ·rfl
 obtain⟨hk,hno⟩:=hI;refine J.qd (λ_ h1=>?_) λ_ h1=>?_
 ·simp only[decide_eq_true_eq,Int.ofNat_lt]at h1;obtain⟨x,hx⟩:∃x,l[k]? =some x:=⟨_,List.getElem?_eq_getElem (by omega)⟩;refine J.know (λh' s=>j7 (c:=(a,c)) (by omega) (s.get (i:=1) rfl)) λhg=>?_;obtain⟨g,rfl⟩:=hg;refine J.pn 4 (.of [1,4,8,12,17,20]) [] [1,2] λ_ _=>?_;have hxl:=hs x (List.mem_of_getElem? hx);refine J.vT (a2n x) rfl rfl (λhg aa w he hC=>r9 tk rfl rfl he rfl rfl rfl (hC rfl _ (i9 (i:=1) rfl)) (by rw[show 0+(k:Int).toNat*16=k*16 from by omega];exact a0n n7 16 (λ_=>rfl) l k x hx) rfl) ?_;refine J.vT (.bool (x==d)) rfl rfl (λhg aa w he hC=>(D2 (xs:=n7 d) (ys:=n7 x) rfl rfl rfl he rfl rfl J9 (D4 _) (D4 _) mkD gdD).trans (by rw[eqD _ _ hd hxl,b6z])) ?_;refine J.qd (λ_ h2=>?_) λ_ h2=>?_
  ·have hf:l.findIdx? (λx=>x==d)=some k:=by
    rw[List.findIdx?_eq_some_iff_getElem];obtain⟨g1,g2⟩:=List.getElem?_eq_some_iff.1 hx;refine⟨g1,by rw[g2];exact h2,λj hj=>?_⟩;have:=hno j hj _ (List.getElem?_eq_getElem (by omega));rw[this];exact Bool.false_ne_true
   refine J.qr [1] λ_=>?_;rw[hf];exact⟨rfl,rfl⟩
  ·refine J.q λ_=>?_;refine J.nS (k+1) (⟨by omega,λj hj y hy=>by
    rcases Nat.lt_or_ge j k with h | h
    ·exact hno j h y hy
    ·obtain rfl:j=k:=by omega
     rw[hx]at hy;injection hy with hy;rw[<- hy];exact h2⟩) (by omega) [0,1,2] rfl rfl
 simp only[decide_eq_false_iff_not,Int.ofNat_lt]at h1;have hf:l.findIdx? (λx=>x==d)=none:=by
  rw[List.findIdx?_eq_none_iff];intro x hx;obtain⟨j,hj⟩:=List.getElem?_of_mem hx;exact hno j (by have:=(List.getElem?_eq_some_iff.1 hj).1;omega) x hj
 refine J.qr [1] λ_=>?_;rw[hf];exact⟨rfl,rfl⟩
theorem b4i (l:List (List UInt8)) (d:List UInt8):decide ((match l.findIdx? (λx=>x==d)with | some k=>(k:Int) | none=> -1)>=0)=l.contains d:=by
 cases h:l.findIdx? (λx=>x==d)with
 | none=>
  rw[List.findIdx?_eq_none_iff]at h;have:l.contains d=false:=by
   rw[List.contains_eq_any_beq,List.any_eq_false];intro x hx e;have:=h x hx;rw[eq_of_beq e]at this;simp at this
  rw[this];rfl
 | some k=>
  rw[List.findIdx?_eq_some_iff_getElem]at h;obtain⟨h1,h2,_⟩:=h;have:l.contains d=true:=by
   rw[List.contains_eq_any_beq,List.any_eq_true];exact⟨_,List.getElem_mem h1,by rw[eq_of_beq h2];simp⟩
  rw[this,decide_eq_true (by dsimp only;omega)]
theorem b5g (a:Option Nat) (n c:Nat) (l:List (List UInt8)) (hl:l.length=n) (hn:n<=1000000) (d:List UInt8) (hd:d.length=16) (hs:∀x∈l,x.length=16):FP 69 [slv a n c,a2n d] [c9 29 16 a n c (y5 l)] (λv As=>v= .bool (l.contains d)/\As=[c9 29 16 a n c (y5 l)]):=by
 refine FE [0,0] Tryz.func69 λX F hX=>?_;refine J.qp (b2m a n c l hl hn d hd hs) [1] λ_=>?_;have hc:=b4i l d;refine J.qr [1] λ_=>?_;exact⟨by rw[<- hc],rfl⟩
theorem a5M {α:Type} (f:α->List Value) (w:Nat) (hw:∀x,(f x).length=w) (vs:List Value):∀{l:List α} {k:Nat} {x y:α},l[k]? =some x->vs.length<=w->vs++(f x).drop vs.length=f y->(l.flatMap f).take (k*w)++vs++(l.flatMap f).drop (k*w+vs.length)=(l.set k y).flatMap f
 | [],k,x,y,h,hj,e=>by simp at h
 | z::l,0,x,y,h,hj,e=>by
  simp only[List.getElem?_cons_zero,Option.some.injEq]at h;subst h;rw[Nat.zero_mul,Nat.zero_add,List.take_zero,List.nil_append,List.flatMap_cons,List.drop_append_of_le_length (by rw[hw];exact hj),<- List.append_assoc,e];rfl
 | z::l,k+1,x,y,h,hj,e=>by
  have ih:=a5M f w hw vs (l:=l) (k:=k) (x:=x) (y:=y) (by simpa using h) hj e;rw[List.flatMap_cons,show(k+1)*w=(f z).length+k*w from by rw[hw,Nat.succ_mul];omega,List.take_length_add_append,show(f z).length+k*w+vs.length=(f z).length+(k*w+vs.length)from by omega,List.drop_length_add_append,List.append_assoc,List.append_assoc,<- List.append_assoc (List.take _ _),ih];rfl
def MSl.Fine (z:MSl):Prop:=z.v.now.length=16/\(∀x∈z.v.may,x.length=16)/\(∀x∈z.v.ever,x.length=16)/\z.v.may.length<=1000/\z.v.ever.length<=1000
theorem a3G {α:Type} {l:List α} {k:Nat} {x:α} (h:l[k]? =some x):l.set k x=l:=by
 apply List.ext_getElem?;intro i;rw[List.getElem?_set];split
 ·rename_i e;subst e;split
  ·exact h.symm
  ·rename_i e2;rw[List.getElem?_eq_none (by omega)]
 ·rfl
theorem b4K (x d:List UInt8):decide (x=d)=(x==d):=by
 by_cases h:x=d
 ·rw[h];simp
 ·rw[decide_eq_false h,beq_eq_false_iff_ne.2 h]
theorem MSl.now_at {Z:List MSl} {k:Nat} {z:MSl} (hz:Z[k]? =some z):((Z.flatMap MSl.cells).drop (k*19+0)).take 16=n7 z.v.now:=by
 have h:=a0n MSl.cells 19 (λ_=>rfl) Z k z hz;have h2:((Z.flatMap MSl.cells).drop (k*19)).take 16=(((Z.flatMap MSl.cells).drop (k*19)).take 19).take 16:=by rw[List.take_take];rfl
 rw[Nat.add_zero,h2,h];rfl
theorem a9g (q g:Nat) (Z:List MSl) (hn:Z.length<=65536) (hf:∀z∈Z,z.Fine) (i:Int) (d:List UInt8) (hd:d.length=16):FP 26 [pp q,iI i,a2n d] (a7g q g Z) (λv As=>v= .bool (Mv.may (Z.map (·.v)) i d)/\As=a7g q g Z):=by
 refine FE [2,0,0] Tryz.func26 λX F hX=>?_;refine J.qp (b6V q g Z.length hn i) [1] λ_=>?_
 by_cases hi:0<=i/\i<(Z.length:Int)
 ·have ha:Mv.adr Z.length g i=some ⟨g,i.toNat*19,none⟩:=by unfold Mv.adr;rw[if_pos hi]
  obtain⟨k,rfl⟩:=Int.eq_ofNat_of_zero_le hi.1;obtain⟨z,hz⟩:∃z,Z[k]? =some z:=⟨_,List.getElem?_eq_getElem (by omega)⟩;obtain⟨f1,f2,f3,f4,f5⟩:=hf z (List.mem_of_getElem? hz);have hin:Mv.inR (Z.map (·.v)) (k:Int)=true:=by unfold Mv.inR;rw[List.length_map,decide_eq_true hi.1,decide_eq_true hi.2];rfl
  have hpg:Mv.pg (Z.map (·.v)) (k:Int)=z.v:=by unfold Mv.pg;rw[Int.toNat_natCast,List.getD_eq_getElem?_getD,List.getElem?_map,hz];rfl
  have hmy:Mv.may (Z.map (·.v)) (k:Int) d=if z.v.op then z.v.may.contains d else z.v.now==d:=by unfold Mv.may;rw[hin,hpg,Bool.true_and]
  rw[ha,Int.toNat_natCast];refine J.qF λ_=>?_;have hcell:=λj hj=>W4 MSl.cells 19 MSl.cells_len hz j hj;refine J.qn 7 λ_=>?_;refine J.v (.bool z.v.op) rfl rfl (λhg aa w he hw=>j5 tk rfl rfl he rfl rfl rfl (hw.get (i:=2) rfl) (hcell 16 (by omega))) ?_;refine J.qd (λ_ h1=>?_) λ_ h1=>?_
  ·rw[if_pos h1]at hmy;refine J.openAt 3 k rfl rfl (by rw[List.getElem?_map,hz];rfl) rfl ?_;refine J.pn 3 (.of [0,4,8,13,17,23,24]) [5,6] [1,2,3,4,5,6] λ_ _=>?_;refine J.vT (slv z.a1 z.v.may.length z.c1) rfl rfl (λhg aa w he hC=>j5 tk rfl rfl he rfl rfl rfl (hC rfl _ (i9 (i:=2) rfl)) (hcell 17 (by omega))) ?_;refine J.qp (b5g z.a1 z.v.may.length z.c1 z.v.may rfl (by omega) d hd f2) [6] λ_=>?_;refine J.q λ_=>?_;refine J.closeAt (A:=z.m1) 3 6 k rfl rfl rfl ?_;have hsame:(Z.map MSl.m1).set k z.m1=Z.map MSl.m1:=a3G (by rw[List.getElem?_map,hz];rfl);rw[hsame];refine J.qr [1,2,3,4] λ_=>?_;rw[hmy];exact⟨rfl,rfl⟩
  ·rw[if_neg (by rw[h1];decide)]at hmy;refine J.pn 3 (.of [0,4,8,13,17,20,24]) [5,6] [1,2,3,4,5] λ_ _=>?_;refine J.vT (a2n z.v.now) rfl rfl (λhg aa w he hC=>m6 tk rfl rfl he rfl rfl rfl (hC rfl _ (i9 (i:=2) rfl)) (MSl.now_at hz) rfl) ?_;refine J.qn 1 λ_=>?_;refine J.vT (.bool (z.v.now==d)) rfl rfl (λhg aa w he hC=>(D2 (xs:=n7 z.v.now) (ys:=n7 d) rfl rfl rfl he rfl rfl J9 (D4 _) (D4 _) mkD gdD).trans (by rw[eqD _ _ f1 hd,b4K])) ?_;refine J.qr [1,2,3,4] λ_=>?_;rw[hmy];exact⟨rfl,rfl⟩
 ·have ha:Mv.adr Z.length g i=none:=by unfold Mv.adr;rw[if_neg hi]
  have hmy:Mv.may (Z.map (·.v)) i d=false:=by
   unfold Mv.may Mv.inR;rw[List.length_map];have:(decide (0<=i)&&decide (i<(Z.length:Int)))=false:=by simp;omega
   rw[this];rfl
  rw[ha];refine J.qT λ_=>?_;refine J.qr [1,2,3,4] λ_=>?_;rw[hmy];exact⟨rfl,rfl⟩

section
variable {P : Program} {ops : Array Oper}
theorem b2V {o:Oper} {x:Operand} (hx:o.op= .move x) {K:Act->World->Prop} {a:Act} {w:World} (h:sOp P ops o K a w):sOp P ops o (λa' w'=>K a' w'/\w'=w) a w:=by
 unfold sOp at*;split
 ·rename_i hw;rw[if_pos hw]at h;have e:execOp a.eval o=pure (.value (a.eval x)):=by unfold execOp;rw[hx]
  rw[e]at h ⊢;exact⟨h,rfl⟩
 ·rename_i hw;rw[if_neg hw]at h;exact⟨h,rfl⟩
theorem a2v {lt mv:List Nat} (hmv:∀j∈mv,∀o,ops[j]? =some o->∃x,o.op= .move x) {C D:World->Prop} {K:Act->World->Prop} {i:Nat} {oi:Oper} {v:Value} (hi:ops[i]? =some oi) (hsel:∀(j:Nat) (o:Oper) cs b,ops[j]? =some o->o.op≠ .select cs b)
  (hD:(i∉lt/\(∀w,C w->D w)/\∀j∈lt,j∈mv\/T7 ops 3 j i=true)\/(i∈lt/\∀w,D w)):
  ∀(fuel:Nat) (listed:Array Bool) (a:Act) (w:World),Shut ops listed->
   (∀j oj,ops[j]? =some oj->j≠i->listed.getD j true=false->(∀e∈oj.after,Region.binds .any e=true->e.on≠i)->oi.apart ops oj=true)->
   i∈Region.ready .any ops listed->YldIn P ops D oi v a->D w->(i∉lt->C w)->
   sAny P ops lt C K fuel (listed.setIfInBounds i true) (a.put oi.dst v) w->sAny P ops lt C K (fuel+1) listed a w:=by
 intro fuel
 induction fuel with
 | zero=>
  intro listed a w _ _ hr hy hDw hC H;refine⟨λh=>(by rw[h]at hr;cases hr),λj hj=>?_⟩
  by_cases hji:j=i
  ·subst hji;exact⟨oi,hi,hy.sOp hDw ⟨hC,H⟩⟩
  ·have:=ready_mono hj hji;rw[H.1]at this;cases this
 | succ fuel ih=>
  intro listed a w hsh hfree hr hy hDw hC H;refine⟨λh=>(by rw[h]at hr;cases hr),λj hj=>?_⟩
  by_cases hji:j=i
  ·subst hji;exact⟨oi,hi,hy.sOp hDw ⟨hC,H⟩⟩
  ·obtain⟨oj,hoj,h1⟩:=H.2 j (ready_mono hj hji);obtain⟨hjun,oj',hoj',hall⟩:=mem_ready.1 hj;have:oj'=oj:=by rw[hoj]at hoj';injection hoj' with e;exact e.symm
   subst this;have hiun:listed.getD i false≠true:=λh1=>by
    have h0:=(mem_ready.1 hr).1;rcases Nat.lt_or_ge i listed.size with h' | h'
    ·simp[h']at h0 h1;rw[h0]at h1;cases h1
    ·simp[Array.getElem?_eq_none h']at h1
   have hnot:∀e∈oj'.after,Region.binds .any e=true->e.on≠i:=λe he hb heq=>hiun (heq▸hall e he hb);have h2:=a9X (hfree j oj' hoj hji hjun hnot) (λcs b=>hsel i oi cs b hi) (λcs b=>hsel j oj' cs b hoj) hy h1;have hfree':∀k ok,ops[k]? =some ok->k≠i->(listed.setIfInBounds j true).getD k true=false->
     (∀e∈ok.after,Region.binds .any e=true->e.on≠i)->oi.apart ops ok=true:=λk ok hk hki hun hno=>by
    refine hfree k ok hk hki ?_ hno
    by_cases hjk:j=k
    ·subst hjk;exact hjun
    ·rw[getD_set_ne true hjk]at hun;exact hun
   have h2':sOp P ops oj' (λa' w'=>(YldIn P ops D oi v a'/\(j∉lt->C w')/\sAny P ops lt C K fuel ((listed.setIfInBounds i true).setIfInBounds j true) (a'.put oi.dst v) w')/\(j∈mv->w'=w)) a w:=by
    by_cases hm:j∈mv
    ·obtain⟨x,hx⟩:=hmv j hm oj' hoj;exact(b2V hx h2).mono λ_ _ hh=>⟨hh.1,λ_=>hh.2⟩
    ·exact h2.mono λ_ _ hh=>⟨hh,λh=>absurd h hm⟩
   refine⟨oj',hoj,h2'.mono λa' w' ⟨⟨hy',hC',h3⟩,hww⟩=>⟨hC',?_⟩⟩;have hdc:D w'/\(i∉lt->C w'):=by
    rcases hD with⟨hil,hCD,hw⟩ | ⟨hil,hd⟩
    ·by_cases hm:j∈mv
     ·rw[hww hm];exact⟨hDw,hC⟩
     ·have hjl:j∉lt:=λh=>by
       rcases hw j h with h' | h'
       ·exact hm h'
       ·exact hiun (a1e hsh h' hj)
      exact⟨hCD _ (hC' hjl),λ_=>hC' hjl⟩
    ·exact⟨hd _,λh=>absurd hil h⟩
   refine ih (listed.setIfInBounds j true) a' w' (hsh.set hj) hfree' (ready_mono hr (Ne.symm hji)) hy' hdc.1 hdc.2 ?_;rw[Array.setIfInBounds_comm _ _ hji];exact h3
theorem PT.sound2 {lt mv:List Nat} {C:World->Prop} {K:Act->World->Prop} (hs:Region.noSelect ops=true) (hmv:∀j∈mv,∀o,ops[j]? =some o->∃x,o.op= .move x) (hlt:∀j∈lt,∀i,i<ops.size->i∉lt->j∈mv\/T7 ops 3 j i=true):∀(t:PT) (fl:Bool) (n:Nat) (listed:Array Bool) (a:Act) (w:World),Shut ops listed->t.ok ops lt fl n listed=true->(t.allLt lt=false->C w)->pT P ops C K t a w->
  (fl=false->sAny P ops lt C K n listed a w)/\(∀i∈t.heads,∃o,ops[i]? =some o/\∃m,n=m+1/\sOp P ops o (λa' w'=>(i∉lt->C w')/\sAny P ops lt C K m (listed.setIfInBounds i true) a' w') a w)
 | .done,fl,n,listed,a,w,hsh,h,hC,hp=>by
  cases fl with
  | true=>simp[PT.ok]at h
  | false=>exact⟨λ_=>a5h (by simpa[PT.ok]using h) hp n,by simp[PT.heads]⟩
 | .take p i t,fl,n,listed,a,w,hsh,h,hC,hp=>by
  cases fl with
  | true=>simp[PT.ok]at h
  | false=>
   cases n with
   | zero=>simp[PT.ok]at h
   | succ n=>
    simp only[PT.ok,Bool.and_eq_true]at h;obtain⟨⟨⟨hr,hf⟩,ht⟩,hp2⟩:=h;refine⟨λ_=>?_,by simp[PT.heads]⟩;obtain⟨o,v,hi,hy,hp⟩:=hp;have hisz:i<ops.size:=(Array.getElem?_eq_some_iff.1 hi).1
    by_cases hil:i∈lt
    ·have hpt:p=true:=by simpa[hil]using hp2
     subst hpt;refine a2v hmv hi (Region.noSelect_spec hs) (.inr ⟨hil,λw h=>by cases h⟩) n listed a w hsh (Region.free_spec hi hf) (by simpa using hr) hy (λh=>by cases h) (λh=>absurd hil h) ((PT.sound2 hs hmv hlt t false n _ _ w (hsh.set (by simpa using hr)) ht (λhe=>hC ?_) hp).1 rfl);simp[PT.allLt,he]
    ·have hCw:C w:=hC (by simp[PT.allLt,hil]);exact a2v hmv hi (Region.noSelect_spec hs) (.inl ⟨hil,λw h _=>h,λj hj=>hlt j hj i hisz hil⟩) n listed a w hsh (Region.free_spec hi hf) (by simpa using hr) hy (λ_=>hCw) (λ_=>hCw) ((PT.sound2 hs hmv hlt t false n _ _ w (hsh.set (by simpa using hr)) ht (λ_=>hCw) hp).1 rfl)
 | .alt l i t m,fl,n,listed,a,w,hsh,h,hC,hp=>by
  cases n with
  | zero=>simp[PT.ok]at h
  | succ n=>
   simp only[PT.ok,Bool.and_eq_true]at h;obtain⟨⟨⟨⟨⟨ht,hm⟩,hall⟩,hl⟩,hlate⟩,hrd⟩:=h;obtain⟨⟨o,hi,hp⟩,hpm⟩:=hp;have hl':l=true↔i∈lt:=by
    have:=eq_of_beq hl;rw[<- this];simp
   have hmm:=(PT.sound2 hs hmv hlt m true (n+1) listed a w hsh hm (λhe=>hC (by simp[PT.allLt,he])) hpm).2;have hheads:∀j∈PT.heads (.alt l i t m),∃o,ops[j]? =some o/\∃m,n+1=m+1/\sOp P ops o (λa' w'=>(j∉lt->C w')/\sAny P ops lt C K m (listed.setIfInBounds j true) a' w') a w:=by
    intro j hj;rcases List.mem_cons.1 hj with rfl | hj
    ·refine⟨o,hi,n,rfl,hp.mono λa' w' hh=>⟨λhn=>hh.1 ?_,(PT.sound2 hs hmv hlt t false n _ a' w' (hsh.set (by simpa using hrd)) ht (λhe=>hh.1 ?_) hh.2).1 rfl⟩⟩
     ·cases l with
      | false=>rfl
      | true=>exact absurd (hl'.1 rfl) hn
     ·cases l with
      | false=>rfl
      | true=>simp only[Bool.not_true,Bool.false_or]at hlate;rw[hlate]at he;cases he
    ·exact hmm j hj
   refine⟨λhfl=>?_,hheads⟩;subst hfl;simp only[Bool.false_or,Bool.and_eq_true,List.all_eq_true]at hall;refine⟨λh0=>absurd hall.1 (by simp[h0]),λj hj=>?_⟩;obtain⟨o,h1,m',h2,h3⟩:=hheads j (by simpa using hall.2 j hj);have:m'=n:=by omega
   subst this;exact⟨o,h1,h3⟩
 | .non,fl,n,listed,a,w,hsh,h,hC,hp=>by
  cases fl with
  | true=>exact⟨(λh=>by cases h),by simp[PT.heads]⟩
  | false=>simp[PT.ok]at h
end
def b4f (o:Oper):Bool:=match o.op with
 | .move _=>true
 | _=>false
def PT.good2 (ops:Array Oper) (lt mv:List Nat) (t:PT):Bool:=Region.noSelect ops&&(mv.all λj=>(ops[j]?.map b4f).getD true)&&lt.all (λj=>mv.contains j||(List.range ops.size).all λi=>lt.contains i||T7 ops 3 j i)&&t.ok ops lt false ops.size (Array.replicate ops.size false)
theorem a2U {P:Program} {id:Nat} {ops:Array Oper} {C:World->Prop} {Q:Exit->Act->World->Prop} {a:Act} {w:World} (hm:P.follows .mixedOrders=true) (t:PT) (lt mv:List Nat) (ht:t.good2 ops lt mv=true) (hC:C {w with drawn:=w.drawn+1})
  (h:pT P ops C (Q .normal) t a {w with drawn:=w.drawn+1}):(Code.region id ops true).wp P Q a w:=by
 simp only[PT.good2,Bool.and_eq_true,List.all_eq_true,List.mem_range]at ht;obtain⟨⟨⟨h1,h0⟩,h2⟩,h3⟩:=ht;refine wp_region_any hm (sAny.wpAny (λ_ _ h=>h) _ _ _ _ ((PT.sound2 h1 (lt:=lt) (mv:=mv) (λj hj o ho=>?_) (λj hj i hi hn=>?_) t false _ _ a _ (Shut.none _) h3 (λ_=>hC) h).1 rfl))
 ·have:=h0 j hj;rw[ho]at this;simp only[Option.map_some,Option.getD_some]at this;unfold b4f at this;split at this
  ·exact⟨_,by assumption⟩
  ·cases this
 ·have:=h2 j hj;rcases Bool.or_eq_true_iff.1 this with h | h
  ·exact .inl (by simpa using h)
  ·rw[List.all_eq_true]at h;have:=h i (List.mem_range.2 hi);exact .inr (by simpa[hn]using this)
theorem J.plan2 {X:Cx} {K:List KI} {E:Env} {L:List Atom} {id:Nat} {ops:Array Oper} (t:PT) (lt mv ro:List Nat) (hm:X.P.follows .mixedOrders=true) (ht:t.good2 ops lt mv=true) (h:J X (.reg ops (snap L ro) t::K) E L):J X (.code (.region id ops true)::K) E L:=
 λa w hx he hs=>a2U hm t lt mv ht (CAt.snap (w:={w with drawn:=w.drawn+1}) hs ro) (h a _ hx.drew he hs)
theorem J0 (l:List (List UInt8)) (d:List UInt8):y5 l++n7 d=y5 (l++[d]):=by unfold y5;rw[List.flatMap_append];simp
theorem MSl.put17 (d:List UInt8) (o:Bool) (A B:List (List UInt8)) (a1:Option Nat) (c1:Nat) (a2:Option Nat) (c2:Nat) (x:Option Nat×Nat):(MSl.cells ⟨⟨d,o,A,B⟩,a1,c1,a2,c2⟩).set 17 (slv x.1 (A.length+1) x.2)=MSl.cells ⟨⟨d,o,A++[d],B⟩,x.1,x.2,a2,c2⟩:=by
 unfold MSl.cells;dsimp only;rw[List.length_append];rfl
theorem MSl.put18 (d:List UInt8) (o:Bool) (A B:List (List UInt8)) (a1:Option Nat) (c1:Nat) (a2:Option Nat) (c2:Nat) (x:Option Nat×Nat):(MSl.cells ⟨⟨d,o,A,B⟩,a1,c1,a2,c2⟩).set 18 (slv x.1 (B.length+1) x.2)=MSl.cells ⟨⟨d,o,A,B++[d]⟩,a1,c1,x.1,x.2⟩:=by
 unfold MSl.cells;dsimp only;rw[List.length_append];rfl
theorem b3J (q g:Nat) (Z:List MSl) (hn:Z.length<=65536) (hf:∀z∈Z,z.Fine) (i:Int) (d:List UInt8) (hd:d.length=16):FP 23 [pp q,iI i,a2n d] (a7g q g Z) (λv As=>∃Z',v= .bool (Mv.inR (Z.map (·.v)) i)/\As=a7g q g Z'/\Z'.map (·.v)=Mv.write (Z.map (·.v)) i d):=by
 refine FE [2,0,0] Tryz.func23 λX F hX=>?_;refine J.qp (b6V q g Z.length hn i) [1] λ_=>?_
 by_cases hi:0<=i/\i<(Z.length:Int)
 ·have ha:Mv.adr Z.length g i=some ⟨g,i.toNat*19,none⟩:=by unfold Mv.adr;rw[if_pos hi]
  obtain⟨k,rfl⟩:=Int.eq_ofNat_of_zero_le hi.1;obtain⟨z,hz⟩:∃z,Z[k]? =some z:=⟨_,List.getElem?_eq_getElem (by omega)⟩;obtain⟨f1,f2,f3,f4,f5⟩:=hf z (List.mem_of_getElem? hz);have hin:Mv.inR (Z.map (·.v)) (k:Int)=true:=by unfold Mv.inR;rw[List.length_map,decide_eq_true hi.1,decide_eq_true hi.2];rfl
  rw[ha,Int.toNat_natCast];refine J.qF λ_=>?_;refine J.openAt 3 k rfl rfl (by rw[List.getElem?_map,hz];rfl) rfl ?_;refine J.openAt 4 k rfl rfl (by rw[List.getElem?_map,hz];rfl) rfl ?_;have hl1:k*19+19<=(Z.flatMap MSl.cells).length:=by rw[MSl.flat_len];omega
  have C0:∀y:MSl,(Z.set k y)[k]? =some y:=λy=>by rw[List.getElem?_set,if_pos rfl,if_pos (by omega)]
  refine J.qn 8 λ_=>?_;have hst:((Z.flatMap MSl.cells).take (k*19)++n7 d++(Z.flatMap MSl.cells).drop (k*19+(n7 d).length))=(Z.set k ⟨⟨d,z.v.op,z.v.may,z.v.ever⟩,z.a1,z.c1,z.a2,z.c2⟩).flatMap MSl.cells:=a5M MSl.cells 19 MSl.cells_len (n7 d) hz (by show 16<=19;omega) (y:=⟨⟨d,z.v.op,z.v.may,z.v.ever⟩,z.a1,z.c1,z.a2,z.c2⟩) rfl;refine J.storeN (vs:=n7 d) hX tk 2 rfl rfl rfl rfl rfl rfl rfl rfl rfl rfl rfl rfl rfl ?_ ((Z.set k ⟨⟨d,z.v.op,z.v.may,z.v.ever⟩,z.a1,z.c1,z.a2,z.c2⟩).flatMap MSl.cells) ?_ rfl (λ_=>rfl) ⟨trivial,?_⟩
  ·show k*19+0+16<=_;omega
  ·rw[Nat.add_zero];exact hst
  refine J.qn 3 λ_=>?_;refine J.s1 2 ((Z.set k ⟨⟨d,false,z.v.may,z.v.ever⟩,z.a1,z.c1,z.a2,z.c2⟩).flatMap MSl.cells) ?_ ?_ ?_
  ·rw[MSl.flat_len,List.length_set,<- MSl.flat_len];omega
  ·exact(y6 MSl.cells 19 MSl.cells_len 16 (y:=⟨⟨d,false,z.v.may,z.v.ever⟩,z.a1,z.c1,z.a2,z.c2⟩) _ (C0 ⟨⟨d,z.v.op,z.v.may,z.v.ever⟩,z.a1,z.c1,z.a2,z.c2⟩) (by omega) rfl).trans (by rw[List.set_set];all_goals rfl)
  refine J.q λ_=>?_;refine J.plan2 (.take true 0 (.take true 1 (.take true 2 (.take true 3 (.take true 4 (.take false 5 (.take false 6 (.take true 9 (.take true 10 (.take true 11 (.take false 12 (.take false 13 (.alt false 7 ((.alt false 8 ((.of [58,62,64,68,75,76,80,87])) (.alt false 14 ((.of [34,62,64,68,75,76,80,87])) .non))) (.alt false 14 ((.of [30,34,62,64,68,75,76,80,87])) .non)))))))))))))) [1,16,17,18,19,20,21] [1] [1,2,3,4,5] (by rw[hX.hP];kernel_rfl) (by kernel_rfl) ?_;have hcell:=λj hj=>W4 MSl.cells 19 MSl.cells_len (C0 ⟨⟨d,false,z.v.may,z.v.ever⟩,z.a1,z.c1,z.a2,z.c2⟩) j hj;refine J.qn 6 λ_=>?_;refine J.vT (slv z.a1 z.v.may.length z.c1) rfl rfl (λhg aa w he hC=>j5 tk rfl rfl he rfl rfl rfl (hC rfl _ (i9 (i:=2) rfl)) (hcell 17 (by omega))) ?_;refine J.qn 4 λ_=>?_;refine J.vT (slv z.a2 z.v.ever.length z.c2) rfl rfl (λhg aa w he hC=>j5 tk rfl rfl he rfl rfl rfl (hC rfl _ (i9 (i:=2) rfl)) (hcell 18 (by omega))) ?_;refine J.qn 1 λ_=>?_;refine J.join (α:=(Option Nat×Nat)×(Option Nat×Nat)) (λ_=>[sv 6 (.bool false)]) (λx=>[.hp F, .pt q 97 [.slice (some ⟨g,0,none⟩) Z.length Z.length], .pt g 99 ((Z.set k ⟨⟨d,false,z.v.may++[d],z.v.ever++[d]⟩,x.1.1,x.1.2,x.2.1,x.2.2⟩).flatMap MSl.cells), .hp (HP.of ((Z.map MSl.m1).set k .emp)), .hp (HP.of ((Z.map MSl.m2).set k .emp)),c9 29 16 x.1.1 (z.v.may.length+1) x.1.2 (y5 (z.v.may++[d])),c9 29 16 x.2.1 (z.v.ever.length+1) x.2.2 (y5 (z.v.ever++[d]))]) (λhj=>?_) (λx=>?_)
  ·refine J.alts ?_ ?_
   ·skip
    refine J.qn 1 λbb=>?_;refine J.alts ?_ ?_
    ·skip
     refine J.append hX tk 6 8 0 rfl rfl rfl rfl rfl rfl rfl rfl rfl rfl rfl rfl rfl rfl rfl rfl ?_ ?_ (λ_=>rfl) λa3 c3=>⟨_,(congrArg (λu=>t6 _ 6 (c9 _ _ _ _ _ u)) (J0 z.v.may d)).trans rfl,(by first | exact trivial | (repeat' (first | exact trivial | refine⟨rfl,?_⟩))),?_⟩
     ·simp only[maxLen];omega
     ·omega
     refine J.qn 1 λbc=>?_;refine J.append hX tk 7 9 0 rfl rfl rfl rfl rfl rfl rfl rfl rfl rfl rfl rfl rfl rfl rfl rfl ?_ ?_ (λ_=>rfl) λa4 c4=>⟨_,(congrArg (λu=>t6 _ 7 (c9 _ _ _ _ _ u)) (J0 z.v.ever d)).trans rfl,(by first | exact trivial | (repeat' (first | exact trivial | refine⟨rfl,?_⟩))),?_⟩
     ·simp only[maxLen];omega
     ·omega
     refine J.qn 2 λ_=>?_;refine J.s1 2 ((Z.set k ⟨⟨d,false,z.v.may++[d],z.v.ever⟩,a3,c3,z.a2,z.c2⟩).flatMap MSl.cells) ?_ ?_ ?_
     ·rw[MSl.flat_len,List.length_set,<- MSl.flat_len];omega
     ·exact(y6 MSl.cells 19 MSl.cells_len 17 (y:=⟨⟨d,false,z.v.may++[d],z.v.ever⟩,a3,c3,z.a2,z.c2⟩) _ (C0 ⟨⟨d,false,z.v.may,z.v.ever⟩,z.a1,z.c1,z.a2,z.c2⟩) (by omega) (MSl.put17 _ _ _ _ _ _ _ _ (a3,c3))).trans (by rw[List.set_set];all_goals rfl)
     refine J.qn 2 λ_=>?_;refine J.s1 2 ((Z.set k ⟨⟨d,false,z.v.may++[d],z.v.ever++[d]⟩,a3,c3,a4,c4⟩).flatMap MSl.cells) ?_ ?_ ?_
     ·rw[MSl.flat_len,List.length_set,<- MSl.flat_len];omega
     ·exact(y6 MSl.cells 19 MSl.cells_len 18 (y:=⟨⟨d,false,z.v.may++[d],z.v.ever++[d]⟩,a3,c3,a4,c4⟩) _ (C0 ⟨⟨d,false,z.v.may++[d],z.v.ever⟩,a3,c3,z.a2,z.c2⟩) (by omega) (MSl.put18 _ _ _ _ _ _ _ _ (a4,c4))).trans (by rw[List.set_set];all_goals rfl)
     exact J.goto [0,1,2,3,4,6,7] (hj ((a3,c3),(a4,c4))) ⟨rfl,trivial⟩ rfl rfl
    ·skip
     refine J.qn 1 λbc=>?_;refine J.append hX tk 6 8 0 rfl rfl rfl rfl rfl rfl rfl rfl rfl rfl rfl rfl rfl rfl rfl rfl ?_ ?_ (λ_=>rfl) λa3 c3=>⟨_,(congrArg (λu=>t6 _ 6 (c9 _ _ _ _ _ u)) (J0 z.v.may d)).trans rfl,(by first | exact trivial | (repeat' (first | exact trivial | refine⟨rfl,?_⟩))),?_⟩
     ·simp only[maxLen];omega
     ·omega
     refine J.append hX tk 7 9 0 rfl rfl rfl rfl rfl rfl rfl rfl rfl rfl rfl rfl rfl rfl rfl rfl ?_ ?_ (λ_=>rfl) λa4 c4=>⟨_,(congrArg (λu=>t6 _ 7 (c9 _ _ _ _ _ u)) (J0 z.v.ever d)).trans rfl,(by first | exact trivial | (repeat' (first | exact trivial | refine⟨rfl,?_⟩))),?_⟩
     ·simp only[maxLen];omega
     ·omega
     refine J.qn 2 λ_=>?_;refine J.s1 2 ((Z.set k ⟨⟨d,false,z.v.may++[d],z.v.ever⟩,a3,c3,z.a2,z.c2⟩).flatMap MSl.cells) ?_ ?_ ?_
     ·rw[MSl.flat_len,List.length_set,<- MSl.flat_len];omega
     ·exact(y6 MSl.cells 19 MSl.cells_len 17 (y:=⟨⟨d,false,z.v.may++[d],z.v.ever⟩,a3,c3,z.a2,z.c2⟩) _ (C0 ⟨⟨d,false,z.v.may,z.v.ever⟩,z.a1,z.c1,z.a2,z.c2⟩) (by omega) (MSl.put17 _ _ _ _ _ _ _ _ (a3,c3))).trans (by rw[List.set_set];all_goals rfl)
     refine J.qn 2 λ_=>?_;refine J.s1 2 ((Z.set k ⟨⟨d,false,z.v.may++[d],z.v.ever++[d]⟩,a3,c3,a4,c4⟩).flatMap MSl.cells) ?_ ?_ ?_
     ·rw[MSl.flat_len,List.length_set,<- MSl.flat_len];omega
     ·exact(y6 MSl.cells 19 MSl.cells_len 18 (y:=⟨⟨d,false,z.v.may++[d],z.v.ever++[d]⟩,a3,c3,a4,c4⟩) _ (C0 ⟨⟨d,false,z.v.may++[d],z.v.ever⟩,a3,c3,z.a2,z.c2⟩) (by omega) (MSl.put18 _ _ _ _ _ _ _ _ (a4,c4))).trans (by rw[List.set_set];all_goals rfl)
     exact J.goto [0,1,2,3,4,6,7] (hj ((a3,c3),(a4,c4))) ⟨rfl,trivial⟩ rfl rfl
   ·skip
    refine J.qn 2 λbb=>?_;refine J.append hX tk 6 9 0 rfl rfl rfl rfl rfl rfl rfl rfl rfl rfl rfl rfl rfl rfl rfl rfl ?_ ?_ (λ_=>rfl) λa3 c3=>⟨_,(congrArg (λu=>t6 _ 6 (c9 _ _ _ _ _ u)) (J0 z.v.may d)).trans rfl,(by first | exact trivial | (repeat' (first | exact trivial | refine⟨rfl,?_⟩))),?_⟩
    ·simp only[maxLen];omega
    ·omega
    refine J.append hX tk 7 8 0 rfl rfl rfl rfl rfl rfl rfl rfl rfl rfl rfl rfl rfl rfl rfl rfl ?_ ?_ (λ_=>rfl) λa4 c4=>⟨_,(congrArg (λu=>t6 _ 7 (c9 _ _ _ _ _ u)) (J0 z.v.ever d)).trans rfl,(by first | exact trivial | (repeat' (first | exact trivial | refine⟨rfl,?_⟩))),?_⟩
    ·simp only[maxLen];omega
    ·omega
    refine J.qn 2 λ_=>?_;refine J.s1 2 ((Z.set k ⟨⟨d,false,z.v.may++[d],z.v.ever⟩,a3,c3,z.a2,z.c2⟩).flatMap MSl.cells) ?_ ?_ ?_
    ·rw[MSl.flat_len,List.length_set,<- MSl.flat_len];omega
    ·exact(y6 MSl.cells 19 MSl.cells_len 17 (y:=⟨⟨d,false,z.v.may++[d],z.v.ever⟩,a3,c3,z.a2,z.c2⟩) _ (C0 ⟨⟨d,false,z.v.may,z.v.ever⟩,z.a1,z.c1,z.a2,z.c2⟩) (by omega) (MSl.put17 _ _ _ _ _ _ _ _ (a3,c3))).trans (by rw[List.set_set];all_goals rfl)
    refine J.qn 2 λ_=>?_;refine J.s1 2 ((Z.set k ⟨⟨d,false,z.v.may++[d],z.v.ever++[d]⟩,a3,c3,a4,c4⟩).flatMap MSl.cells) ?_ ?_ ?_
    ·rw[MSl.flat_len,List.length_set,<- MSl.flat_len];omega
    ·exact(y6 MSl.cells 19 MSl.cells_len 18 (y:=⟨⟨d,false,z.v.may++[d],z.v.ever++[d]⟩,a3,c3,a4,c4⟩) _ (C0 ⟨⟨d,false,z.v.may++[d],z.v.ever⟩,a3,c3,z.a2,z.c2⟩) (by omega) (MSl.put18 _ _ _ _ _ _ _ _ (a4,c4))).trans (by rw[List.set_set];all_goals rfl)
    exact J.goto [0,1,2,3,4,6,7] (hj ((a3,c3),(a4,c4))) ⟨rfl,trivial⟩ rfl rfl
  obtain⟨⟨a3,c3⟩,a4,c4⟩:=x;dsimp only;obtain⟨y,hy⟩:∃y:MSl,y=⟨⟨d,false,z.v.may++[d],z.v.ever++[d]⟩,a3,c3,a4,c4⟩:=⟨_,rfl⟩;rw[<- hy,show c9 29 16 a3 (z.v.may.length+1) c3 (y5 (z.v.may++[d]))=y.m1 from by rw[hy];unfold MSl.m1;rw[List.length_append];rfl,show c9 29 16 a4 (z.v.ever.length+1) c4 (y5 (z.v.ever++[d]))=y.m2 from by rw[hy];unfold MSl.m2;rw[List.length_append];rfl];refine J.closeAt (A:=y.m1) 3 5 k rfl rfl rfl ?_;refine J.closeAt (A:=y.m2) 4 6 k rfl rfl rfl ?_;rw[<- List.map_set,<- List.map_set];refine J.qr [1,2,3,4] λ_=>?_;refine⟨Z.set k y,?_,?_,?_⟩
  ·rw[hin]
  ·unfold a7g;rw[List.length_set];rfl
  ·have hpg:Mv.pg (Z.map (·.v)) (k:Int)=z.v:=by unfold Mv.pg;rw[Int.toNat_natCast,List.getD_eq_getElem?_getD,List.getElem?_map,hz];rfl
   unfold Mv.write;rw[hin,if_pos rfl,hpg,List.map_set,Int.toNat_natCast,hy];rfl
 ·have ha:Mv.adr Z.length g i=none:=by unfold Mv.adr;rw[if_neg hi]
  have hin:Mv.inR (Z.map (·.v)) i=false:=by
   unfold Mv.inR;rw[List.length_map];simp;omega
  rw[ha];refine J.qT λ_=>?_;refine J.qr [1,2,3,4] λ_=>?_;exact⟨Z,by rw[hin],rfl,by unfold Mv.write;rw[hin];rfl⟩
theorem MSl.m1_of {y z:MSl} (ha:y.a1=z.a1) (hc:y.c1=z.c1) (hv:y.v.may=z.v.may):y.m1=z.m1:=by unfold MSl.m1;rw[ha,hc,hv]
theorem MSl.m2_of {y z:MSl} (ha:y.a2=z.a2) (hc:y.c2=z.c2) (hv:y.v.ever=z.v.ever):y.m2=z.m2:=by unfold MSl.m2;rw[ha,hc,hv]
theorem MSl.map_m1 {Z:List MSl} {k:Nat} {z y:MSl} (hz:Z[k]? =some z) (h:y.m1=z.m1):(Z.set k y).map MSl.m1=Z.map MSl.m1:=by rw[List.map_set,h];exact a3G (by rw[List.getElem?_map,hz];rfl)
theorem MSl.map_m2 {Z:List MSl} {k:Nat} {z y:MSl} (hz:Z[k]? =some z) (h:y.m2=z.m2):(Z.set k y).map MSl.m2=Z.map MSl.m2:=by rw[List.map_set,h];exact a3G (by rw[List.getElem?_map,hz];rfl)
theorem b2w {α:Type} {f:α->α} {V Y:List α} {k:Nat} {x:α} (h:Y=(V.take k).map f++V.drop k) (hk:k<V.length) (hx:Y[k]? =some x):Y.set k (f x)=(V.take (k+1)).map f++V.drop (k+1):=by
 have hl:((V.take k).map f).length=k:=by simp;omega
 have hv:V.drop k=V[k]::V.drop (k+1):=List.drop_eq_getElem_cons hk;have he:x=V[k]:=by
  rw[h,List.getElem?_append_right (by omega),hl,Nat.sub_self,hv,List.getElem?_cons_zero]at hx;injection hx with hx;exact hx.symm
 rw[h,hv,List.set_append_right _ _ (by omega),hl,Nat.sub_self,List.set_cons_zero,List.take_succ_eq_append_getElem hk,List.map_append,List.append_assoc,he];rfl
def Mv.cut1 (v:MPv):MPv:={v with op:=true}
theorem b7B (q g:Nat) (Z:List MSl) (hn:Z.length<=65536):FP 25 [pp q] (a7g q g Z) (λv As=>∃Z',v= .tuple #[]/\As=a7g q g Z'/\Z'.map (·.v)=Mv.cut (Z.map (·.v))):=by
 refine FE [2] Tryz.func25 λX F hX=>?_;refine J.qF λ_=>?_;refine J.q λ_=>?_;refine J.lo (α:=(Nat×List MSl)) (λz=>z.1<=Z.length/\z.2.length=Z.length/\z.2.map MSl.m1=Z.map MSl.m1/\z.2.map MSl.m2=Z.map MSl.m2/\z.2.map (·.v)=((Z.map (·.v)).take z.1).map Mv.cut1++(Z.map (·.v)).drop z.1) (λz=>[si 10 z.1,si 9 Z.length,⟨0,pp q,2, .tt⟩]) [2] (λz=>[.pt g 99 (z.2.flatMap MSl.cells)]) (λz=>Z.length-z.1) ((0,Z)) (⟨Nat.zero_le _,rfl,rfl,rfl,rfl⟩) rfl ?_ (λ_=>rfl) λz hI=>?_
 ·rfl
 obtain⟨k,Y⟩:=z;dsimp only at hI ⊢;obtain⟨hk,hYl,hY1,hY2,hY⟩:=hI;refine J.qd (λ_ h1=>?_) λ_ h1=>?_
 ·simp only[decide_eq_true_eq,Int.ofNat_lt]at h1;obtain⟨z,hz⟩:∃z,Y[k]? =some z:=⟨_,List.getElem?_eq_getElem (by omega)⟩;have hstep:(Y.set k ⟨Mv.cut1 z.v,z.a1,z.c1,z.a2,z.c2⟩).map (·.v)=((Z.map (·.v)).take (k+1)).map Mv.cut1++(Z.map (·.v)).drop (k+1):=by
   rw[List.map_set];exact b2w hY (by simpa using h1) (by rw[List.getElem?_map,hz];rfl)
  refine J.qn 16 λ_=>?_;refine J.s1 2 ((Y.set k ⟨Mv.cut1 z.v,z.a1,z.c1,z.a2,z.c2⟩).flatMap MSl.cells) ?_ ?_ ?_
  ·show 0+(k:Int).toNat*19+16<_;rw[MSl.flat_len];omega
  ·rw[show 0+(k:Int).toNat*19+16=k*19+16 from by omega];exact y6 MSl.cells 19 MSl.cells_len 16 (y:=⟨Mv.cut1 z.v,z.a1,z.c1,z.a2,z.c2⟩) _ hz (by omega) rfl
  refine J.q λ_=>?_;refine J.nS ((k+1,Y.set k ⟨Mv.cut1 z.v,z.a1,z.c1,z.a2,z.c2⟩)) (⟨by dsimp only;omega,by dsimp only;rw[List.length_set];exact hYl,(MSl.map_m1 (y:=⟨Mv.cut1 z.v,z.a1,z.c1,z.a2,z.c2⟩) hz (MSl.m1_of rfl rfl rfl)).trans hY1,(MSl.map_m2 (y:=⟨Mv.cut1 z.v,z.a1,z.c1,z.a2,z.c2⟩) hz (MSl.m2_of rfl rfl rfl)).trans hY2,hstep⟩) (by dsimp only;omega) [0,1,2,3,4] rfl rfl
 simp only[decide_eq_false_iff_not,Int.ofNat_lt]at h1;obtain rfl:k=Z.length:=by omega
 refine J.q λ_=>?_;refine J.f [1,2,3,4] ?_;refine⟨Y,rfl,?_,?_⟩
 ·unfold a7g;rw[hYl,hY1,hY2];rfl
 ·rw[hY,List.take_of_length_le (by simp),List.drop_eq_nil_of_le (by simp),List.append_nil];rfl
theorem Fv.allG_keep {k m:Nat}:∀(n:Nat) (i:Int) (Z:Fv),Z.Ok k m->(Fv.allG n i Z).1.Ok k m
 | 0,_,_,h=>h
 | n+1,i,Z,h=>by
  rw[Fv.allG_succ];split
  ·exact(Fv.read_keep h i).1
  ·exact Fv.allG_keep n (i+1) _ (Fv.read_keep h i).1
theorem Fv.all_keep {Z:Fv} {k m:Nat} (h:Z.Ok k m):Z.all.1.Ok k m:=by
 unfold Fv.all;split
 ·exact Fv.allG_keep _ _ _ h
 ·exact Fv.allG_keep _ _ _ h
namespace B21
def d1 (n:UInt8):List UInt8:=n::List.replicate 15 0
def N0:Nand:=Nand.new 3 8 2
def F0:Fv:=Fv.of (A6 N0).1
def F1:Fv×Int:=F0.write 1 (d1 7)
def F2:Fv×Int:=F1.1.trim 2
def F3:Fv×Int:=F2.1.write 3 zd
def F4:Fv×List UInt8×Int:=F3.1.read 1
def F5:Fv×Int:=F4.1.flush
def F6:Fv:=F5.1.setN (F5.1.S.N.setCut (-1) 0)
def F7:Fv×List UInt8×Int:=F6.read 1
def N8:Nand:=F7.1.S.N.onN
def F8:Fv:=Fv.of (A6 N8).1
def F9:Fv×List UInt8×Int:=F8.read 1
def Fa:Fv×List (List UInt8)×Int:=F9.1.all
def P0:Pv:=Pv.new 3 8 2 []
def s1:Stp:=⟨2,0,d1 9,0,0,dF⟩
def s2:Stp:=⟨1,0,zd,0,0,dF⟩
def Z1:Fv:=((F0.setN F0.S.N).write 0 (d1 9)).1
def Z2:Fv:=((Z1.setN Z1.S.N).read 0).1
def Z3:Fv:=((Z2.setN Z2.S.N)).flush.1
theorem m0:(A6 N0).2=0:=by kernel_rfl
theorem v1:F1.2=0:=by kernel_rfl
theorem v2:F2.2=0:=by kernel_rfl
theorem v3:F3.2=3:=by kernel_rfl
theorem v4:F4.2.2=0:=by kernel_rfl
theorem w4:F4.2.1=d1 7:=by kernel_rfl
theorem v5:F5.2=0:=by kernel_rfl
theorem v7:F7.2.2=9:=by kernel_rfl
theorem m8:(A6 N8).2=0:=by kernel_rfl
theorem v9:F9.2.2=0:=by kernel_rfl
theorem w9:F9.2.1=d1 7:=by kernel_rfl
theorem va:Fa.2.1.length=3:=by kernel_rfl
theorem wa:Fa.2.2=0:=by kernel_rfl
theorem z0:P0.Z=some F0:=by kernel_rfl
theorem e1:(P0.step s1).2.err=0:=by kernel_rfl
theorem z1:(P0.step s1).1.Z=some Z1:=by kernel_rfl
def P1:Pv:=(P0.step s1).1
theorem e2:(P1.step s2).2.data=d1 9:=by kernel_rfl
theorem z2:(P1.step s2).1.Z=some Z2:=by kernel_rfl
def P2:Pv:=(P1.step s2).1
theorem z3:(P2.step flS).1.Z=some Z3:=by kernel_rfl
theorem pL1:P1.L=[]:=by kernel_rfl
theorem pl1:P1.log.length=1:=by kernel_rfl
theorem pL2:P2.L=[]:=by kernel_rfl
theorem lg2:P2.log.length=2:=by kernel_rfl
theorem t3:decide ((Z3.ticks 50).2>=0)=true:=by kernel_rfl
theorem lgA:Fa.1.lg=3:=by kernel_rfl
def M0:List MPv:=Mv.new 2
def M1:List MPv:=Mv.cut (Mv.write M0 0 (d1 1))
theorem q1:Mv.may M1 0 zd=true:=by kernel_rfl
theorem q2:Mv.may M1 0 (d1 1)=true:=by kernel_rfl
theorem q3:Mv.may M1 0 (d1 2)=false:=by kernel_rfl
def K (j:Nat):Nat:=(20-j)*10000000000000
theorem ok0:F0.Ok (K 0) 0:=Fv.of_ok (a4b (a0I 3 8 2 rfl _ (by decide))).1 (by decide)
theorem ok1:F1.1.Ok (K 1) 0:=(Fv.write_keep (ok0.less (k':=Fv.cW+(1+K 1)) (by decide)) 1 rfl).1
theorem ok2:F2.1.Ok (K 2) 0:=(Fv.trim_keep (ok1.less (k':=Fv.cW+(1+K 2)) (by decide)) 2).1
theorem ok3:F3.1.Ok (K 3) 0:=(Fv.write_keep (ok2.less (k':=Fv.cW+(1+K 3)) (by decide)) 3 rfl).1
theorem ok4:F4.1.Ok (K 4) 0:=(Fv.read_keep (ok3.less (k':=K 4) (by decide)) 1).1
theorem ok5:F5.1.Ok (K 5) 0:=(Fv.flush_keep (ok4.less (k':=Fv.cW*200+K 5) (by decide))).1
theorem ok6:F6.Ok (K 5) 0:=ok5.setN (Nand.like_cut _ _ _) (ok5.dv.gd.cut (-1) 0 (by decide) (by decide))
theorem ok7:F7.1.Ok (K 5) 0:=(Fv.read_keep ok6 1).1
theorem g8:N8.Gd (Dv.costK+K 6) 0:=(ok7.dv.gd.less (by decide) (Nat.le_refl 0)).on
theorem ok8:F8.Ok (K 6) 0:=Fv.of_ok (a4b g8).1 (by decide)
theorem ok9:F9.1.Ok (K 6) 0:=(Fv.read_keep ok8 1).1
theorem oka:Fa.1.Ok (K 6) 0:=Fv.all_keep ok9
theorem okz1:Z1.Ok (K 1) 0:=(Fv.write_keep ((ok0.setN (Nand.Like.refl _) ok0.dv.gd).less (k':=Fv.cW+(1+K 1)) (by decide)) 0 rfl).1
theorem okz2:Z2.Ok (K 1) 0:=(Fv.read_keep (okz1.setN (Nand.Like.refl _) okz1.dv.gd) 0).1
theorem okz2o:Z2.S.N.off=false:=by kernel_rfl
end B21
end Go.Proofs.YtgkpkpbnonmopaaGreat
