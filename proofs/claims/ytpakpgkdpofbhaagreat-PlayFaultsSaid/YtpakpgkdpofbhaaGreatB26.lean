/- Helpers. No condition. -/
import Derived.Test.YtpakpgkdpofbhaaGreatB00
import Derived.Test.YtpakpgkdpofbhaaGreatB04
import Derived.Test.YtpakpgkdpofbhaaGreatB09
import Derived.Test.YtpakpgkdpofbhaaGreatB15
import Derived.Test.YtpakpgkdpofbhaaGreatB18
import Derived.Test.YtpakpgkdpofbhaaGreatB20
set_option maxRecDepth 20000
set_option linter.all false
namespace Go.Proofs.YtpakpgkdpofbhaaGreat
open Go Go.RowKit
structure Mono (N N':Nand):Prop where
 dead:N'.dead=N.dead
 ops:N.ops<=N'.ops
namespace Mono
theorem refl (N:Nand):Mono N N:=⟨rfl,D9 _⟩
theorem trans {N N' N2:Nand} (h:Mono N N') (h2:Mono N' N2):Mono N N2:=⟨h2.dead.trans h.dead,b0i h.ops h2.ops⟩
theorem cutN (N:Nand):Mono N N.cutN:=⟨rfl,by show N.ops<=N.ops+1;omega⟩
theorem prog (N:Nand) (x y z:Int) (pg:List UInt8):Mono N (N.progN x y z pg):=by
 have h:=cutN N;unfold Nand.progN;split
 ·exact refl N
 split
 ·exact⟨rfl,D9 _⟩
 split
 ·exact h.trans ⟨rfl,D9 _⟩
 ·exact h.trans ⟨rfl,D9 _⟩
theorem erase (N:Nand) (x y:Int):Mono N (N.eraseN x y):=by
 have h:=cutN N;unfold Nand.eraseN;dsimp only;split
 ·exact refl N
 split
 ·exact h.trans ⟨rfl,D9 _⟩
 split
 ·exact h.trans ⟨rfl,D9 _⟩
 ·exact h.trans ⟨rfl,D9 _⟩
theorem go (b r:Int):∀(q:List (Int×Sh)) (N:Nand) (f:Int),Mono N (R.go b r q N f).1
 | [],N,f=>by rw[R.go];exact refl N
 | (d,s)::q,N,f=>by
  rw[R.go];split
  ·exact(prog _ _ _ _ _).trans (go b r q _ _)
  ·split
   ·exact prog _ _ _ _ _
   ·exact(prog _ _ _ _ _).trans (go b r q _ _)
theorem row (N:Nand) (b r m:Int) (l:List En):Mono N (R.write N b r m l).1:=by
 unfold R.write;split
 ·exact go b r _ _ _
 ·exact refl N
theorem wr (S:Dv) (l:List En):Mono S.N (S.wr l).1:=row _ _ _ _ _
theorem loses (f:Int):∀(q:List Nat) (S:Dv),(q.foldl (Dv.lose f) S).N=S.N
 | [],S=>rfl
 | d::q,S=>by rw[y5,loses f q];exact(Dv.lose_N f S d).1
theorem write:∀(f:Nat) (S:Dv) (l:List En),Mono S.N (Dv.write f S l).1.N
 | 0,S,l=>refl _
 | f+1,S,l=>by
  have h1:=(Dv.at1_like S).1;have hw:=wr S.at1 l;rw[h1]at hw;rw[Dv.write_succ];split
  ·exact refl _
  split
  ·exact refl _
  split
  ·rw[h1];exact refl _
  split
  ·exact hw
  split
  ·exact hw
  split
  ·exact hw
  ·have ih:=write f ((S.at1.wrote l).loses (S.at1.wr l).2.1) l;have e:((S.at1.wrote l).loses (S.at1.wr l).2.1).N=(S.at1.wr l).1:=loses _ _ _;rw[e]at ih;exact hw.trans ih
theorem pen (S:Dv) (l:List En):Mono S.N (S.pen l).1.N:=write _ _ _
theorem carryGo:∀(f:Nat) (S:Dv) (l:List Int) (d:Int),Mono S.N (Dv.carryGo f S l d).1.N
 | 0,S,l,d=>refl _
 | f+1,S,l,d=>by
  rw[Dv.carryGo];dsimp only;split
  ·exact refl _
  split
  ·exact refl _
  split
  ·exact pen _ _
  ·exact(pen _ _).trans (carryGo f _ _ _)
theorem carry (S:Dv) (b most:Int):Mono S.N (S.carry b most).1.N:=carryGo _ _ _ _
theorem eraseD (b mk:Int) (x:Nand×Tl×Int) (d:Nat):Mono x.1 (Dv.eraseD b mk x d).1:=by
 unfold Dv.eraseD;split
 ·exact refl _
 split
 ·exact refl _
 ·exact erase _ _ _
theorem eraseF (b mk:Int):∀(q:List Nat) (x:Nand×Tl×Int),Mono x.1 (q.foldl (Dv.eraseD b mk) x).1
 | [],x=>refl _
 | d::q,x=>by rw[y5];exact(eraseD b mk x d).trans (eraseF b mk q _)
theorem erase1 (N:Nand) (t:Tl) (b:Int):Mono N (Dv.erase N t b).1:=by
 have h:Mono N (Dv.eraseB N t b).1:=eraseF _ _ _ (N,t,0);unfold Dv.erase;dsimp only;split
 ·exact h
 ·exact h
theorem clearGo:∀(l:List Int) (N:Nand) (t:Tl),Mono N (Dv.clearGo l N t).1
 | [],N,t=>refl _
 | b::l,N,t=>by
  rw[Dv.clearGo];split
  ·exact erase1 _ _ _
  ·exact(erase1 _ _ _).trans (clearGo l _ _)
theorem clear(S:Dv):Mono S.N S.clear.1.N:=clearGo _ _ _
theorem roomGo:∀(f:Nat) (S:Dv),Mono S.N (Dv.roomGo f S).1.N
 | 0,S=>refl _
 | f+1,S=>by
  rw[Dv.roomGo];split
  ·exact refl _
  split
  ·exact refl _
  dsimp only;split
  ·exact carry _ _ _
  split
  ·exact(carry _ _ _).trans (clear _)
  ·exact((carry _ _ _).trans (clear _)).trans (roomGo f _)
theorem room (S:Dv):Mono S.N S.room.1.N:=by
 unfold Dv.room;split
 ·exact clear _
 ·exact(clear _).trans (roomGo _ _)
theorem writes (F:Fv):Mono F.S.N F.writes.1.S.N:=by
 unfold Fv.writes;dsimp only;split
 ·exact room _
 ·exact(room _).trans (pen _ _)
theorem waits (F:Fv) (e:En):Mono F.S.N (F.waits e).1.S.N:=by
 unfold Fv.waits;dsimp only;split
 ·exact refl _
 split
 ·exact refl _
 split
 ·split
  ·exact writes F.ask
  ·exact writes F.ask
 ·exact refl _
end Mono
theorem Pv.step_write (P:Pv) (Z:Fv) (hZ:P.Z=some Z) (s:Stp) (hs:s.fn=2):P.step s=(⟨a1u Z.S.N.ops P.L,P.log++[⟨((Z.setN (a0q Z.S.N (R0 Z.S.N.ops P.L))).write s.lpn s.data).2,zd⟩],some ((Z.setN (a0q Z.S.N (R0 Z.S.N.ops P.L))).write s.lpn s.data).1,P.M⟩,⟨((Z.setN (a0q Z.S.N (R0 Z.S.N.ops P.L))).write s.lpn s.data).2,zd⟩):=by
 have hnd:P.nd=Z.S.N:=by unfold Pv.nd;rw[hZ]
 have hrun:P.run=⟨a1u Z.S.N.ops P.L,P.log,some (Z.setN (a0q Z.S.N (R0 Z.S.N.ops P.L))),P.M⟩:=by unfold Pv.run;rw[hnd];unfold Pv.setN;rw[hZ]
 have hd:P.run.does s=({P.run with Z:=some ((Z.setN (a0q Z.S.N (R0 Z.S.N.ops P.L))).write s.lpn s.data).1},⟨((Z.setN (a0q Z.S.N (R0 Z.S.N.ops P.L))).write s.lpn s.data).2,zd⟩):=by
  rw[hrun];unfold Pv.does;rw[i7 (by rw[hs];decide),i9 hs]
 unfold Pv.step;rw[hd,hrun]
def a4I (u:Nat) (v:Int):Fl:=⟨v,4,u,0,0,0,0⟩
theorem b8q {D B P u:Nat} {v:Int} (hu:u<D) (hB:0<B) (hP:0<P) (hv:0<=v):(a4I u v).may D B P=true:=by
 have hg:V4 D B P (u:Int) 0 0=true:=Nand.geoIn_of ⟨by omega,by omega⟩ ⟨by decide,by omega⟩ ⟨by decide,by omega⟩;unfold Fl.may;show(decide (v>=0)&&decide ((4:Int)>=1)&&decide ((4:Int)<=5)&&V4 D B P (u:Int) 0 0&&(a4I u v).turn)=true;rw[hg,l8 hv];rfl
theorem b5E {N:Nand} {u:Nat} (hN:N.Ok) (hu:u<N.dies):(N.fault 4 (u:Int) 0 0 0 0).2.dead.getD u false=true/\(N.fault 4 (u:Int) 0 0 0 0).2.ops=N.ops:=by
 have hg:=hN.bd16;have e:N.fault 4 (u:Int) 0 0 0 0=(true,{N with dead:=N.dead.set (u:Int).toNat true}):=by
  unfold Nand.fault;rw[i7 (by rw[Nand.geoIn_of ⟨by omega,by omega⟩ ⟨by decide,by omega⟩ ⟨by decide,by omega⟩];decide),i7 (by decide),i7 (by decide),i7 (by decide),i9 rfl]
 rw[e];refine⟨?_,rfl⟩;show(N.dead.set (u:Int).toNat true).getD u false=true;rw[l9,d7,u0,i9 rfl,i9 (by rw[hN.dead];exact hu)];rfl
theorem a9Y {N:Nand} {u:Nat} (hu:u<N.dies):N.deadAt (u:Int)=N.dead.getD u false:=by
 unfold Nand.deadAt;rw[l8 (show(0:Int)<=(u:Int)by omega),l8 (show(u:Int)<N.dies by omega),l9];rfl
theorem c0o:Fv.cW*200+(Dv.costS+(Dv.costK+(1+0)))<=UN*605:=by
 have h1:=a2j;have h2:=b8G;have h3:Dv.costS<=UN*2:=by
  have:Dv.costC<=Dv.costM:=by unfold Dv.costM Dv.costR;omega
  have:=a8J;unfold Dv.costS;omega
 have h4:=b8F;omega
def c2a (n:Int):List UInt8:=[u8 n,0,0,0,0,0,0,0,0,0,0,0,0,0,0,0]
structure Pq (D B Pg u:Nat) (v:Int) (i:Nat) (P:Pv) (Z:Fv):Prop where
 z:P.Z=some Z
 log:P.log.length=i
 st:(P.L=[a4I u v]/\Z.S.N.dead.getD u false=false/\∃c,DevF u D B Pg Z (760-i) 0 c)\/(P.L=[]/\Z.S.N.dead.getD u false=true/\v<=Z.S.N.ops/\∃c,DevF u D B Pg Z (760-i) 1 c)
theorem Pq.new {D B Pg u:Nat} {v:Int} (hD:3<=D/\D<=6) (hB:8<=B/\B<=16) (hP:2<=Pg/\Pg<=8) (hlg:lgN D B Pg<=200) (hgm:J3 D B Pg=true) (hu:u<D) (hv:0<=v):Pq D B Pg u v 0 (Pv.new D B Pg [a4I u v]) (Fv.of (Dv.new D B Pg (lgN D B Pg))):=by
 have hm:=a4g (Dv.Ok.new D B Pg (lgN D B Pg) hgm 0 (by decide));refine⟨?_,rfl, .inl ⟨?_,?_,_,(DevF.new (u:Int) hD hB hP hlg hgm).less (by omega)⟩⟩
 ·show(if(T4 (Nand.new D B Pg)).2=0 then some (Fv.of (T4 (Nand.new D B Pg)).1)else none)=_;rw[hm];rfl
 ·show W0 a2Y (plF D B Pg [a4I u v])=_;unfold plF;rw[V7,i9 (b8q hu (by omega) (by omega) hv)];rfl
 ·show(List.replicate D false).getD u false=false;rw[d7,G9];split<;>rfl
namespace Pq
variable {D B Pg u i : Nat} {v : Int} {P : Pv} {Z : Fv}
theorem geo (h:Pq D B Pg u v i P Z):Z.S.N.Ok/\Z.S.N.dies=D:=by
 rcases h.st with⟨_,_,c,hd⟩ | ⟨_,_,_,c,hd⟩
 ·exact⟨hd.ok.dv.gd.ok,hd.geo.1⟩
 ·exact⟨hd.ok.dv.gd.ok,hd.geo.1⟩
theorem few (h:Pq D B Pg u v i P Z) (hi:i<60):∃m,Z.Ok (UN*605) m/\m+(R0 Z.S.N.ops P.L).length<=1000/\P.L.length<=1000:=by
 rcases h.st with⟨e,_,c,hd⟩ | ⟨e,_,_,c,hd⟩
 ·refine⟨0,hd.ok.less (s7 _ (by omega)),?_,by rw[e];show 1<=1000;decide⟩;have:=b6k (b0Y Z.S.N.ops) P.L;rw[e]at this ⊢;have h1:([a4I u v]:List Fl).length=1:=rfl;unfold R0;omega
 ·refine⟨1,hd.ok.less (s7 _ (by omega)),?_,by rw[e];decide⟩;rw[e];show 1+0<=1000;decide
theorem step (h:Pq D B Pg u v i P Z) (hi:i<60) (hu:u<D) {s:Stp} (hs:s.fn=2) (hd:s.data.length=16):
  ∃Z',Pq D B Pg u v (i+1) (P.step s).1 Z'/\Z'.S.N.dead.getD u false=decide (Z.S.N.ops>=v):=by
 have hg:=h.geo;rw[Pv.step_write P Z h.z s hs];have go:∀(m:Nat) (c:Nat->List UInt8) (Y:Fv),DevF u D B Pg Y (760-i) m c->Y.S.N.ops=Z.S.N.ops->∃c',DevF u D B Pg (Y.write s.lpn s.data).1 (760-(i+1)) m c'/\(Y.write s.lpn s.data).1.S.N.dead.getD u false=Y.S.N.dead.getD u false/\Z.S.N.ops<=(Y.write s.lpn s.data).1.S.N.ops:=λm c Y hY ho=>by
  have hY2:DevF u D B Pg Y ((760-(i+1))+1) m c:=hY.less (by omega);obtain⟨er,c',_,w2,_⟩:=hY2.write s.lpn hd;have hm:Mono Y.S.N (Y.write s.lpn s.data).1.S.N:=Mono.waits Y _;exact⟨c',w2,by rw[hm.dead],by rw[<- ho];exact hm.ops⟩
 rcases h.st with⟨e,h1,c,hd⟩ | ⟨e,h1,h2,c,hd⟩
 ·rw[e]
  by_cases hv:v<=Z.S.N.ops
  ·have e1:R0 Z.S.N.ops [a4I u v]=[a4I u v]:=by
    unfold R0;rw[a4M,i9 (by unfold b0Y;exact l8 hv)];rfl
   have e2:a1u Z.S.N.ops [a4I u v]=[]:=by
    unfold a1u;rw[List.dropWhile_cons,i9 (by unfold b0Y;exact l8 hv)];rfl
   rw[e1,e2];have hf:=hd.faulted 4 0 0 0 0;obtain⟨q1,q2⟩:=b5E hg.1 (by rw[hg.2];exact hu);obtain⟨c',g1,g2,g3⟩:=go 1 c _ hf q2;refine⟨_,⟨rfl,?_, .inr ⟨rfl,?_,?_,c',g1⟩⟩,?_⟩
   ·show(P.log++[_]).length=i+1;rw[j6,h.log];rfl
   ·exact g2.trans q1
   ·exact b0i hv g3
   ·rw[l8 hv];exact g2.trans q1
  ·have e1:R0 Z.S.N.ops [a4I u v]=[]:=by
    unfold R0;rw[a4M,i7 (by unfold b0Y;exactλh=>hv (H1 h))]
   have e2:a1u Z.S.N.ops [a4I u v]=[a4I u v]:=by
    unfold a1u;rw[List.dropWhile_cons,i7 (by unfold b0Y;exactλh=>hv (H1 h))]
   rw[e1,e2];obtain⟨c',g1,g2,g3⟩:=go 0 c Z hd rfl;refine⟨_,⟨rfl,?_, .inl ⟨rfl,?_,c',g1⟩⟩,?_⟩
   ·show(P.log++[_]).length=i+1;rw[j6,h.log];rfl
   ·exact g2.trans h1
   ·rw[y8 hv];exact g2.trans h1
 ·rw[e];obtain⟨c',g1,g2,g3⟩:=go 1 c Z hd rfl;refine⟨_,⟨rfl,?_, .inr ⟨rfl,?_,?_,c',g1⟩⟩,?_⟩
  ·show(P.log++[_]).length=i+1;rw[j6,h.log];rfl
  ·exact g2.trans h1
  ·exact b0i h2 g3
  ·rw[l8 h2];exact g2.trans h1
end Pq
theorem b0t (g0 g1 g2 die att:Int) (A:Atom):FP 8 [.agg #[iI g0,iI g1,iI g2],iI die,iI att] [A] (Ps (.bool true) [A]):=by
 refine FE [0,0,0] Tryz.func8 λX F hX=>?_;refine J.q λbb=>?_;refine J.cb (a2R) [] ?_;refine cpq ⟨_,rfl,trivial,?_⟩;refine J.qF λ_=>?_;refine J.qc (b0M g0 g1 g2) [] λ_=>?_;rintro v As ⟨D,B,P,rfl,hD,hB,hP,rfl⟩;refine⟨_,rfl,trivial,?_⟩;have hgm:J3 D B P=true:=by simp[J3];omega
 have hgb:=a5j hD hB hP;have ht1:=a3K die D (by omega);have ht2:=b1y die D (by omega);have hs1:=a3K att 40 (by omega);have hs2:=b1y att 40 (by omega);refine J.pn 1 (.of [0,4,9,12,16,21,24,28,33,36,40]) [9,10] [2] λ_ _=>?_;obtain⟨u,hu⟩:=j8 ht2.1;obtain⟨v,hv⟩:∃v,(att.tmod 40+40).tmod 40=v:=⟨_,rfl⟩;refine J.q λby_=>?_;rw[hu,hv];rw[hu]at ht2;rw[hv]at hs2;refine J.q λ_=>?_;refine J.ca hX (by kernel_rfl) (b6P D B P hgm (.pt (by_ 0) 57 (B3 [a4I u v])) (some ⟨by_ 0,0,none⟩) 1 1 [a4I u v] (a2L _ _ _ _ _ rfl) rfl (by decide)) [3] 0 rfl rfl rfl rfl rfl rfl (λ_=>rfl) ?_;rintro _ As ⟨q,nn,A0,rfl,hA0,rfl⟩;have hQ0:=Pq.new (v:=v) hD hB hP hgb.2.1 hgm (show u<D by omega) hs2.1;generalize Fv.of (Dv.new D B P (lgN D B P))=Z0 at hQ0;generalize Pv.new D B P [a4I u v]=P0 at hA0 hQ0 ⊢;rw[a0U q nn A0 P0 Z0 hQ0.z];refine⟨_,rfl,trivial,?_⟩;refine J.qF λ_=>?_;refine J.q λ_=>?_;refine J.l (α:=(Nat×Pv×Pad×Fv)) (λz=>z.1<=60/\z.2.2.1.Ok z.2.1/\Pq D B P u v z.1 z.2.1 z.2.2.2) (λz=>[si 10 z.1,si 9 z.1,sp 8 q,si 1 u,si 2 v,⟨3,pp (bb 0),3, .tt⟩]) [4,5,6,7,8,9,10,11,12,13] (λz=>([PlQ q nn (some z.2.2.2) z.2.2.1.f (pp z.2.2.1.fp) (slv z.2.2.1.a2 z.2.1.log.length z.2.2.1.c2), .pt z.2.2.1.fp 247 [.slice (R3 z.2.2.1.a) z.2.1.L.length z.2.2.1.c],rdA (R3 z.2.2.1.a) 7 z.2.1.L.length (B3 z.2.1.L),t7 61 17 z.2.2.1.a2 z.2.1.log.length z.2.2.1.c2 (U1 z.2.1.log)]++FvP z.2.2.1.f z.2.2.1.p nn z.2.2.1.t z.2.2.1.l z.2.2.1.d z.2.2.2)) (λz=>60-z.1) ((0,P0,A0,Z0)) (⟨n7 60,hA0,hQ0⟩) λz hI=>?_;obtain⟨i,P1,A1,Z1⟩:=z;dsimp only at hI ⊢;obtain⟨hi,hA1,hQ1⟩:=hI;refine J.qd (λ_ h1=>?_) λ_ h1=>?_
 ·simp only[g7]at h1;have hi1:i<60:=by omega
  obtain⟨hN1,hd1⟩:=hQ1.geo;obtain⟨m,k1,k2,k3⟩:=hQ1.few hi1;have hdead:Z1.S.N.deadAt (u:Int)=Z1.S.N.dead.getD u false:=a9Y (by omega);refine J.qc (a7j q nn (flP (some Z1) A1.f) (pp A1.fp) (slv A1.a2 P1.log.length A1.c2)) [4] λ_=>?_;rintro _ As ⟨rfl,rfl⟩;refine⟨_,rfl,trivial,?_⟩;refine J.qc (b4a nn Z1.S.N) [10] λ_=>?_;rintro _ As ⟨rfl,rfl⟩;refine⟨_,rfl,trivial,?_⟩;refine J.qc (a7j q nn (flP (some Z1) A1.f) (pp A1.fp) (slv A1.a2 P1.log.length A1.c2)) [4] λ_=>?_;rintro _ As ⟨rfl,rfl⟩;refine⟨_,rfl,trivial,?_⟩;refine J.qc (a4z nn Z1.S.N hN1 u) [10] λ_=>?_;rintro _ As ⟨rfl,rfl⟩;refine⟨_,rfl,trivial,?_⟩;rw[hdead];refine J.qd (λ_ h2=>?_) λ_ h2=>?_
  ·exfalso
   rcases hQ1.st with⟨_,q1,_⟩ | ⟨_,_,q2,_⟩
   ·rw[q1]at h2;cases h2
   ·rw[Bool.and_eq_true_iff,g7]at h2;omega
  refine J.qc (a8t D B P hgm) [] λ_=>?_;rintro _ As ⟨rfl,rfl⟩;refine⟨_,rfl,trivial,?_⟩;refine J.qn 2 λ_=>?_;have hu8:((u8 (i:Int)).toNat:Int)<=255:=by have:=(u8 (i:Int)).toNat_lt;omega
  refine J.v (bv (u8 (i:Int))) rfl rfl (λhg a w he hs=>by rw[<- a1b (i:Int)];exact O6 tk rfl rfl he rfl rfl rfl) ?_;obtain⟨s2,hs3⟩:∃s2:Stp,s2=⟨2,(i:Int).tmod (lgN D B P),c2a i,0,0,dF⟩:=⟨_,rfl⟩;have hst:=a7i q nn A1 P1 hA1 Z1 hQ1.z 0 m (k1.less c0o) k2 k3 (by rw[hQ1.log];omega) s2 (by rw[hs3];rfl);obtain⟨Z2,hQ2,hd2⟩:=hQ1.step hi1 (show u<D by omega) (s:=s2) (by rw[hs3]) (by rw[hs3];rfl);rw[a0U q nn A1 P1 Z1 hQ1.z,hs3]at hst;rw[hs3]at hQ2;refine J.qc (hst) [4,5,6,7,8,9,10,11,12,13] λ_=>?_;rintro _ As ⟨A2,rfl,hA2,rfl⟩;generalize P1.step ⟨2,(i:Int).tmod (lgN D B P),c2a i,0,0,dF⟩=R at hQ2 hA2 ⊢;obtain⟨P2,tq⟩:=R;dsimp only at hQ2 hA2 ⊢;obtain⟨hN2,hD2⟩:=hQ2.geo;have hdead2:Z2.S.N.deadAt (u:Int)=Z2.S.N.dead.getD u false:=a9Y (by omega);rw[a0U q nn A2 P2 Z2 hQ2.z];refine⟨_,rfl,trivial,?_⟩;refine J.qc (a7j q nn (flP (some Z2) A2.f) (pp A2.fp) (slv A2.a2 P2.log.length A2.c2)) [4] λ_=>?_;rintro _ As ⟨rfl,rfl⟩;refine⟨_,rfl,trivial,?_⟩;refine J.qc (a4z nn Z2.S.N hN2 u) [10] λ_=>?_;rintro _ As ⟨rfl,rfl⟩;refine⟨_,rfl,trivial,?_⟩;rw[hdead2,hd2];refine J.qd (λ_ h3=>?_) λ_ h3=>?_
  ·simp at h3
  refine J.q λ_=>?_;refine J.n ((i+1,P2,A2,Z2)) (⟨by dsimp only;omega,hA2,hQ2⟩) (by dsimp only;omega) [0,1,2,3,4,5,6,7,8,9,10,11,12,13]
 exact J.qx [1]
end Go.Proofs.YtpakpgkdpofbhaaGreat
