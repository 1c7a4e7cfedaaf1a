/- Helpers. No condition. -/
import Derived.Test.YtpohajhbfllbbaaGreatE06
import Derived.Test.YtpohajhbfllbbaaGreatE18
import Derived.Test.YtpohajhbfllbbaaGreatE21
import Derived.Test.YtpohajhbfllbbaaGreatE23
import Derived.Test.YtpohajhbfllbbaaGreatE24
import Derived.Test.YtpohajhbfllbbaaGreatE25
import Derived.Test.YtpohajhbfllbbaaGreatE29
import Derived.Test.YtpohajhbfllbbaaGreatE31
set_option maxRecDepth 20000
set_option linter.all false
namespace Go.Proofs.YtpohajhbfllbbaaGreat
open Go Go.RowKit
def UN:Nat:=Fv.cW+1
theorem a8d:UN=Dv.costM+8*Dv.fuel+1:=rfl
theorem b4c:96<=UN:=by
 have:96<=8*Dv.fuel:=by decide
 rw[a8d];omega
theorem a8c:Fv.cW*200<=UN*200:=Nat.mul_le_mul_right _ (Nat.le_succ _)
theorem b1v:FI.costW*200<=UN*200:=Nat.mul_le_mul_right _ (Nat.le_succ _)
theorem a8b:Dv.costK<=UN*402:=by
 have h:Dv.costT*200<=UN*200:=Nat.mul_le_mul_right _ (Nat.le_succ _);have:=b4c;have h2:Dv.costM<=UN:=by rw[a8d];omega
 unfold Dv.costK;omega
theorem a8Z:UN*200000<=1000000000000000:=by decide+kernel
theorem b7U {n:Nat} (h:n<=200000):UN*n<=1000000000000000:=Nat.le_trans (Nat.mul_le_mul_left _ h) a8Z
theorem Inv.slots_le {fd:Int} {S:Dv} {k m:Nat} (h:Inv fd S) (hO:S.Ok k m) (hr:0<S.rows):S.slots<=(S.N.dies:Int)-1:=by
 have hg:=hO.gd.ok.bd16;unfold Dv.slots;rcases h.rows_pos hO hr with hl | hp
 ·rw[if_pos hl];have:=(h.opn hl).mask.pos hg.1;omega
 ·split
  ·rename_i hl;have:=(h.opn hl).mask.pos hg.1;omega
  ·rcases S.pick_spec with e | ⟨p1,p2,_,_⟩
   ·omega
   ·have:=(h.msk hO (Tl.has_iff.2 ⟨p1,p2⟩)).pos hg.1;omega
theorem a5A (l:List En) (e:En):1<=(I8 l e).length/\(I8 l e).length<=l.length+1:=by
 unfold I8;rw[List.length_append,List.length_singleton];have:=List.length_filter_le (λx:En=>!(x.lpn==e.lpn)) l;omega
theorem Fv.waits_len {F:Fv} {k m D:Nat} (hO:F.Ok (Fv.cW+k) m) {e:En} (h0:(F.waits e).2=0) (h1:1<=F.S.slots) (hs:F.S.slots<=(D:Int)-1) (hl:F.L.length+1<=D):1<=(F.waits e).1.L.length/\(F.waits e).1.L.length+1<=D:=by
 have hk:=Fv.writes_keep (F:=F.ask) hO.ask;have hl:F.ask.L.length+1<=D:=hl;have h1:1<=F.ask.S.slots:=h1;have hs:F.ask.S.slots<=(D:Int)-1:=hs;unfold Fv.waits at h0 ⊢
 by_cases ho:F.ask.off=true
 ·rw[if_pos ho]at h0;cases h0
 rw[if_neg ho]at h0 ⊢
 by_cases hr:e.lpn<0\/e.lpn>=F.ask.lg
 ·rw[if_pos hr]at h0;cases h0
 rw[if_neg hr]at h0 ⊢
 by_cases hw:(F.ask.L.length:Int)>=F.ask.S.slots
 ·rw[if_pos hw]at h0 ⊢;dsimp only at h0 ⊢
  by_cases he:F.ask.writes.2≠0
  ·rw[if_pos he]at h0;exact absurd h0 he
  ·rw[if_neg he];have h3:=hk.2.2.2 (Decidable.of_not_not he) (by omega);have:=a5A F.ask.writes.1.L {e with seq:=F.ask.writes.1.nx};show 1<=(I8 _ _).length/\(I8 _ _).length+1<=D;omega
 ·rw[if_neg hw];have:=a5A F.ask.L {e with seq:=F.ask.nx};show 1<=(I8 F.ask.L _).length/\(I8 F.ask.L _).length+1<=D;omega
structure Dev (D B P:Nat) (F:Fv) (n:Nat) (c:Nat->List UInt8):Prop where
 fc:∃W,FC W (lgN D B P) F/\∀i:Nat,i<lgN D B P->cur W F.L i=c i
 ok:F.Ok (UN*n) 0
 nx:F.S.next+8000*(n:Int)<=1099000000000
 br:F.S.N.broken=0
 geo:F.S.N.dies=D/\F.S.N.blocks=B/\F.S.N.pages=P
 wt:F.L.length+1<=D
 le:n<=200000
namespace Dev
variable {D B P n : Nat} {F : Fv} {c : Nat → List UInt8}
theorem lg (h:Dev D B P F n c):F.lg=(lgN D B P:Int):=by
 obtain⟨W,hW,_⟩:=h.fc;exact hW.fi.lgn
theorem less (h:Dev D B P F n c) {k:Nat} (hk:k<=n):Dev D B P F k c:=
 ⟨h.fc,h.ok.less (Nat.mul_le_mul_left _ hk),by have:=h.nx;omega,h.br,h.geo,h.wt,by have:=h.le;omega⟩
theorem read (h:Dev D B P F n c) {i:Nat} (h1:i<lgN D B P):F.read i=(F,c i,0):=by
 obtain⟨W,hW,hc⟩:=h.fc;rw[hW.fi.read,if_neg (by omega),hc i h1]
theorem like (h:Dev D B P F n c) {G:Fv} (hl:F.S.N.Like G.S.N):G.S.N.dies=D/\G.S.N.blocks=B/\G.S.N.pages=P:=
 ⟨hl.dies.trans h.geo.1,hl.blocks.trans h.geo.2.1,hl.pages.trans h.geo.2.2⟩
theorem off (h:Dev D B P F n c):F.S.N.off=false:=by
 obtain⟨W,hW,_⟩:=h.fc;exact hW.fi.inv.lit.off
theorem slots (h:Dev D B P F n c):1<=F.S.slots/\F.S.slots<=(D:Int)-1:=by
 obtain⟨W,hW,_⟩:=h.fc;have hg:=h.ok.dv.gd.ok.bd16;have:=hW.fi.inv.slots_le h.ok.dv (by have:=hW.rows;omega);rw[h.geo.1]at this;exact⟨hW.slots h.ok.dv,this⟩
theorem put (h:Dev D B P F (n+1) c) {e:En} {u:Nat} (hu:e.lpn=(u:Int)) (he:FitR e/\e.role≠4/\e.lpn<(lgN D B P:Int)) (hk:(F.waits e).1.Ok (UN*n) 0):
  (F.waits e).2=0/\Dev D B P (F.waits e).1 n (λj=>if j=u then e.data else c j)/\1<=(F.waits e).1.L.length:=by
 obtain⟨W,hW,hc⟩:=h.fc;have hU:UN*(n+1)=UN*n+UN:=Nat.mul_succ _ _;have hU2:=a8d;have hnx:=h.nx;obtain⟨F',W',r1,r2,r3,_,r5,r6,r7⟩:=hW.waits (k:=UN*n) (h.ok.dv.less (by omega)) (by omega) he;have hs:=h.slots;have hlen:=Fv.waits_len (k:=UN*n) (D:=D) (e:=e) (h.ok.less (by unfold Fv.cW;omega)) (by rw[r1]) hs.1 hs.2 h.wt;rw[r1]at hk hlen ⊢;exact⟨rfl,⟨⟨W',r2,λi hi=>by
  rw[r3,hu,hc i hi]
  by_cases e:i=u
  ·rw[if_pos e,if_pos (by omega)]
  ·rw[if_neg e,if_neg (by omega)]⟩,hk,by dsimp only;omega,r6.trans h.br,h.like r7,hlen.2,by have:=h.le;omega⟩,hlen.1⟩
theorem write (h:Dev D B P F (n+1) c) {i:Nat} (h1:i<lgN D B P) {d:List UInt8} (hd:d.length=16):
  (F.write i d).2=0/\Dev D B P (F.write i d).1 n (λj=>if j=i then d else c j)/\1<=(F.write i d).1.L.length:=by
 have h200:=(Fv.lg_bd (F:=F) h.ok.dv.gd.ok).2;rw[h.lg]at h200;have hU:UN*(n+1)=UN*n+UN:=Nat.mul_succ _ _;exact h.put (e:=⟨(i:Int),0,1,d⟩) (u:=i) rfl ⟨⟨⟨Int.natCast_nonneg i,by show(i:Int)<=65535;omega⟩, .inl rfl,hd⟩,by show(1:Int)≠4;decide,by show(i:Int)<_;omega⟩ (Fv.write_keep (k:=UN*n) (h.ok.less (by unfold UN at hU ⊢;omega)) i hd).1
theorem trim (h:Dev D B P F (n+1) c) {i:Nat} (h1:i<lgN D B P):
  (F.trim i).2=0/\Dev D B P (F.trim i).1 n (λj=>if j=i then zeros16 else c j)/\1<=(F.trim i).1.L.length:=by
 have h200:=(Fv.lg_bd (F:=F) h.ok.dv.gd.ok).2;rw[h.lg]at h200;have hU:UN*(n+1)=UN*n+UN:=Nat.mul_succ _ _;exact h.put (e:=⟨(i:Int),0,2,zeros16⟩) (u:=i) rfl ⟨⟨⟨Int.natCast_nonneg i,by show(i:Int)<=65535;omega⟩, .inr ⟨.inl rfl,rfl⟩,rfl⟩,by show(2:Int)≠4;decide,by show(i:Int)<_;omega⟩ (Fv.trim_keep (k:=UN*n) (h.ok.less (by unfold UN at hU ⊢;omega)) i).1
theorem flush (h:Dev D B P F (n+200) c):F.flush.2=0/\Dev D B P F.flush.1 n c/\F.flush.1.L=[]:=by
 obtain⟨W,hW,hc⟩:=h.fc;have hU:UN*(n+200)=UN*n+UN*200:=Nat.mul_add _ _ _;have hf:=a8c;have hf2:=b1v;have hnx:=h.nx;have hk:=(Fv.flush_keep (k:=UN*n) (m:=0) (h.ok.less (by omega))).1;obtain⟨F',W',r1,r2,_,r4,r5,r6,r7,r8⟩:=hW.flush (k:=UN*n) (h.ok.dv.less (by omega)) (by omega);have hg:=h.ok.dv.gd.ok.bd16;rw[h.geo.1]at hg;rw[r1]at hk ⊢;exact⟨rfl,⟨⟨W',r2,λi hi=>by rw[r8,hc i hi]⟩,hk,by dsimp only;omega,r5.trans h.br,h.like r6,by dsimp only;rw[r7];simp only[List.length_nil];omega,by have:=h.le;omega⟩,r7⟩
theorem gdC (h:Dev D B P F n c) {k:Nat} (hk:k<=UN*n):F.S.N.cyc.Gd k 0:=
 ((h.ok.dv.less hk).gd.cut (-1) 0 (by decide) (by decide)).on
theorem again (h:Dev D B P F (n+403) c):(s9 F.S.N.cyc).2=0/\∃c',Dev D B P (Fv.of (s9 F.S.N.cyc).1) n c'/\(F.L=[]->c'=c):=by
 obtain⟨W,hW,hc⟩:=h.fc;have hU:UN*(n+403)=UN*n+UN*403:=Nat.mul_add _ _ _;have hm:=a8b;have hnx:=h.nx;have hle:=h.le;have hg:=h.ok.dv.gd.ok.bd16;rw[h.geo.1]at hg;have hlk:=(F.S.N.cyc_same hW.fi.inv.lit).1;have hG:F.S.N.cyc.Gd (Dv.costK+UN*n) 0:=h.gdC (by omega);obtain⟨V,W',r1,r2,r3,r4,r5,r6,r7⟩:=hW.again (k:=UN*n) (m:=0) ⟨hG,h.ok.dv.t.like hlk,h.ok.dv.T,h.ok.dv.sl,h.ok.dv.row,h.ok.dv.next⟩ (by omega);rw[r1];refine⟨rfl,λi=>if F.L=[]then c i else cur W [] i,⟨⟨W',r2,λi hi=>by
  rw[show(Fv.of V).L=[]from rfl,r3]
  by_cases hL:F.L=[]
  ·rw[if_pos hL,<- hc i hi,hL]
  ·rw[if_neg hL]⟩,Fv.of_ok r4 (b7U (by omega)),by show V.next+_<=_;omega,r6.trans h.br,h.like (G:=Fv.of V) r7,by show 0+1<=D;omega,by omega⟩,λhL=>funext λi=>if_pos hL⟩
theorem new (hD:3<=D/\D<=6) (hB:8<=B/\B<=16) (hP:2<=P/\P<=8) (hlg:lgN D B P<=200) (hcap:2*lgN D B P<=(B-5)*(P*(D-2))+1) (hgm:p9 D B P=true):Dev D B P (Fv.of (Dv.new D B P (lgN D B P))) 200000 (λ_=>zeros16):=
 ⟨⟨[],FC.new hD hB hP hlg hcap,λ_ _=>rfl⟩,Fv.of_ok (Dv.Ok.new D B P _ hgm _ a8Z) a8Z,by show(1:Int)+8000*((200000:Nat):Int)<=_;omega,rfl,⟨rfl,rfl,rfl⟩,by show 0+1<=D;omega,Nat.le_refl _⟩
end Dev
theorem b0E:∀D,D<7->3<=D->(IntKind.i64.wrap ((BitVec.ofInt IntKind.i64.bits 0&&& BitVec.ofInt IntKind.i64.bits (Tl.andN (L.all (D:Nat)) (L.all (D:Nat)))).toNat:Int) !=0)=false:=by decide+kernel
theorem GI.hurt_none {W:List (Int×En)} {S:Dv} {k m:Nat} (h:GI (-1) W S) (hO:S.Ok k m):S.hurts=[]:=by
 have hg:=hO.gd.ok.bd16;have htd:=hO.t.d;have htb:=hO.t.b;refine V4 _ λx hx=>?_;have hhas:S.t.has (x:Int)=true:=Tl.has_iff.2 (by omega);have hm:=(a9x (h.inv.msk hO hhas) hg.1).1;have:K1 S.t S.T x=false:=by
  unfold K1;rw[List.any_eq_false];intro i _;have hl:a3r S.t S.T x i=false:=by
   unfold a3r;rw[hm,htd];cases ha:Tb.look S.T.at_ i with
   | none=>exact b0E _ (by omega) hg.1.1
   | some a=>
    have:=(a9x (h.msk i a ha) hg.1).1;show(IntKind.i64.wrap ((BitVec.ofInt IntKind.i64.bits a.mask&&& _).toNat:Int) !=0)=false;rw[this];exact(b2O _ (by omega) hg.1.1).1
  rw[hl];exact Bool.false_ne_true
 rw[this,Bool.and_false]
namespace FC
variable {W : List (Int × En)} {lg k m : Nat} {F : Fv}
theorem room (h:FC W lg F) (hO:F.S.Ok (Dv.costM+k) m) (hnx:F.S.next<=1099511627775-30000000):
  ∃V,F.S.room=(V,0)/\FC W lg {F with S:=V}/\V.Ok k m/\V.next<=F.S.next+6400/\V.N.broken=F.S.N.broken/\F.S.N.Like V.N:=by
 have hg:=hO.gd.ok.bd16;have htb:=hO.t.b;obtain⟨V,β',v1,v2,v3,v4,v5,v6,v7,v8,v9,v10,v11,v12,v13⟩:=h.rmy.room (k:=k) (hO.less (by
  have:Dv.costR*F.S.t.b<=Dv.costR*16:=Nat.mul_le_mul_left _ (by omega);unfold Dv.costM;omega)) (.calm h.no) (by have:=h.rows;omega) (by omega) (by omega)
 obtain rfl:β'=0:=by omega
 have hmany:=v2.many v3 v4;obtain⟨hg1,hg2⟩:=h.gi.room (k:=k) hO (.calm h.no) (by have:=h.fi.log;have:=h.fi.lg2;omega) (by omega);rw[v1]at hg1;refine⟨V,v1,⟨⟨v2.inv,v2.hd,h.fi.wok,h.fi.wr,v12.trans h.fi.log,?_,h.fi.lg2,h.fi.des,h.fi.nd,h.fi.off⟩,v2,v6.nof,by show 5*V.N.pages<=V.rows+1;omega,?_,hg1⟩,v3,v8,v10,v11⟩
 ·have:=h.fi.lgn;unfold Fv.lg at this ⊢;show((lgN V.N.dies V.N.blocks V.N.pages:Nat):Int)=_;rw[v11.dies,v11.blocks,v11.pages];exact this
 ·show 2*lg<=(V.N.blocks-5)*(V.N.pages*(V.N.dies-2))+1;rw[v11.blocks,v11.pages,v11.dies];exact h.cap
theorem seen (h:FC W lg F):F.S.seen=F.S:=by
 unfold Dv.seen;rw[a3f h.no.dead]
end FC
theorem Fv.all_of {F:Fv} {lg:Nat} {c:Nat->List UInt8} (hlg:F.lg=(lg:Int)) (hr:∀i:Nat,i<lg->F.read i=(F,c i,0)):F.all=(F,(List.range lg).map c,0):=by
 have:∀k i:Nat,i+k<=lg->Fv.allG k i F=(F,(List.range k).map (λj:Nat=>c (i+j)),0):=by
  intro k
  induction k with
  | zero=>intro i _;rfl
  | succ k ih=>
   intro i hi;rw[Fv.allG_succ,hr i (by omega)];dsimp only;rw[if_neg (by decide),show(i:Int)+1=((i+1:Nat):Int)from by omega,ih (i+1) (by omega),List.range_succ_eq_map,List.map_cons,List.map_map];dsimp only;refine congrArg (λx=>(F,x,(0:Int))) ?_;rw[Nat.add_zero];refine congrArg _ (List.map_congr_left λj _=>?_);show c (i+1+j)=c (i+(j+1));rw[show i+1+j=i+(j+1)from by omega]
 unfold Fv.all;rw[hlg,Int.toNat_natCast];have h0:=this lg 0 (by omega);rw[show((0:Nat):Int)=0 from rfl]at h0;rw[h0,if_neg (by simp)];refine congrArg (λx=>(F,x,(0:Int))) (List.map_congr_left λj _=>?_);rw[Nat.zero_add]
namespace Dev
variable {D B P n : Nat} {F : Fv} {c : Nat → List UInt8}
theorem tick (h:Dev D B P F (n+2) c):F.tick.2=0/\Dev D B P F.tick.1 n c/\F.tick.1.L=F.L:=by
 obtain⟨W,hW,hc⟩:=h.fc;have hU:UN*(n+2)=UN*n+UN*2:=Nat.mul_add _ _ _;have hUe:=a8d;have hS:Dv.costS<=UN*2:=by
  have:Dv.costC<=Dv.costM:=by unfold Dv.costM Dv.costR;omega
  unfold Dv.costS;omega
 have hnx:=h.nx;have hk:=(Fv.tick_keep (k:=UN*n) (m:=0) (h.ok.less (by omega))).1;obtain⟨V,r1,r2,r3,r4,r5,r6⟩:=hW.room (k:=UN*n) (h.ok.dv.less (by unfold Dv.costS at hS;omega)) (by omega);have hh:V.hurts=[]:=r2.gi.hurt_none r3;have he:F.tick=({F with S:=V},0):=by
  unfold Fv.tick Dv.step;rw[hW.fi.ask,hW.fi.off,if_neg Bool.false_ne_true,hW.seen,r1];dsimp only;rw[if_neg (by decide),hh];show(({F with S:=V}:Fv).told 0,(0:Int))=_;unfold Fv.told;rw[hW.fi.off];simp[hW.fi.off]
 rw[he]at hk ⊢;exact⟨rfl,⟨⟨W,r2,hc⟩,hk,by show V.next+_<=_;omega,r5.trans h.br,h.like (G:={F with S:=V}) r6,h.wt,by have:=h.le;omega⟩,rfl⟩
theorem whole (h:Dev D B P F n c):F.whole=(F,true):=by
 obtain⟨W,hW,hc⟩:=h.fc;unfold Fv.whole;rw[hW.fi.ask,hW.fi.off,if_neg Bool.false_ne_true,hW.seen];unfold Dv.leftN;rw[hW.gi.hurt_none h.ok.dv];rfl
theorem all (h:Dev D B P F n c):F.all=(F,(List.range (lgN D B P)).map c,0):=Fv.all_of h.lg λ_ hi=>h.read hi
end Dev
theorem a9E {d b p:Nat} (hd:3<=d/\d<=6) (hb:8<=b/\b<=16) (hp:2<=p/\p<=8):1<=lgN d b p/\lgN d b p<=200/\2*lgN d b p<=(b-5)*(p*(d-2))+1:=by
 have h1:(b-5)*p*(d-2)=(b-5)*(p*(d-2)):=Nat.mul_assoc _ _ _;have h2:3*2<=(b-5)*p:=Nat.mul_le_mul (by omega) hp.1;have h3:6*1<=(b-5)*p*(d-2):=Nat.mul_le_mul h2 (by omega);have h4:(b-5)*p<=11*8:=Nat.mul_le_mul (by omega) hp.2;have h5:(b-5)*p*(d-2)<=88*4:=Nat.mul_le_mul h4 (by omega);unfold lgN;omega
def a8a (U:WAd) (W:Wa) (Zl:List MSl):List Atom:=b4b U W::b4a U W::(X4 U.R Zl++V0 U.q U.nn U.A W.P)
def a6F (U:WAd) (W:Wa) (Zl:List MSl) (Z:Fv):List Atom:=[b4b U W,b4a U W]++X4 U.R Zl++([PlQ U.q U.nn (some Z) U.A.f (pp U.A.fp) (slv U.A.a2 W.P.log.length U.A.c2), .pt U.A.fp 155 [.slice (y7 U.A.a) W.P.L.length U.A.c],rdA (y7 U.A.a) 7 W.P.L.length (f6 W.P.L),c9 40 17 U.A.a2 W.P.log.length U.A.c2 (y9 W.P.log)]++FvP U.A.f U.A.p U.nn U.A.t U.A.l U.A.d Z)
theorem R9 {W:Wa} {Z:Fv} (hZ:W.P.Z=some Z) (U:WAd) (Zl:List MSl):a8a U W Zl=a6F U W Zl Z:=by
 unfold a8a a6F;rw[C3 U.q U.nn U.A W.P Z hZ];rfl
theorem b6i (g0 g1 g2 die:Int) (A:Atom) (ad:Option Addr) (n c:Nat) (l:List Fl) (hA:Rd A ad 7 n (f6 l)) (hl:l.length=n):
  FP 15 [.agg #[iI g0,iI g1,iI g2],iI die, .slice ad n c] [A] (λv As=>∃(D B P:Nat) (U:WAd) (Zl:List MSl),v=pp U.w/\(3<=D/\D<=6)/\(8<=B/\B<=16)/\(2<=P/\P<=8)/\U.A.Ok (Wa.new D B P die l).P/\Zl.map (·.v)=(Wa.new D B P die l).M/\As=A::a8a U (Wa.new D B P die l) Zl):=by
 refine FE [0,0,0] Tryz.func15 λX F hX=>?_;refine J.q λbb=>?_;refine J.cb (b6N g0 g1 g2) [] ?_;rintro v As ⟨D,B,P,rfl,hD,hB,hP,rfl⟩;refine⟨_,rfl,trivial,?_⟩;have hgm:p9 D B P=true:=by simp[p9];omega
 have hgb:=a9E hD hB hP;have ht1:=a4J die D (by omega);have ht2:=b1O die D (by omega);refine J.pq (.of [0,4,9,12,16,21,24,28,33,36,41,46,50,52,58,60]) [15] [2] λ_ _=>?_;obtain⟨u,hu⟩:∃u,(die.tmod D+D).tmod D=u:=⟨_,rfl⟩;rw[hu];refine J.qp (a8K D B P hgm) [] λ_=>?_;refine J.qc (a6s (lgN D B P) (lgN D B P) (by omega)) [] λ_=>?_;rintro v As ⟨R,Zl,rfl,rfl,hZl⟩;refine⟨_,rfl,stq,?_⟩;refine J.q λbw=>?_;refine J.turn1 [] rfl (As:=[c9 35 7 none 0 0 (f6 [])]) (λh s=>Sep.one ⟨rfl,rfl,rfl⟩) rfl ?_;refine J.q λ_=>?_;refine J.l (α:=(Nat×Option Nat×Nat)) (λz=>z.1<=n/\z.1<=15) (λz=>[si 9 z.1,sv 8 (slv z.2.1 z.1 z.2.2),⟨7,pp (bw 0),11, .tt⟩,sv 2 (.slice ad n c),⟨3,pp (bb 0),3, .tt⟩]) [11] (λz=>[c9 35 7 z.2.1 z.1 z.2.2 (f6 ((l.take z.1).map (Wa.fx u)))]) (λz=>15-z.1) ((0,none,0)) (⟨Nat.zero_le _,Nat.zero_le _⟩) λz hI=>?_;obtain⟨k,ga,ca⟩:=z;dsimp only at hI ⊢;obtain⟨hk1,hk2⟩:=hI;refine J.qd (λ_ h1=>?_) λ_ h1=>?_
 ·simp only[Bool.and_eq_true,decide_eq_true_eq,Int.ofNat_lt]at h1;obtain⟨h1,h2⟩:=h1;have h2:k<15:=by omega
  obtain⟨x,hx⟩:∃x,l[k]? =some x:=⟨_,List.getElem?_eq_getElem (by omega)⟩;refine J.know (p:=∃g o,ad=some ⟨g,o,none⟩) (λh' s=>Rd.addr (hA _ (s.get (i:=1) rfl)) (by omega)) λhk2=>?_;obtain⟨g,o,rfl⟩:=hk2;refine J.q λ_=>?_;refine J.v (flV x) rfl rfl (λhg a w he hw=>?_) ?_
  ·exact R2 tk rfl rfl he rfl rfl rfl (hA _ (hw.get (i:=1) rfl)) (by omega) (j:=k*7) (by omega) (by have:=C9 l [] k _ hx;rwa [List.append_nil]at this) rfl
  refine J.q λ_=>?_;refine J.ap 11 13 0 (a1p ((l.take k).map (Wa.fx u)) (Wa.fx u x)) λa3 c3=>?_;rw[show(l.take k).map (Wa.fx u)++[Wa.fx u x]=(l.take (k+1)).map (Wa.fx u)from by rw[List.take_add_one,hx];simp];refine J.q λ_=>?_;refine J.n ((k+1,a3,c3)) (⟨by dsimp only;omega,by dsimp only;omega⟩) (by dsimp only;omega) [0,1,2,3,4,5,6,7,8,9,10,11]
 have hk3:l.take k=l.take 15:=by
  simp only[Bool.and_eq_false_iff,decide_eq_false_iff_not,Int.ofNat_lt]at h1;rcases Nat.lt_or_ge k n with h | h
  ·have:k=15:=by omega
   rw[this]
  ·rw[List.take_of_length_le (by omega),List.take_of_length_le (by omega)]
 have hfl:(l.take 15).map (Wa.fx u)=Wa.fl D die l:=by unfold Wa.fl Wa.dieI;rw[hu]
 rw[hk3,hfl];have hkl:k=(Wa.fl D die l).length:=by rw[<- hfl,List.length_map,<- hk3,List.length_take];omega
 clear hk3 hk1 h1;subst hkl;obtain⟨fs,hfs⟩:∃fs,Wa.fl D die l=fs:=⟨_,rfl⟩;rw[hfs]at hk2 ⊢;have hz:(Pv.new D B P fs).Z=some (Fv.of (Dv.new D B P (lgN D B P))):=by
  show(if(s9 (Nand.new D B P)).2=0 then some (Fv.of (s9 (Nand.new D B P)).1)else none)=_;rw[a5a (Dv.Ok.new D B P (lgN D B P) hgm 0 (by decide))];rfl
 refine J.qc (b2n D B P hgm (c9 35 7 ga fs.length ca (f6 fs)) (oad ga) fs.length ca fs (C7 _ _ _ _ _ _) rfl hk2) [11] λ_=>?_;rintro _ As ⟨q,nn,A0,rfl,hA0,rfl⟩;rw[C3 q nn A0 _ _ hz];refine⟨_,rfl,stq,?_⟩;refine J.qr [1,10,11,3,4,5,6,7,8,9,12,13,14,15,16,17,18,19,20,21] λ_=>?_;refine⟨D,B,P,⟨bw 0,q,nn,A0,R,ga,ca⟩,Zl,rfl,hD,hB,hP,?_,hZl,?_⟩
 ·show A0.Ok (Pv.new D B P (Wa.fl D die l));rw[hfs];exact hA0
 ·have hw:Wa.new D B P die l=⟨Pv.new D B P fs,Mv.new (lgN D B P),u,false,false,false,fs,0,0⟩:=by unfold Wa.new;rw[hfs];unfold Wa.dieI;rw[hu]
  rw[hw];unfold a8a b4b b4a;dsimp only;rw[C3 q nn A0 _ _ hz];rfl
namespace Fv
variable {F : Fv}
end Fv
namespace Dev
variable {D B P n : Nat} {F : Fv} {c : Nat → List UInt8}
theorem ask (h:Dev D B P F n c):F.ask=F:=by
 obtain⟨W,hW,_⟩:=h.fc;exact hW.fi.ask
theorem foff (h:Dev D B P F n c):F.off=false:=by
 obtain⟨W,hW,_⟩:=h.fc;exact hW.fi.off
theorem readI (h:Dev D B P F n c) (i:Int):F.read i=if i<0\/i>=(lgN D B P:Int)then(F,zeros16,3)else(F,c i.toNat,0):=by
 by_cases hi:i<0\/i>=(lgN D B P:Int)
 ·obtain⟨W,hW,_⟩:=h.fc;rw[hW.fi.read,if_pos hi,if_pos hi]
 ·have:=h.read (i:=i.toNat) (by omega);rw[Int.toNat_of_nonneg (by omega)]at this;rw[if_neg hi,this]
theorem waits_out (h:Dev D B P F n c) {e:En} (hi:e.lpn<0\/e.lpn>=(lgN D B P:Int)):F.waits e=(F,3):=by
 unfold Fv.waits;rw[h.ask,h.foff,if_neg Bool.false_ne_true,h.lg,if_pos hi]
theorem writeI (h:Dev D B P F (n+1) c) (i:Int) {d:List UInt8} (hd:d.length=16):(F.write i d).2=(if i<0\/i>=(lgN D B P:Int)then 3 else 0)/\∃c',Dev D B P (F.write i d).1 n c':=by
 by_cases hi:i<0\/i>=(lgN D B P:Int)
 ·rw[show F.write i d=(F,3)from h.waits_out (e:=⟨i,0,1,d⟩) hi,if_pos hi];exact⟨rfl,c,h.less (by omega)⟩
 ·obtain⟨w1,w2,_⟩:=h.write (i:=i.toNat) (by omega) hd;rw[Int.toNat_of_nonneg (by omega)]at w1 w2;rw[if_neg hi];exact⟨w1,_,w2⟩
theorem trimI (h:Dev D B P F (n+1) c) (i:Int):(F.trim i).2=(if i<0\/i>=(lgN D B P:Int)then 3 else 0)/\∃c',Dev D B P (F.trim i).1 n c':=by
 by_cases hi:i<0\/i>=(lgN D B P:Int)
 ·rw[show F.trim i=(F,3)from h.waits_out (e:=⟨i,0,2,zeros16⟩) hi,if_pos hi];exact⟨rfl,c,h.less (by omega)⟩
 ·obtain⟨w1,w2,_⟩:=h.trim (i:=i.toNat) (by omega);rw[Int.toNat_of_nonneg (by omega)]at w1 w2;rw[if_neg hi];exact⟨w1,_,w2⟩
end Dev
theorem Mv.write_len (M:List MPv) (i:Int) (d:List UInt8):(Mv.write M i d).length=M.length:=by unfold Mv.write;split<;>simp
theorem Mv.saw_len (M:List MPv) (i:Int) (d:List UInt8):(Mv.saw M i d).length=M.length:=by unfold Mv.saw;split<;>simp
theorem Mv.flush_len (M:List MPv):(Mv.flush M).length=M.length:=by unfold Mv.flush;simp
theorem Mv.cut_len (M:List MPv):(Mv.cut M).length=M.length:=by unfold Mv.cut;simp
def Mv.Fine (M:List MPv) (b:Nat):Prop:=∀v∈M,v.now.length=16/\(∀x∈v.may,x.length=16)/\(∀x∈v.ever,x.length=16)/\v.may.length<=b/\v.ever.length<=b
theorem Mv.Fine.more {M:List MPv} {b c:Nat} (h:Mv.Fine M b) (hb:b<=c):Mv.Fine M c:=λv hv=>by
 obtain⟨f1,f2,f3,f4,f5⟩:=h v hv;exact⟨f1,f2,f3,by omega,by omega⟩
theorem Mv.Fine.set {M:List MPv} {b:Nat} (h:Mv.Fine M b) {k:Nat} {v:MPv} (hv:v.now.length=16/\(∀x∈v.may,x.length=16)/\(∀x∈v.ever,x.length=16)/\v.may.length<=b/\v.ever.length<=b):Mv.Fine (M.set k v) b:=λx hx=>by
 rcases List.mem_or_eq_of_mem_set hx with h' | h'
 ·exact h x h'
 ·rw[h'];exact hv
theorem Mv.Fine.pg {M:List MPv} {b:Nat} (h:Mv.Fine M b) (hb:1<=b) (i:Int):(Mv.pg M i).now.length=16/\(∀x∈(Mv.pg M i).may,x.length=16)/\(∀x∈(Mv.pg M i).ever,x.length=16)/\(Mv.pg M i).may.length<=b/\(Mv.pg M i).ever.length<=b:=by
 unfold Mv.pg;rw[List.getD_eq_getElem?_getD];cases hx:M[i.toNat]? with
 | none=>exact⟨rfl,by decide,by decide,hb,hb⟩
 | some v=>exact h v (List.mem_of_getElem? hx)
theorem Mv.Fine.write {M:List MPv} {b:Nat} (h:Mv.Fine M b) (hb:1<=b) (i:Int) {d:List UInt8} (hd:d.length=16):Mv.Fine (Mv.write M i d) (b+1):=by
 unfold Mv.write;split
 ·obtain⟨f1,f2,f3,f4,f5⟩:=h.pg hb i;refine(h.more (by omega)).set ⟨hd,λx hx=>?_,λx hx=>?_,?_,?_⟩
  ·rcases List.mem_append.1 hx with h' | h'
   ·exact f2 x h'
   ·rw[List.mem_singleton.1 h'];exact hd
  ·rcases List.mem_append.1 hx with h' | h'
   ·exact f3 x h'
   ·rw[List.mem_singleton.1 h'];exact hd
  ·show((Mv.pg M i).may++[d]).length<=_;rw[List.length_append,List.length_singleton];omega
  ·show((Mv.pg M i).ever++[d]).length<=_;rw[List.length_append,List.length_singleton];omega
 ·exact h.more (by omega)
theorem Mv.Fine.saw {M:List MPv} {b:Nat} (h:Mv.Fine M b) (hb:1<=b) (i:Int) {d:List UInt8} (hd:d.length=16):Mv.Fine (Mv.saw M i d) b:=by
 unfold Mv.saw;split
 ·obtain⟨f1,f2,f3,f4,f5⟩:=h.pg hb i;refine h.set ?_;unfold Mv.seen;split
  ·exact⟨hd,λx hx=>by rw[List.mem_singleton.1 hx];exact hd,f3,hb,f5⟩
  ·exact⟨f1,f2,f3,f4,f5⟩
 ·exact h
theorem Mv.Fine.flush {M:List MPv} {b:Nat} (h:Mv.Fine M b) (hb:1<=b):Mv.Fine (Mv.flush M) b:=λv hv=>by
 unfold Mv.flush at hv;obtain⟨x,hx,rfl⟩:=List.mem_map.1 hv;obtain⟨f1,f2,f3,f4,f5⟩:=h x hx;show(if x.op then x else {x with may:=[x.now]}).now.length=16/\(∀y∈(if x.op then x else {x with may:=[x.now]}).may,y.length=16)/\(∀y∈(if x.op then x else {x with may:=[x.now]}).ever,y.length=16)/\(if x.op then x else {x with may:=[x.now]}).may.length<=b/\(if x.op then x else {x with may:=[x.now]}).ever.length<=b;split
 ·exact⟨f1,f2,f3,f4,f5⟩
 ·exact⟨f1,λy hy=>by rw[List.mem_singleton.1 hy];exact f1,f3,hb,f5⟩
theorem Mv.Fine.cut {M:List MPv} {b:Nat} (h:Mv.Fine M b):Mv.Fine (Mv.cut M) b:=λv hv=>by
 unfold Mv.cut at hv;obtain⟨x,hx,rfl⟩:=List.mem_map.1 hv;exact h x hx
namespace Wa
variable {W : Wa} {s : Stp}
theorem hold_len (W:Wa) (s:Stp) (t:Td):(W.hold s t).1.length=W.M.length:=by
 unfold hold
 repeat' split
 all_goals first | rfl | exact Mv.saw_len _ _ _ | exact Mv.write_len _ _ _ | exact Mv.flush_len _
theorem hold_fine {b:Nat} (h:Mv.Fine W.M b) (hb:1<=b) (hd:s.data.length=16) {t:Td} (ht:t.data.length=16):Mv.Fine (W.hold s t).1 (b+1):=by
 have hz:(if s.fn=3 then zd else s.data).length=16:=by split;(· rfl);exact hd
 unfold hold
 repeat' split
 all_goals first | exact h.more (Nat.le_succ _) | exact(h.saw hb _ ht).more (Nat.le_succ _) | exact h.write hb _ hz | exact h.write hb _ (show zd.length=16 from rfl) | exact h.write hb _ hd | exact(h.flush hb).more (Nat.le_succ _)
end Wa
theorem Pv.run_none {P:Pv} {Z:Fv} (hZ:P.Z=some Z) (hL:P.L=[]):P.run=P:=by
 have hnd:P.nd=Z.S.N:=by unfold Pv.nd;rw[hZ]
 cases P;dsimp only at hZ hL;subst hZ hL;rfl
theorem a9P {W:List (Int×En)} {L:List En} (hW:WOk W) (hL:∀e∈L,e.data.length=16) (i:Int):(cur W L i).length=16:=by
 unfold cur;split
 ·rename_i e he;exact hL e (List.mem_of_find?_eq_some he)
 ·split
  ·rename_i e he;exact(hW i e he).2.len
  ·rfl
theorem Dev.read_len {D B P n:Nat} {F:Fv} {c:Nat->List UInt8} (h:Dev D B P F n c) (i:Int):(F.read i).2.1.length=16:=by
 obtain⟨W,hW,hc⟩:=h.fc;rw[hW.fi.read];split
 ·rfl
 ·exact a9P hW.fi.wok h.ok.dat i
structure Wt (D B P:Nat) (W:Wa) (Z:Fv) (n b:Nat):Prop where
 z:W.P.Z=some Z
 dev:∃c,Dev D B P Z n c
 none:W.P.L=[]
 stuck:W.stuck=false
 len:W.M.length=lgN D B P
 fine:Mv.Fine W.M b
 log:W.P.log.length<=b
 b1:1<=b
namespace Wt
variable {D B P n b : Nat} {W : Wa} {Z : Fv}
theorem does (h:Wt D B P W Z (n+605) b) {s:Stp} (h6:s.fn≠6) (h8:s.fn≠8) (hd:s.data.length=16):
  ∃Z' t c,W.P.does s=({W.P with Z:=some Z'},t)/\Dev D B P Z' n c/\t.data.length=16/\(s.fn=7->t.err=0):=by
 obtain⟨c,hD⟩:=h.dev;have hnd:W.P.nd=Z.S.N:=by unfold Pv.nd;rw[h.z]
 unfold Pv.does
 by_cases h1:s.fn=1
 ·rw[if_pos h1,h.z];dsimp only;have hr:=hD.readI s.lpn;refine⟨Z,⟨(Z.read s.lpn).2.2,(Z.read s.lpn).2.1⟩,c,by rw[hr];split<;>rfl,hD.less (by omega),?_,λh7=>by omega⟩;exact hD.read_len s.lpn
 rw[if_neg h1]
 by_cases h2:s.fn=2
 ·rw[if_pos h2,h.z];obtain⟨_,c',w⟩:=(hD.less (k:=n+1) (by omega)).writeI s.lpn hd;exact⟨_,_,c',rfl,w,rfl,λh7=>by omega⟩
 rw[if_neg h2]
 by_cases h3:s.fn=3
 ·rw[if_pos h3,h.z];obtain⟨_,c',w⟩:=(hD.less (k:=n+1) (by omega)).trimI s.lpn;exact⟨_,_,c',rfl,w,rfl,λh7=>by omega⟩
 rw[if_neg h3]
 by_cases h4:s.fn=4
 ·rw[if_pos h4,h.z];obtain⟨_,w,_⟩:=(hD.less (k:=n+200) (by omega)).flush;exact⟨_,_,c,rfl,w,rfl,λh7=>by omega⟩
 rw[if_neg h4]
 by_cases h5:s.fn=5
 ·rw[if_pos h5,h.z];obtain⟨_,w,_⟩:=(hD.less (k:=n+2) (by omega)).tick;exact⟨_,_,c,rfl,w,rfl,λh7=>by omega⟩
 rw[if_neg h5,if_neg h6]
 by_cases h7:s.fn=7
 ·rw[if_pos h7];obtain⟨w0,c',w,_⟩:=(hD.less (k:=n+403) (by omega)).again;have hm:W.P.mounts=({W.P with Z:=some (Fv.of (s9 Z.S.N.cyc).1)},0):=by
   unfold Pv.mounts;dsimp only;rw[hnd,hD.off,if_neg Bool.false_ne_true,show(Z.S.N.setCut (-1) 0).onN=Z.S.N.cyc from rfl,if_pos w0]
  rw[hm];exact⟨_,_,c',rfl,w,rfl,λ_=>rfl⟩
 rw[if_neg h7,if_neg h8];refine⟨Z,⟨1,zd⟩,c,?_,hD.less (by omega),rfl,λh=>absurd h h7⟩;rw[<- h.z]
theorem step (h:Wt D B P W Z (n+605) b) {s:Stp} (h6:s.fn≠6) (h8:s.fn≠8) (hd:s.data.length=16):∃Z',Wt D B P (W.step s) Z' n (b+1):=by
 obtain⟨Z',t,c,e1,e2,e3,e4⟩:=h.does h6 h8 hd;have hst:W.P.step s=({W.P with Z:=some Z',log:=W.P.log++[t]},t):=by
  unfold Pv.step;rw[Pv.run_none h.z h.none,e1]
 have hask:W.ask s=s:=by unfold Wa.ask;rw[if_neg h8]
 have hb1:=h.b1;have hlog:(W.P.log++[t]).length<=b+1:=by rw[List.length_append,List.length_singleton];have:=h.log;omega
 unfold Wa.step;rw[h.stuck,if_neg Bool.false_ne_true,if_neg h8];dsimp only
 by_cases hsk:Wa.skip s=true
 ·rw[if_pos hsk];obtain⟨c0,hD⟩:=h.dev;exact⟨Z,⟨h.z,⟨c0,hD.less (by omega)⟩,h.none,h.stuck,h.len,h.fine.more (by omega),by have:=h.log;omega,by omega⟩⟩
 rw[if_neg hsk,hask,hst];dsimp only;have hM:=(Wa.hold_len W s t).trans h.len;have hF:=Wa.hold_fine h.fine hb1 hd e3;have hoff:({W.P with Z:=some Z',log:=W.P.log++[t]}:Pv).nd.off=false:=e2.off
 by_cases h7:s.fn=7
 ·have h0:=e4 h7;rw[if_pos h7,if_pos h0];refine⟨Z',⟨rfl,⟨c,e2⟩,h.none,?_,(Mv.cut_len _).trans hM,hF.cut,hlog,by omega⟩⟩;dsimp only;rw[h0];rfl
 ·rw[if_neg h7];exact⟨Z',⟨rfl,⟨c,e2⟩,h.none,h.stuck,hM,hF,hlog,by omega⟩⟩
end Wt
namespace Wa
variable {W : Wa} {s : Stp}
theorem step_skip (hst:W.stuck=false) (h8:s.fn≠8) (h:skip s=true):W.step s=W:=by
 unfold step;rw[hst];simp[h8,h]
theorem ask_n (h8:s.fn≠8):W.ask s=s:=by unfold ask;rw[if_neg h8]
theorem step_mount (hst:W.stuck=false) (h7:s.fn=7) (h:skip s=false) (he:(W.P.step s).2.err=0):W.step s={W with P:=(W.P.step s).1,M:=Mv.cut W.M,stuck:=false,since:=(W.P.step s).1.nd.ops,late:=0}:=by
 have h8:s.fn≠8:=by omega
 unfold step;rw[hst];simp only[h8,h,ask_n h8,h7,he];unfold hold;simp[h7,he]
theorem step_else (hst:W.stuck=false) (h7:s.fn≠7) (h8:s.fn≠8) (h:skip s=false) (hon:W.on=true) (hoff:(W.P.step s).1.nd.off=false):W.step s={W with P:=(W.P.step s).1,M:=(W.hold s (W.P.step s).2).1,wrong:=(W.wrong||(W.hold s (W.P.step s).2).2)||(decide ((W.P.step s).2.err=9)||decide ((W.P.step s).2.err=12)),full:=W.full||decide ((W.P.step s).2.err=11)}:=by
 unfold step;rw[hst];simp[h8,h,ask_n h8,h7,hon,hoff];exact hst
variable {t : Td}
theorem hold1_0 (h1:s.fn=1) (he:t.err=0):W.hold s t=(Mv.saw W.M s.lpn t.data,!Mv.may W.M s.lpn t.data):=by unfold hold;simp[h1,he]
theorem hold1_e (h1:s.fn=1) (he:t.err≠0):W.hold s t=(W.M,(decide (t.err=10)||decide (t.err=11))||(decide (t.err=3)&&decide (s.lpn>=0)&&decide (s.lpn<(W.M.length:Int)))):=by unfold hold;simp[h1,he]
theorem hold2_0 (h2:s.fn=2) (he:t.err=0):W.hold s t=(Mv.write W.M s.lpn s.data,!Mv.inR W.M s.lpn):=by unfold hold;simp[h2,he]
theorem hold3_0 (h3:s.fn=3) (he:t.err=0):W.hold s t=(Mv.write W.M s.lpn zd,!Mv.inR W.M s.lpn):=by unfold hold;simp[h3,he]
theorem hold2_e (h1:s.fn=2\/s.fn=3) (he:t.err≠0):W.hold s t=(W.M,false):=by
 unfold hold;rcases h1 with h | h<;>simp[h,he]
theorem hold4_0 (h4:s.fn=4) (he:t.err=0):W.hold s t=(Mv.flush W.M,false):=by unfold hold;simp[h4,he]
theorem hold4_e (h4:s.fn=4) (he:t.err≠0):W.hold s t=(W.M,false):=by unfold hold;simp[h4,he]
theorem hold_x (h1:s.fn≠1) (h2:s.fn≠2) (h3:s.fn≠3) (h4:s.fn≠4):W.hold s t=(W.M,false):=by unfold hold;simp[h1,h2,h3,h4]
end Wa
theorem a4n {R:RAd} {Z:List MSl} {n:Nat} (h:Z.length=n):X4 R Z=[.pt R.q 98 [.slice (some ⟨R.n,0,none⟩) n n, .slice (some ⟨R.o,0,none⟩) n n, .slice (some ⟨R.m,0,none⟩) n n, .slice (some ⟨R.e,0,none⟩) n n], .pt R.n 31 (J5 Z), .pt R.o 4 (opC Z), .pt R.m 56 (E6 Z), .pt R.e 56 (C4 Z), .hp (HP.of (Z.map MSl.m1)), .hp (HP.of (Z.map MSl.m2))]:=by subst h;rfl
set_option pp.deepTerms true in
set_option pp.maxSteps 1000000 in
theorem b4k (U:WAd) (W:Wa) (Zl:List MSl) (hA:U.A.Ok W.P) (Z Z2:Fv) (hZ:W.P.Z=some Z) (k m:Nat) (hO:Z.Ok (Fv.cW*200+(Dv.costS+(Dv.costK+(1+k)))) m) (hm:m+(B1 Z.S.N.ops W.P.L).length<=12) (hL:W.P.L.length<=1000) (hlg:W.P.log.length<=1000) (s:Stp) (hs:s.data.length=16) (hst:W.stuck=false) (h8:s.fn≠8) (hoff:Z.S.N.off=false) (hZ2:(W.P.step s).1.Z=some Z2) (hoff2:Z2.S.N.off=false) (hmt:s.fn=7->(W.P.step s).2.err=0) (htd:(W.P.step s).2.data.length=16) (hM:Zl.map (·.v)=W.M) (hf:∀z∈Zl,z.Fine) (hn:Zl.length<=65536):
  FP 16 [pp U.w,stV s] (a8a U W Zl) (λv As=>∃(A':Pad) (Zl':List MSl),v= .tuple #[]/\A'.Ok (W.step s).P/\Zl'.map (·.v)=(W.step s).M/\As=a8a {U with A:=A'} (W.step s) Zl'):=by
 have hon:W.on=true:=by unfold Wa.on Pv.nd;rw[hZ];simp[hoff]
 have hnd:(W.P.step s).1.nd=Z2.S.N:=by unfold Pv.nd;rw[hZ2]
 have hoff3:(W.P.step s).1.nd.off=false:=by rw[hnd];exact hoff2
 have hps:=a2H U.q U.nn U.A W.P hA Z hZ k m hO hm hL hlg s hs;rw[C3 U.q U.nn U.A W.P Z hZ]at hps;have hW0:a8a U W Zl=[b4b U W,b4a U W]++X4 U.R Zl++([PlQ U.q U.nn (some Z) U.A.f (pp U.A.fp) (slv U.A.a2 W.P.log.length U.A.c2), .pt U.A.fp 155 [.slice (y7 U.A.a) W.P.L.length U.A.c],rdA (y7 U.A.a) 7 W.P.L.length (f6 W.P.L),c9 40 17 U.A.a2 W.P.log.length U.A.c2 (y9 W.P.log)]++FvP U.A.f U.A.p U.nn U.A.t U.A.l U.A.d Z):=by
  unfold a8a;rw[C3 U.q U.nn U.A W.P Z hZ];rfl
 obtain⟨w,q,nn,A,R,fa,fc⟩:=U;obtain⟨P,M,die,wrong,full,stuck,fs,since,late⟩:=W;dsimp only at*;subst hst;rw[hW0];unfold b4b b4a;dsimp only;refine FE [2,0] Tryz.func16 λX F hX=>?_;refine J.q λbz=>?_;refine J.cF ?_;refine J.q λ_=>?_;rw[beq_eq_false_iff_ne.2 h8];refine J.qF λ_=>?_;refine J.qd (λ_ hk=>?_) λ_ hk=>?_
 ·have hsk:Wa.skip s=true:=hk;refine J.qr [1,2,3,4,5,6,7,8,9,10,11,12,13,14,15,16,17,18,19] λ_=>?_;rw[Wa.step_skip rfl h8 hsk];exact⟨A,Zl,rfl,hA,hM,by rw[hW0];rfl⟩
 have hsk:Wa.skip s=false:=hk;have hse:=λh7=>Wa.step_else (W:=⟨P,M,die,wrong,full,false,fs,since,late⟩) (s:=s) rfl h7 h8 hsk hon hoff3;have hsm:=λh7=>Wa.step_mount (W:=⟨P,M,die,wrong,full,false,fs,since,late⟩) (s:=s) rfl h7 hsk (hmt h7);obtain⟨P2,td,hPt⟩:∃P2 td,P.step s=(P2,td):=⟨_,_,rfl⟩;dsimp only at hse hsm;rw[hPt]at hps hZ2 hmt htd hoff3 hnd hse hsm;dsimp only at hps hZ2 hmt htd hoff3 hnd hse hsm;refine J.q λb7=>?_;refine J.cb (a2I q nn (flP (some Z) A.f) (pp A.fp) (slv A.a2 P.log.length A.c2)) [10] ?_;rintro _ As ⟨rfl,rfl⟩;refine⟨_,rfl,trivial,?_⟩;refine J.qc (V6 nn Z.S.N) [16] λ_=>?_;rintro _ As ⟨rfl,rfl⟩;refine⟨_,rfl,trivial,?_⟩;rw[hoff];refine J.qc (a6a q nn (some Z) A.f (pp A.fp) (slv A.a2 P.log.length A.c2)) [10] λ_=>?_;rintro _ As ⟨rfl,rfl⟩;refine⟨_,rfl,trivial,?_⟩;refine J.pn 5 (.take true 0 (.take true 1 (.take true 2 (.take false 3 (.take false 4 (.alt false 5 ((.of [26,31])) (.alt false 6 ((.of [22,31])) .non))))))) [7] [1,20] λ_ _=>?_;refine J.join (α:={A':Pad//A'.Ok P2}×Nat) (λx=>[⟨5,pp x.2,22, .tt⟩,sv 4 (.bool true),⟨3,pp (bz 0),21, .tt⟩,⟨0,pp w,2, .tt⟩]) (λx=> .hp F::(a6F ⟨w,q,nn,x.1.1,R,fa,fc⟩ ⟨P2,M,die,wrong,full,false,fs,since,late⟩ Zl Z2++[.pt (bz 0) 37 (stC s), .pt x.2 40 (tdC td)])) (λhj=>?_) (λx=>?_)
 ·refine J.alts ?_ ?_
  ·skip
   refine J.qc (hps) [10,11,12,13,14,15,16,17,18,19] λ_=>?_;rintro _ As ⟨A',rfl,hA',rfl⟩;rw[C3 q nn A' P2 Z2 hZ2];refine⟨_,rfl,stq,?_⟩;refine J.qn 2 λbt=>?_;exact J.goto [0,1,2,3,4,5,6,7,8,9,10,11,12,13,14,15,16,17,18,19,20,21] (hj (⟨A',hA'⟩,bt 0)) ⟨rfl,rfl,rfl,rfl,trivial⟩ rfl rfl
  ·skip
   refine J.qn 1 λbt=>?_;refine J.qc (hps) [10,11,12,13,14,15,16,17,18,19] λ_=>?_;rintro _ As ⟨A',rfl,hA',rfl⟩;rw[C3 q nn A' P2 Z2 hZ2];refine⟨_,rfl,stq,?_⟩;refine J.qn 1 λ_=>?_;exact J.goto [0,1,2,3,4,5,6,7,8,9,10,11,12,13,14,15,16,17,18,19,20,21] (hj (⟨A',hA'⟩,bt 0)) ⟨rfl,rfl,rfl,rfl,trivial⟩ rfl rfl
 obtain⟨⟨A',hA'⟩,bt⟩:=x;unfold a6F;dsimp only;refine J.qc (a2I q nn (flP (some Z2) A'.f) (pp A'.fp) (slv A'.a2 P2.log.length A'.c2)) [10] λ_=>?_;rintro _ As ⟨rfl,rfl⟩;refine⟨_,rfl,trivial,?_⟩;refine J.qc (V6 nn Z2.S.N) [16] λ_=>?_;rintro _ As ⟨rfl,rfl⟩;refine⟨_,rfl,trivial,?_⟩;rw[hoff2];obtain⟨e,dt⟩:=td;dsimp only at htd hmt hse hsm;refine J.qn 9 λ_=>?_;refine J.join (α:={x:List MSl×Bool//x.1.map (·.v)=(Wa.hold ⟨P,M,die,wrong,full,false,fs,since,late⟩ s ⟨e,dt⟩).1/\x.2=(Wa.hold ⟨P,M,die,wrong,full,false,fs,since,late⟩ s ⟨e,dt⟩).2}) (λx=>[sv 6 (.bool false),⟨5,pp bt,22, .tt⟩,sv 4 (.bool true),⟨3,pp (bz 0),21, .tt⟩,⟨0,pp w,2, .tt⟩]) (λx=> .hp F::(a6F ⟨w,q,nn,A',R,fa,fc⟩ ⟨P2,M,die,x.1.2||wrong,full,false,fs,since,late⟩ x.1.1 Z2++[.pt (bz 0) 37 (stC s), .pt bt 40 (tdC ⟨e,dt⟩)])) (λhj=>?_) (λx=>?_)
 ·refine J.qd (λ_ f1=>?_) λ_ f1=>?_
  ·have f1:s.fn=1:=beq_iff_eq.1 f1
   by_cases e0:e=0
   ·subst e0;have hh:=Wa.hold1_0 (W:=⟨P,M,die,wrong,full,false,fs,since,late⟩) (t:=⟨0,dt⟩) f1 rfl;refine J.p (.of [0,5,8,12,16,20,24,29,32,37,40,45,50,52,56,60,64,69,72,76,80,84,89,92,96,100,104,109,112,116,120,125,128,132,136,140,145,148,152,156,161,164,168,173,176,180,184,188]) [] [1,3,20,21] λ_=>?_;refine J.qc (b5C R Zl hn hf s.lpn dt htd) [3,4,5,6,7,8,9] λ_=>?_;rintro _ As ⟨Zl',rfl,rfl,hZl'⟩;have hzl:Zl'.length=Zl.length:=by have:=congrArg List.length hZl';rw[Mv.saw_len]at this;simpa using this
    rw[a4n hzl];refine⟨_,rfl,stq,?_⟩;rw[hM]at hZl' ⊢;refine J.q λ_=>?_;refine J.vT (.slice (some ⟨R.n,0,none⟩) Zl.length Zl.length) rfl rfl (λhg aa w he hC=>i4 tk rfl rfl he hg rfl rfl (hC rfl _ (g7 (i:=3) rfl)) rfl) ?_;refine J.q λ_=>?_;dsimp only;refine J.qd (λ_ hw=>?_) λ_ hw=>?_
    ·have hw:(!Mv.may M s.lpn dt)=true:=by simpa using hw
     refine J.qn 5 λ_=>?_;exact J.goto [0,1,2,3,4,5,6,7,8,9,10,11,12,13,14,15,16,17,18,19,20,21] (hj ⟨(Zl',true),by rw[hh];exact hZl',by rw[hh];exact hw.symm⟩) ⟨rfl,rfl,rfl,rfl,rfl,trivial⟩ rfl (by unfold a6F;dsimp only;rw[a4n hzl];rfl)
    ·have hw:(!Mv.may M s.lpn dt)=false:=by simpa using hw
     refine J.qn 2 λ_=>?_;exact J.goto [0,1,2,3,4,5,6,7,8,9,10,11,12,13,14,15,16,17,18,19,20,21] (hj ⟨(Zl',false),by rw[hh];exact hZl',by rw[hh];exact hw.symm⟩) ⟨rfl,rfl,rfl,rfl,rfl,trivial⟩ rfl (by unfold a6F;dsimp only;rw[a4n hzl];rfl)
   ·have hh:=Wa.hold1_e (W:=⟨P,M,die,wrong,full,false,fs,since,late⟩) (t:=⟨e,dt⟩) f1 e0;refine J.pn 3 (.of [0,5,8,12,16,20,24,29,32,37,40,45,50,52,56,60,64,69,72,76,80,84,89,92,96,100,104,109,112,116,120,125,128,132,136,140,145,148,152,156,161,164,168,173,176,180,184,188]) [] [1,3,20,21] λ_ _=>?_;dsimp only;rw[beq_eq_false_iff_ne.2 e0];refine J.q λ_=>?_;refine J.gcase hX rfl rfl rfl stq (λhb=>by simp at hb) (λhb=>?_);refine J.q λ_=>?_;refine J.vT (.bool true) rfl rfl (λhg aa w he hC=>by simp[G.on]at hg) ?_;refine J.r hX tk 400 (λ_=>rfl) (λ_=>?_) (λ_=>by(repeat' (first | exact Conj.nil | refine Conj.cons ?_ ?_ | exact rfl | assumption | (rw[Bool.not_eq_true'];assumption) | exact Bool.and_eq_true_iff.2 ⟨by first | assumption | (rw[Bool.not_eq_true'];assumption),by assumption⟩ | intro hq | (simp;done) | (simp;omega) | decide)));refine J.vT (.slice (some ⟨R.n,0,none⟩) Zl.length Zl.length) rfl rfl (λhg aa w he hC=>i4 tk rfl rfl he hg rfl rfl (hC rfl _ (g7 (i:=3) rfl)) rfl) ?_;refine J.r hX tk 400 (λ_=>rfl) (λ_=>?_) (λ_=>by(repeat' (first | exact Conj.nil | refine Conj.cons ?_ ?_ | exact rfl | assumption | (rw[Bool.not_eq_true'];assumption) | exact Bool.and_eq_true_iff.2 ⟨by first | assumption | (rw[Bool.not_eq_true'];assumption),by assumption⟩ | intro hq | (simp;done) | (simp;omega) | decide)));dsimp only;refine J.qd (λ_ hw=>?_) λ_ hw=>?_
    ·have hw:((decide (e=10)||decide (e=11))||(decide (e=3)&&decide (s.lpn>=0)&&decide (s.lpn<(M.length:Int))))=true:=by
      rw[<- hM,List.length_map];simpa using hw
     refine J.qn 5 λ_=>?_;exact J.goto [0,1,2,3,4,5,6,7,8,9,10,11,12,13,14,15,16,17,18,19,20,21] (hj ⟨(Zl,true),by rw[hh];exact hM,by rw[hh];exact hw.symm⟩) ⟨rfl,rfl,rfl,rfl,rfl,trivial⟩ rfl rfl
    ·have hw:((decide (e=10)||decide (e=11))||(decide (e=3)&&decide (s.lpn>=0)&&decide (s.lpn<(M.length:Int))))=false:=by
      rw[<- hM,List.length_map];simpa using hw
     refine J.qn 2 λ_=>?_;exact J.goto [0,1,2,3,4,5,6,7,8,9,10,11,12,13,14,15,16,17,18,19,20,21] (hj ⟨(Zl,false),by rw[hh];exact hM,by rw[hh];exact hw.symm⟩) ⟨rfl,rfl,rfl,rfl,rfl,trivial⟩ rfl rfl
  ·have f1:s.fn≠1:=beq_eq_false_iff_ne.1 f1;refine J.q λ_=>?_
   by_cases f2:s.fn=2
   ·rw[beq_iff_eq.2 f2];refine J.qT λ_=>?_;refine J.qT λ_=>?_;refine J.q λb7=>?_;rw[show(s.fn==3)=false from beq_eq_false_iff_ne.2 (by omega)];refine J.qF λ_=>?_;refine J.q λ_=>?_
    by_cases e0:e=0
    ·subst e0;have hh:=Wa.hold2_0 (W:=⟨P,M,die,wrong,full,false,fs,since,late⟩) (t:=⟨0,dt⟩) f2 rfl;refine J.plan (.of [0,5,8,12,16,20,24,29,32,37,41,46,48,52]) [] [1,20,21,22] (by rw[hX.hP];kernel_rfl) (by kernel_rfl) ?_;refine J.qc (a5w R Zl hn hf s.lpn s.data hs) [3,4,5,6,7,8,9] λ_=>?_;rintro _ As ⟨Zl',rfl,rfl,hZl'⟩;refine⟨_,rfl,stq,?_⟩;rw[hM]at hZl' ⊢;refine J.q λ_=>?_;dsimp only;refine J.qd (λ_ hw=>?_) λ_ hw=>?_
     ·have hw:(!Mv.inR M s.lpn)=true:=by simpa using hw
      refine J.qn 5 λ_=>?_;exact J.goto [0,1,2,3,4,5,6,7,8,9,10,11,12,13,14,15,16,17,18,19,20,21] (hj ⟨(Zl',true),by rw[hh];exact hZl',by rw[hh];exact hw.symm⟩) ⟨rfl,rfl,rfl,rfl,rfl,trivial⟩ rfl rfl
     ·have hw:(!Mv.inR M s.lpn)=false:=by simpa using hw
      refine J.qn 2 λ_=>?_;exact J.goto [0,1,2,3,4,5,6,7,8,9,10,11,12,13,14,15,16,17,18,19,20,21] (hj ⟨(Zl',false),by rw[hh];exact hZl',by rw[hh];exact hw.symm⟩) ⟨rfl,rfl,rfl,rfl,rfl,trivial⟩ rfl rfl
    ·have hh:=Wa.hold2_e (W:=⟨P,M,die,wrong,full,false,fs,since,late⟩) (t:=⟨e,dt⟩) (.inl f2) e0;refine J.plan (.of [0,5,8,12,16,20,24,29,32,37,41,46,48,52]) [] [1,20,21,22] (by rw[hX.hP];kernel_rfl) (by kernel_rfl) ?_;refine J.qn 3 λ_=>?_;dsimp only;rw[beq_eq_false_iff_ne.2 e0];refine J.q λ_=>?_;refine J.gcase hX rfl rfl rfl stq (λhb=>by simp at hb) (λhb=>?_);refine J.q λ_=>?_;refine J.vT (.bool true) rfl rfl (λhg aa w he hC=>by simp[G.on]at hg) ?_;refine J.qF λ_=>?_;refine J.qn 2 λ_=>?_;exact J.goto [0,1,2,3,4,5,6,7,8,9,10,11,12,13,14,15,16,17,18,19,20,21] (hj ⟨(Zl,false),by rw[hh];exact hM,by rw[hh]⟩) ⟨rfl,rfl,rfl,rfl,rfl,trivial⟩ rfl rfl
   rw[beq_eq_false_iff_ne.2 f2];refine J.qF λ_=>?_;refine J.q λ_=>?_
   by_cases f3:s.fn=3
   ·rw[beq_iff_eq.2 f3];refine J.qT λ_=>?_;refine J.q λb7=>?_;rw[show(s.fn==3)=true from beq_iff_eq.2 f3];refine J.qT λ_=>?_;refine J.q λ_=>?_
    by_cases e0:e=0
    ·subst e0;have hh:=Wa.hold3_0 (W:=⟨P,M,die,wrong,full,false,fs,since,late⟩) (t:=⟨0,dt⟩) f3 rfl;refine J.plan (.of [0,5,8,12,16,20,24,29,32,37,41,46,48,52]) [] [1,20,21,22] (by rw[hX.hP];kernel_rfl) (by kernel_rfl) ?_;refine J.qc (a5w R Zl hn hf s.lpn zd rfl) [3,4,5,6,7,8,9] λ_=>?_;rintro _ As ⟨Zl',rfl,rfl,hZl'⟩;refine⟨_,rfl,stq,?_⟩;rw[hM]at hZl' ⊢;refine J.q λ_=>?_;dsimp only;refine J.qd (λ_ hw=>?_) λ_ hw=>?_
     ·have hw:(!Mv.inR M s.lpn)=true:=by simpa using hw
      refine J.qn 5 λ_=>?_;exact J.goto [0,1,2,3,4,5,6,7,8,9,10,11,12,13,14,15,16,17,18,19,20,21] (hj ⟨(Zl',true),by rw[hh];exact hZl',by rw[hh];exact hw.symm⟩) ⟨rfl,rfl,rfl,rfl,rfl,trivial⟩ rfl rfl
     ·have hw:(!Mv.inR M s.lpn)=false:=by simpa using hw
      refine J.qn 2 λ_=>?_;exact J.goto [0,1,2,3,4,5,6,7,8,9,10,11,12,13,14,15,16,17,18,19,20,21] (hj ⟨(Zl',false),by rw[hh];exact hZl',by rw[hh];exact hw.symm⟩) ⟨rfl,rfl,rfl,rfl,rfl,trivial⟩ rfl rfl
    ·have hh:=Wa.hold2_e (W:=⟨P,M,die,wrong,full,false,fs,since,late⟩) (t:=⟨e,dt⟩) (.inr f3) e0;refine J.plan (.of [0,5,8,12,16,20,24,29,32,37,41,46,48,52]) [] [1,20,21,22] (by rw[hX.hP];kernel_rfl) (by kernel_rfl) ?_;refine J.qn 3 λ_=>?_;dsimp only;rw[beq_eq_false_iff_ne.2 e0];refine J.q λ_=>?_;refine J.gcase hX rfl rfl rfl stq (λhb=>by simp at hb) (λhb=>?_);refine J.q λ_=>?_;refine J.vT (.bool true) rfl rfl (λhg aa w he hC=>by simp[G.on]at hg) ?_;refine J.qF λ_=>?_;refine J.qn 2 λ_=>?_;exact J.goto [0,1,2,3,4,5,6,7,8,9,10,11,12,13,14,15,16,17,18,19,20,21] (hj ⟨(Zl,false),by rw[hh];exact hM,by rw[hh]⟩) ⟨rfl,rfl,rfl,rfl,rfl,trivial⟩ rfl rfl
   rw[beq_eq_false_iff_ne.2 f3];refine J.qF λ_=>?_;refine J.q λ_=>?_
   by_cases f4:s.fn=4
   ·rw[beq_iff_eq.2 f4];refine J.qT λ_=>?_;refine J.q λ_=>?_
    by_cases e0:e=0
    ·subst e0;have hh:=Wa.hold4_0 (W:=⟨P,M,die,wrong,full,false,fs,since,late⟩) (t:=⟨0,dt⟩) f4 rfl;refine J.qT λ_=>?_;refine J.qc (b1h R Zl hn) [3,4,5,6,7,8,9] λ_=>?_;rintro _ As ⟨Zl',rfl,rfl,hZl'⟩;refine⟨_,rfl,stq,?_⟩;rw[hM]at hZl';refine J.qn 2 λ_=>?_;exact J.goto [0,1,2,3,4,5,6,7,8,9,10,11,12,13,14,15,16,17,18,19,20,21] (hj ⟨(Zl',false),by rw[hh];exact hZl',by rw[hh]⟩) ⟨rfl,rfl,rfl,rfl,rfl,trivial⟩ rfl rfl
    ·have hh:=Wa.hold4_e (W:=⟨P,M,die,wrong,full,false,fs,since,late⟩) (t:=⟨e,dt⟩) f4 e0;dsimp only;rw[beq_eq_false_iff_ne.2 e0];refine J.qF λ_=>?_;refine J.qn 2 λ_=>?_;exact J.goto [0,1,2,3,4,5,6,7,8,9,10,11,12,13,14,15,16,17,18,19,20,21] (hj ⟨(Zl,false),by rw[hh];exact hM,by rw[hh]⟩) ⟨rfl,rfl,rfl,rfl,rfl,trivial⟩ rfl rfl
   have hh:=Wa.hold_x (W:=⟨P,M,die,wrong,full,false,fs,since,late⟩) (t:=⟨e,dt⟩) f1 f2 f3 f4;rw[beq_eq_false_iff_ne.2 f4];refine J.qF λ_=>?_;refine J.qn 2 λ_=>?_;exact J.goto [0,1,2,3,4,5,6,7,8,9,10,11,12,13,14,15,16,17,18,19,20,21] (hj ⟨(Zl,false),by rw[hh];exact hM,by rw[hh]⟩) ⟨rfl,rfl,rfl,rfl,rfl,trivial⟩ rfl rfl
 obtain⟨⟨Zl',wr⟩,hx1,hx2⟩:=x;dsimp only at hx1 hx2 ⊢;unfold a6F;dsimp only
 by_cases f7:s.fn=7
 ·obtain rfl:e=0:=hmt f7;rw[Wa.hold_x (by omega) (by omega) (by omega) (by omega)]at hx1 hx2;dsimp only at hx1 hx2;subst hx2;have hzl:Zl'.length<=65536:=by rw[<- hM]at hx1;have:=congrArg List.length hx1;rw[List.length_map,List.length_map]at this;omega
  refine J.qF λ_=>?_;refine J.q λ_=>?_;rw[beq_iff_eq.2 f7];refine J.qT λ_=>?_;refine J.qc (b5D R Zl' hzl) [3,4,5,6,7,8,9] λ_=>?_;rintro _ As ⟨Zl3,rfl,rfl,hZ3⟩;refine⟨_,rfl,trivial,?_⟩;rw[hx1]at hZ3;refine J.q λ_=>?_;refine J.gcase hX rfl rfl rfl trivial (λhb=>by simp at hb) (λhb=>?_);refine J.q λ_=>?_;refine J.v (.bool true) rfl rfl (λhg aa w he hw=>by simp[G.on]at hg) ?_;refine J.qF λ_=>?_;refine J.qT λ_=>?_;refine J.qc (a2I q nn (flP (some Z2) A'.f) (pp A'.fp) (slv A'.a2 P2.log.length A'.c2)) [10] λ_=>?_;rintro _ As ⟨rfl,rfl⟩;refine⟨_,rfl,trivial,?_⟩;refine J.qc (a9u nn Z2.S.N) [16] λ_=>?_;rintro _ As ⟨rfl,rfl⟩;refine⟨_,rfl,trivial,?_⟩;refine J.q λ_=>?_;refine J.f [1,2,3,4,5,6,7,8,9,10,11,12,13,14,15,16,17,18,19] ?_;rw[hsm f7];refine⟨A',Zl3,rfl,hA',hZ3,?_⟩;rw[R9 (Z:=Z2) hZ2,hnd];rfl
 ·refine J.q λ_=>?_;rw[show(s.fn !=7)=true from bne_iff_ne.2 f7]
  by_cases e11:e=11
  ·rw[beq_iff_eq.2 e11];refine J.qT λ_=>?_;refine J.q λ_=>?_;rw[beq_eq_false_iff_ne.2 f7];refine J.qF λ_=>?_;refine J.qd (λ_ hq=>?_) λ_ hq=>?_
   ·have hq:(decide (e=9)||decide (e=12))=true:=by simpa using hq
    refine J.q λ_=>?_;refine J.f [1,2,3,4,5,6,7,8,9,10,11,12,13,14,15,16,17,18,19] ?_;rw[hse f7];refine⟨A',Zl',rfl,hA',hx1,?_⟩;rw[<- hx2,R9 (Z:=Z2) hZ2,show((wrong||wr)||(decide (e=9)||decide (e=12)))=true from by rw[hq];simp,show(full||decide (e=11))=true from by simp[e11]];rfl
   ·have hq:(decide (e=9)||decide (e=12))=false:=by simpa using hq
    refine J.q λ_=>?_;refine J.f [1,2,3,4,5,6,7,8,9,10,11,12,13,14,15,16,17,18,19] ?_;rw[hse f7];refine⟨A',Zl',rfl,hA',hx1,?_⟩;rw[<- hx2,R9 (Z:=Z2) hZ2,show((wrong||wr)||(decide (e=9)||decide (e=12)))=(wr||wrong)from by rw[hq,Bool.or_false,Bool.or_comm],show(full||decide (e=11))=true from by simp[e11]];rfl
  ·rw[beq_eq_false_iff_ne.2 e11];refine J.qF λ_=>?_;refine J.q λ_=>?_;rw[beq_eq_false_iff_ne.2 f7];refine J.qF λ_=>?_;refine J.qd (λ_ hq=>?_) λ_ hq=>?_
   ·have hq:(decide (e=9)||decide (e=12))=true:=by simpa using hq
    refine J.q λ_=>?_;refine J.f [1,2,3,4,5,6,7,8,9,10,11,12,13,14,15,16,17,18,19] ?_;rw[hse f7];refine⟨A',Zl',rfl,hA',hx1,?_⟩;rw[<- hx2,R9 (Z:=Z2) hZ2,show((wrong||wr)||(decide (e=9)||decide (e=12)))=true from by rw[hq];simp,show(full||decide (e=11))=full from by simp[e11]];rfl
   ·have hq:(decide (e=9)||decide (e=12))=false:=by simpa using hq
    refine J.q λ_=>?_;refine J.f [1,2,3,4,5,6,7,8,9,10,11,12,13,14,15,16,17,18,19] ?_;rw[hse f7];refine⟨A',Zl',rfl,hA',hx1,?_⟩;rw[<- hx2,R9 (Z:=Z2) hZ2,show((wrong||wr)||(decide (e=9)||decide (e=12)))=(wr||wrong)from by rw[hq,Bool.or_false,Bool.or_comm],show(full||decide (e=11))=full from by simp[e11]];rfl
theorem Dev.c_len {D B P n:Nat} {F:Fv} {c:Nat->List UInt8} (h:Dev D B P F n c) {i:Nat} (hi:i<lgN D B P):(c i).length=16:=by
 obtain⟨W,hW,hc⟩:=h.fc;rw[<- hc i hi];exact a9P hW.fi.wok h.ok.dat i
namespace Wt
variable {D B P n b : Nat} {W : Wa} {Z : Fv}
theorem new (die:Int) (hD:3<=D/\D<=6) (hB:8<=B/\B<=16) (hP:2<=P/\P<=8) (hlg:1<=lgN D B P/\lgN D B P<=200/\2*lgN D B P<=(B-5)*(P*(D-2))+1) (hgm:p9 D B P=true):Wt D B P (Wa.new D B P die []) (Fv.of (Dv.new D B P (lgN D B P))) 200000 1:=by
 refine⟨?_,⟨_,Dev.new hD hB hP hlg.2.1 hlg.2.2 hgm⟩,rfl,rfl,?_,λv hv=>?_,Nat.zero_le _,Nat.le_refl _⟩
 ·show(if(s9 (Nand.new D B P)).2=0 then some (Fv.of (s9 (Nand.new D B P)).1)else Option.none)=_;rw[a5a (Dv.Ok.new D B P (lgN D B P) hgm 0 (by decide))];rfl
 ·show(Mv.new (lgN D B P)).length=_;unfold Mv.new;rw[List.length_replicate];omega
 ·obtain rfl:v=Mv.page0:=List.eq_of_mem_replicate hv;exact⟨rfl,by decide,by decide,by decide,by decide⟩
theorem less (h:Wt D B P W Z n b) {k c:Nat} (hk:k<=n) (hb:b<=c):Wt D B P W Z k c:=by
 obtain⟨d,hD⟩:=h.dev;exact⟨h.z,⟨d,hD.less hk⟩,h.none,h.stuck,h.len,h.fine.more hb,Nat.le_trans h.log hb,Nat.le_trans h.b1 hb⟩
theorem pre (h:Wt D B P W Z (n+605) b) {s:Stp} (h6:s.fn≠6) (h8:s.fn≠8) (hd:s.data.length=16):∃Z2,(W.P.step s).1.Z=some Z2/\Z2.S.N.off=false/\(s.fn=7->(W.P.step s).2.err=0)/\(W.P.step s).2.data.length=16:=by
 obtain⟨Z',t,c,e1,e2,e3,e4⟩:=h.does h6 h8 hd;have hst:W.P.step s=({W.P with Z:=some Z',log:=W.P.log++[t]},t):=by
  unfold Pv.step;rw[Pv.run_none h.z h.none,e1]
 rw[hst];exact⟨Z',rfl,e2.off,e4,e3⟩
end Wt
namespace FdCh
variable {fd : Nat} {N N' : Nand}
end FdCh
namespace DevF
variable {fd : Int} {D B P n m : Nat} {F : Fv} {c : Nat → List UInt8}
end DevF
namespace Mono
end Mono
theorem a9V:Fv.cW*200+(Dv.costS+(Dv.costK+(1+0)))<=UN*605:=by
 have h1:=a8c;have h2:=a8b;have h3:Dv.costS<=UN*2:=by
  have:Dv.costC<=Dv.costM:=by unfold Dv.costM Dv.costR;omega
  have:=a8d;unfold Dv.costS;omega
 have h4:=b4c;omega
namespace Pq
variable {D B Pg u i : Nat} {v : Int} {P : Pv} {Z : Fv}
end Pq
end Go.Proofs.YtpohajhbfllbbaaGreat
