/- Helpers. No condition. -/
import Derived.Test.YtnffkcabeecopaaGreatV15
import Derived.Test.YtnffkcabeecopaaGreatV16
import Derived.Test.YtnffkcabeecopaaGreatV17
import Derived.Test.YtnffkcabeecopaaGreatV18
set_option maxRecDepth 20000
set_option linter.all false
namespace Go.Proofs.YtnffkcabeecopaaGreat
open Go Go.RowKit
theorem a3Q {α:Type} {p q r:α->Bool}:∀{K:List α},(∀x∈K,p x=true->q x=true\/r x=true)->K.countP p<=K.countP q+K.countP r
 | [],_=>Nat.zero_le _
 | y::K,h=>by
  rw[List.countP_cons,List.countP_cons,List.countP_cons];have ih:=a3Q (K:=K) λz hz=>h z (by simp[hz]);have hy:=h y (by simp);cases h1:p y with
  | false=>simp only[Bool.false_eq_true,if_false];omega
  | true=>
   rcases hy h1 with e | e
   ·rw[e];simp only[if_true];omega
   ·rw[e];simp only[if_true];omega
theorem countP_one {p:Nat->Bool} {o:Int} (h:∀i:Nat,p i=true->(i:Int)=o):∀n,(List.range n).countP p<=1/\(n<=o->(List.range n).countP p=0)
 | 0=>⟨Nat.zero_le _,λ_=>rfl⟩
 | n+1=>by
  obtain⟨i1,i2⟩:=countP_one h n;rw[List.range_succ,List.countP_append];cases hp:p n with
  | false=>
   have:[n].countP p=0:=by simp[hp]
   rw[this];exact⟨by omega,λhn=>by rw[i2 (by omega)]⟩
  | true=>
   have:[n].countP p=1:=by simp[hp]
   have e:=h n hp;rw[this,i2 (by omega)];exact⟨by omega,λhn=>by omega⟩
theorem Hot2.tight {fd:Int} {S:Dv} {k m β:Nat} {W:List (Int×En)} (h:Hot2 fd S β) (hR:Rmy fd W S) (hO:S.Ok k m) (hfr:(S.free:Int)>4):∃β',β'<=β/\Hot2 fd S β'/\5*S.N.pages+β'<=S.rows+5:=by
 have hmany:=hR.many hO hfr;have hg:=hO.gd.ok.bd16;cases h with
 | calm h=>exact⟨0,Nat.le_refl _, .calm h,by omega⟩
 | cold h1 h2=>exact⟨0,Nat.le_refl _, .cold h1 h2,by omega⟩
 | once h=>exact⟨1,Nat.le_refl _, .once h,by omega⟩
 | dead h1 h2=>exact⟨1,Nat.le_refl _, .dead h1 h2,by omega⟩
 | brn h=>
  refine⟨a2q fd S,h.cnt, .brn ⟨h.pos,h.dead,h.met,h.fl,h.rng,Nat.le_refl _,h.at_,h.opn⟩,?_⟩;have hfl:=hR.inv.free_len hO;have hlen:=hO.t.len;have hbl:S.t.blanks=(List.range S.t.b).countP λi:Nat=>!(S.t.at_ (i:Nat)).used:=by
   unfold Tl.blanks Tl.at_;rw[Inv.countP_range_get _ Sb.zero,hlen];simp
  have h2:=a3Q (K:=List.range S.t.b) (p:=a1z fd S) (q:=λi:Nat=>!(S.t.at_ (i:Nat)).used) (r:=λi:Nat=>a1z fd S i&&decide ((i:Int)=S.op)) λb hb hh=>by
   have hh':=hh;unfold a1z at hh';rw[Bool.and_eq_true]at hh';rcases h.at_ (b:Int) (Tl.has_iff.2 (by have:=List.mem_range.1 hb;omega)) hh'.2 hh'.1 with e | e
   ·right;rw[hh,decide_eq_true e];rfl
   ·left;rw[e];rfl
  rw[<- hbl]at h2;obtain⟨c1,c2⟩:=countP_one (p:=λi:Nat=>a1z fd S i&&decide ((i:Int)=S.op)) (o:=S.op) (λi hi=>by
   rw[Bool.and_eq_true,decide_eq_true_eq]at hi;exact hi.2) S.t.b
  have hrw:S.N.pages*S.t.blanks+(List.range S.t.b).countP (λi:Nat=>a1z fd S i&&decide ((i:Int)=S.op))<=S.rows:=by
   unfold Dv.rows;rcases Nat.eq_zero_or_pos ((List.range S.t.b).countP (λi:Nat=>a1z fd S i&&decide ((i:Int)=S.op)))with e | e
   ·rw[e];omega
   ·obtain⟨i,hi,hp⟩:=List.countP_pos_iff.1 e;rw[Bool.and_eq_true,decide_eq_true_eq]at hp;obtain⟨p1,p2⟩:=hp;unfold a1z at p1;rw[Bool.and_eq_true,p2]at p1;obtain⟨a,a1,a2,a3⟩:=planB_iff.1 p1.1;have hop:=h.opn (by omega);have h3:=hop.2 (by rw[hop.1];exact p1.2) a a1 a2 a3;have h4:=(h.rng a a1).2;rw[if_pos (by omega)];omega
  have h5:a2q fd S<=S.t.blanks+(List.range S.t.b).countP (λi:Nat=>a1z fd S i&&decide ((i:Int)=S.op)):=h2;obtain⟨x,hx⟩:∃x,S.t.blanks=5+x:=⟨S.t.blanks-5,by omega⟩;rw[hx,Nat.mul_add]at hrw;have h6:2*x<=S.N.pages*x:=Nat.mul_le_mul_right _ hg.2.2.1;omega
structure FR (fd:Int) (W:List (Int×En)) (lg:Nat) (F:Fv) (β:Nat):Prop where
 fi:FI fd W lg F
 rmy:Rmy fd W F.S
 hot:Hot2 fd F.S β
 rows:5*F.S.N.pages+β<=F.S.rows+7
 cap:2*lg<=(F.S.N.blocks-5)*(F.S.N.pages*(F.S.N.dies-2))+1
namespace FR
variable {fd : Int} {W : List (Int × En)} {lg k m β : Nat} {F : Fv}
theorem writes (h:FR fd W lg F β) (hO:F.S.Ok (Dv.costM+(8*Dv.fuel+k)) m) (hnx:F.S.next<=1099511627775-30000000) (hl0:F.L.length≠0):
  ∃(F':Fv) (W':List (Int×En)) (β':Nat),F.writes=(F',0)/\FR fd W' lg F' β'/\(∀i,cur W' F'.L i=cur W F.L i)/\F'.S.Ok k m/\F'.S.next<=F.S.next+7000/\F'.nx=F.nx/\F'.S.N.broken=F.S.N.broken/\F.S.N.Like F'.S.N/\F'.L.length<F.L.length/\F'.S.N.dead=F.S.N.dead:=by
 have hg:=hO.gd.ok.bd16;have htb:=hO.t.b;obtain⟨V,β1,v1,v2,v3,v4,v5,v6,v7,v8,v9,v10,v11,v12,v13,_⟩:=h.rmy.room3 (k:=8*Dv.fuel+k) (hO.less (by
  have:Dv.costR*F.S.t.b<=Dv.costR*16:=Nat.mul_le_mul_left _ (by omega);unfold Dv.costM;omega)) h.hot h.rows (by omega)
 obtain⟨β',t1,t2,t3⟩:=v6.tight v2 v3 v4;have hgV:=v3.gd.ok.bd16;have hp:=v11.pages;have hlog:=h.fi.log;have hcap:2*V.T.logical.toNat<=(V.N.blocks-5)*(V.N.pages*(V.N.dies-2))+1:=by
  have:=h.cap;rw[v12,hlog,v11.blocks,v11.pages,v11.dies];omega
 obtain⟨U,n,β2,u1,u2,u3,u4,u5,u6,u7,u8,u9,u10,u11,u12,u13,u14⟩:=v2.pens (E:=F.L) v3 t2 (by omega) (λe he=>(h.fi.des e he).1) hl0 h.fi.nd (λe he=>by rw[v12,hlog];exact(h.fi.des e he).2.2) hcap (by omega);obtain⟨w1,w2⟩:=a5F h.fi.wok h.fi.wr (λe he=>⟨(h.fi.des e he).1,(h.fi.des e he).2.1⟩) n u3;have hlk:F.S.N.Like U.N:=v11.trans u13;have hwr:F.writes=({F with S:=U,L:=F.L.drop n}.told 0,0):=by
  unfold Fv.writes;rw[v1];dsimp only;rw[if_neg (by decide),u1];dsimp only;rw[Int.toNat_natCast,a5r h.fi.nd]
 refine⟨_,K6 W F.L n,β2,hwr,⟨⟨u4.inv,u4.hd,w1,w2,u14.trans (v12.trans hlog),?_,h.fi.lg2,λx hx=>h.fi.des x (List.mem_of_mem_drop hx),?_,?_⟩,u4,u6,?_,?_⟩,a7O h.fi.nd n u3,u5,?_,rfl,u12.trans v10,hlk,?_,u11.trans v9⟩
 ·have:=h.fi.lgn;unfold Fv.lg at this ⊢;show((lgN U.N.dies U.N.blocks U.N.pages:Nat):Int)=_;rw[hlk.dies,hlk.blocks,hlk.pages];exact this
 ·show((F.L.drop n).map (·.lpn)).Nodup;rw[List.map_drop];exact h.fi.nd.sublist (List.drop_sublist _ _)
 ·show(F.off||(0:Int)==9)=false;rw[h.fi.off];rfl
 ·show 5*U.N.pages+β2<=U.rows+7;rw[u13.pages];omega
 ·show 2*lg<=(U.N.blocks-5)*(U.N.pages*(U.N.dies-2))+1;rw[hlk.blocks,hlk.pages,hlk.dies];exact h.cap
 ·show U.next<=_;omega
 ·show(F.L.drop n).length<_;rw[List.length_drop];omega
theorem put (h:FR fd W lg F β) {e:En} (he:FitR e/\e.role≠4/\e.lpn<(lg:Int)):FR fd W lg (F.put e) β/\∀i,cur W (F.put e).L i=if i=e.lpn then e.data else cur W F.L i:=by
 obtain⟨h1,h2⟩:=h.fi.put he;exact⟨⟨h1,h.rmy,h.hot,h.rows,h.cap⟩,h2⟩
theorem slots (h:FR fd W lg F β) (hO:F.S.Ok k m):1<=F.S.slots:=by
 have hg:=hO.gd.ok.bd16;exact(h.fi.inv.slots_pos hO (by have:=h.rows;omega)).2
theorem waits (h:FR fd W lg F β) (hO:F.S.Ok (Dv.costM+(8*Dv.fuel+k)) m) (hnx:F.S.next<=1099511627775-30000000) {e:En} (he:FitR e/\e.role≠4/\e.lpn<(lg:Int)):
  ∃(F':Fv) (W':List (Int×En)) (β':Nat),F.waits e=(F',0)/\FR fd W' lg F' β'/\(∀i,cur W' F'.L i=if i=e.lpn then e.data else cur W F.L i)/\F'.S.Ok k m/\F'.S.next<=F.S.next+7000/\F'.S.N.broken=F.S.N.broken/\F.S.N.Like F'.S.N:=by
 have hlp:=he.1.lpn;unfold Fv.waits;rw[h.fi.ask,h.fi.off,if_neg Bool.false_ne_true,h.fi.lgn,if_neg (by omega)]
 by_cases hs:(F.L.length:Int)>=F.S.slots
 ·rw[if_pos hs];have h1:=h.slots (hO.less (Nat.le_refl _));obtain⟨G,W',β',w1,w2,w3,w4,w5,_,w6,w7,_⟩:=h.writes hO hnx (by omega);rw[w1];dsimp only;rw[if_neg (by decide)];obtain⟨p1,p2⟩:=w2.put he;exact⟨_,W',β',rfl,p1,λi=>by rw[p2,w3],w4,w5,w6,w7⟩
 ·rw[if_neg hs];obtain⟨p1,p2⟩:=h.put he;exact⟨_,W,β,rfl,p1,p2,hO.less (by omega),by show F.S.next<=_;omega,rfl,Nand.Like.refl _⟩
theorem flush_go:∀(f:Nat) (F:Fv) (W:List (Int×En)) (β k:Nat),FR fd W lg F β->F.S.Ok (FI.costW*f+k) m->F.L.length<=f->F.S.next+7000*(f:Int)<=1099511627775-30000000->
  ∃(F':Fv) (W':List (Int×En)) (β':Nat),Fv.flushGo f F=(F',0)/\FR fd W' lg F' β'/\F'.S.Ok k m/\F'.S.next<=F.S.next+7000*(f:Int)/\F'.S.N.broken=F.S.N.broken/\F.S.N.Like F'.S.N/\F'.L=[]/\(∀i,cur W' F'.L i=cur W F.L i)/\F'.S.N.dead=F.S.N.dead
 | 0,F,W,β,k,h,hO,hL,_=>⟨F,W,β,rfl,h,hO.less (by omega),by omega,rfl,Nand.Like.refl _,List.eq_nil_of_length_eq_zero (by omega),λ_=>rfl,rfl⟩
 | f+1,F,W,β,k,h,hO,hL,hnx=>by
  rw[Fv.flushGo]
  by_cases hl0:F.L.length=0
  ·rw[if_pos hl0];exact⟨F,W,β,rfl,h,hO.less (by omega),by omega,rfl,Nand.Like.refl _,List.eq_nil_of_length_eq_zero hl0,λ_=>rfl,rfl⟩
  ·rw[if_neg hl0];rw[Nat.mul_succ]at hO;obtain⟨G,W',β',w1,w2,w3,w4,w5,_,w6,w7,w8,w9⟩:=h.writes (k:=FI.costW*f+k) (hO.less (by unfold FI.costW;omega)) (by omega) hl0;rw[w1];dsimp only;rw[if_neg (by decide)];obtain⟨F',W2,β2,r1,r2,r3,r4,r5,r6,r7,r8,r9⟩:=flush_go f G W' β' k w2 w4 (by omega) (by omega);exact⟨F',W2,β2,r1,r2,r3,by omega,r5.trans w6,w7.trans r6,r7,λi=>(r8 i).trans (w3 i),r9.trans w9⟩
theorem flush (h:FR fd W lg F β) (hO:F.S.Ok (FI.costW*200+k) m) (hnx:F.S.next<=1099511627775-50000000):
  ∃(F':Fv) (W':List (Int×En)) (β':Nat),F.flush=(F',0)/\FR fd W' lg F' β'/\F'.S.Ok k m/\F'.S.next<=F.S.next+1400000/\F'.S.N.broken=F.S.N.broken/\F.S.N.Like F'.S.N/\F'.L=[]/\(∀i,cur W' F'.L i=cur W F.L i)/\F'.S.N.dead=F.S.N.dead:=by
 unfold Fv.flush;rw[h.fi.ask,h.fi.off,if_neg Bool.false_ne_true];have hl:=h.fi.len;have h2:=h.fi.lg2;have hm:FI.costW*F.L.length<=FI.costW*200:=Nat.mul_le_mul_left _ (by omega);obtain⟨F',W',β',r1,r2,r3,r4,r5⟩:=flush_go F.L.length F W β k h (hO.less (by omega)) (Nat.le_refl _) (by omega);exact⟨F',W',β',r1,r2,r3,by omega,r5⟩
end FR
structure DevR (fd:Int) (D B P:Nat) (F:Fv) (n m:Nat) (c:Nat->List UInt8):Prop where
 fr:∃W β,FR fd W (lgN D B P) F β/\∀i:Nat,i<lgN D B P->cur W F.L i=c i
 ok:F.Ok (UN*n) m
 nx:F.S.next+20000000*(n:Int)<=1098000000000
 br:F.S.N.broken=0
 geo:F.S.N.dies=D/\F.S.N.blocks=B/\F.S.N.pages=P
 le:n<=54500
namespace DevR
variable {fd : Int} {D B P n m : Nat} {F : Fv} {c : Nat → List UInt8}
theorem devF (h:DevR fd D B P F n m c):DevF fd D B P F n m c:=by
 obtain⟨W,β,hW,hc⟩:=h.fr;exact⟨⟨W,hW.fi,hc⟩,h.ok,h.nx,h.br,h.geo,h.le⟩
theorem less (h:DevR fd D B P F n m c) {k:Nat} (hk:k<=n):DevR fd D B P F k m c:=
 ⟨h.fr,h.ok.less (Nat.mul_le_mul_left _ hk),by have:=h.nx;omega,h.br,h.geo,by have:=h.le;omega⟩
theorem congr (h:DevR fd D B P F n m c) {c':Nat->List UInt8} (hc:∀i,i<lgN D B P->c i=c' i):DevR fd D B P F n m c':=by
 obtain⟨W,β,hW,h2⟩:=h.fr;exact⟨⟨W,β,hW,λi hi=>(h2 i hi).trans (hc i hi)⟩,h.ok,h.nx,h.br,h.geo,h.le⟩
theorem put (h:DevR fd D B P F (n+1) m c) {e:En} (he:FitR e/\e.role≠4/\e.lpn<(lgN D B P:Int)) (hk:(F.waits e).1.Ok (UN*n) m):
  (F.waits e).2=0/\DevR fd D B P (F.waits e).1 n m (λj=>if j=e.lpn.toNat then e.data else c j):=by
 obtain⟨W,β,hW,hc⟩:=h.fr;have hU:UN*(n+1)=UN*n+UN:=Nat.mul_succ _ _;have hU2:=b3S;have hnx:=h.nx;have hlp:=he.1.lpn;have hle:=h.le;obtain⟨F',W',β',r1,r2,r3,r4,r5,r6,r7⟩:=hW.waits (k:=UN*n) (h.ok.dv.less (by omega)) (by omega) he;rw[r1]at hk ⊢;exact⟨rfl,⟨⟨W',β',r2,λi hi=>(r3 i).trans (by
  rw[hc i hi]
  by_cases e0:i=e.lpn.toNat
  ·rw[if_pos e0,if_pos (by omega)]
  ·rw[if_neg e0,if_neg (by omega)])⟩,hk,by dsimp only;omega,r6.trans h.br,⟨r7.dies.trans h.geo.1,r7.blocks.trans h.geo.2.1,r7.pages.trans h.geo.2.2⟩,by omega⟩⟩
theorem write (h:DevR fd D B P F (n+1) m c) {i:Nat} (hi:i<lgN D B P) {d:List UInt8} (hd:d.length=16):(F.write i d).2=0/\DevR fd D B P (F.write i d).1 n m (λj=>if j=i then d else c j):=by
 have h200:=(Fv.lg_bd (F:=F) h.ok.dv.gd.ok).2;rw[h.devF.lg]at h200;have hU:UN*(n+1)=UN*n+UN:=Nat.mul_succ _ _;have:=h.put (e:=⟨i,0,1,d⟩) ⟨⟨⟨by show(0:Int)<=(i:Int);omega,by show(i:Int)<=65535;omega⟩, .inl rfl,hd⟩,by show(1:Int)≠4;decide,by show(i:Int)<_;omega⟩ (Fv.write_keep (k:=UN*n) (h.ok.less (by unfold UN at hU ⊢;omega)) i hd).1;exact this
theorem flush (h:DevR fd D B P F (n+200) m c):F.flush.2=0/\DevR fd D B P F.flush.1 n m c/\F.flush.1.L=[]:=by
 obtain⟨W,β,hW,hc⟩:=h.fr;have hU:UN*(n+200)=UN*n+UN*200:=Nat.mul_add _ _ _;have hf:=a1h;have hf2:=a5C;have hnx:=h.nx;have hk:=(Fv.flush_keep (k:=UN*n) (m:=m) (h.ok.less (by omega))).1;obtain⟨F',W',β',r1,r2,_,r4,r5,r6,r7,r8,_⟩:=hW.flush (k:=UN*n) (h.ok.dv.less (by omega)) (by omega);rw[r1]at hk ⊢;exact⟨rfl,⟨⟨W',β',r2,λi hi=>(r8 i).trans (hc i hi)⟩,hk,by dsimp only;omega,r5.trans h.br,⟨r6.dies.trans h.geo.1,r6.blocks.trans h.geo.2.1,r6.pages.trans h.geo.2.2⟩,by have:=h.le;omega⟩,r7⟩
theorem all (h:DevR fd D B P F n m c):F.all=(F,(List.range (lgN D B P)).map c,0):=Fv.all_of h.devF.lg λj hj=>by
 rw[h.devF.read,if_neg (by omega),Int.toNat_natCast]
theorem new {die:Nat} {pl:List A3'} (hdie:die<D) (hD:3<=D/\D<=6) (hB:8<=B/\B<=16) (hP:2<=P/\P<=8) (hlg:lgN D B P<=200) (hcap:2*lgN D B P<=(B-5)*(P*(D-2))+1) (h:DevF (die:Int) D B P ((Fv.of (Dv.new D B P (lgN D B P))).setN {Nand.new D B P with plan:=pl}) n m c) (hr:∀a∈pl,0<=a.2.2/\a.2.2<(P:Int)) (hc:∀i,i<lgN D B P->c i=zeros16):DevR (die:Int) D B P ((Fv.of (Dv.new D B P (lgN D B P))).setN {Nand.new D B P with plan:=pl}) n m c:=by
 obtain⟨W,hW,hc2⟩:=h.fi;have hb:(Dv.new D B P (lgN D B P)).t.b=B:=rfl;have hat:∀b,(Dv.new D B P (lgN D B P)).t.at_ b=Sb.zero:=λb=>a6z D B P b;have hdead:∀i:Nat,(Nand.new D B P).dead.getD i false=false:=(NoF.new D B P (lgN D B P:Int)).dead;have hWn:W=[]:=by
  have:=hW.hd.keys;cases W with
  | nil=>rfl
  | cons x l=>cases this
 subst hWn;refine⟨⟨[],a2q (die:Int) ((Fv.of (Dv.new D B P (lgN D B P))).setN {Nand.new D B P with plan:=pl}).S,⟨hW,⟨hW.inv,hW.hd,hW.wok,λb _=>?_,λ_ _ _=>rfl,by simp⟩, .brn ⟨Int.natCast_nonneg _,hdead,λ_ _=>rfl,λ_ _=>rfl,hr,Nat.le_refl _,λb _ _ _=> .inr ?_,λh0=>?_⟩,?_,hcap⟩,λi hi=>(hc2 i hi)⟩,h.ok,h.nx,h.br,h.geo,h.le⟩
 ·show((Dv.new D B P (lgN D B P)).t.at_ b).held=false;rw[hat];rfl
 ·show((Dv.new D B P (lgN D B P)).t.at_ b).used=false;rw[hat];rfl
 ·have h0:(Dv.new D B P (lgN D B P)).op>=0:=h0;exact absurd h0 (by show¬((-1:Int)>=0);decide)
 ·have hle:a2q (die:Int) ((Fv.of (Dv.new D B P (lgN D B P))).setN {Nand.new D B P with plan:=pl}).S<=B:=by
   unfold a2q;refine Nat.le_trans (List.countP_le_length) ?_;rw[List.length_range];exact Nat.le_refl _
  show 5*P+_<=(Dv.new D B P (lgN D B P)).rows+7;rw[a4G];obtain⟨x,rfl⟩:∃x,P=2+x:=⟨P-2,by omega⟩;rw[Nat.add_mul];have:x*8<=x*B:=Nat.mul_le_mul_left _ hB.1;omega
end DevR
theorem a6Q (f p n t l d:Nat) {fd:Int} {D B P k m:Nat} {Z:Fv} {c0:Nat->List UInt8} (c:Int) (hc:0<=c/\c<=100000) (hm:m<=1000) (h:DevR fd D B P Z (400+k) m c0):
  Fn Tryz.prog 33 [.pointer (some ⟨f,0,none⟩), .int .i64 c] (FvP f p n t l d Z) (λv As=>∃Y,v= .bool true/\(DevR fd D B P Y k m (λj=>Q1 (c+j))/\Y.L=[])/\As=FvP f p n t l d Y):=by
 have hlg:=(Fv.lg_bd (F:=Z) h.ok.dv.gd.ok).2;rw[h.devF.lg]at hlg;have hUN:UN=Fv.cW+1:=rfl;refine a9b f p n t l d Z c hc (lgN D B P) m (by omega) hm (λi Y=>DevR fd D B P Y (200-i+200+k) m (λj=>if j<i then Q1 (c+j)else c0 j)) (λY=>DevR fd D B P Y k m (λj=>Q1 (c+j))/\Y.L=[]) ?_ (λi Y hY=>⟨hY.devF.lg,hY.ok.dv.gd.ok⟩) (λi Y hY hi=>?_) λY hY=>?_
 ·exact(h.less (by omega)).congr λi _=>by rw[if_neg (by omega)]
 ·have hY:DevR fd D B P Y ((200-(i+1)+200+k)+1) m _:=hY.less (by omega);have hok:=hY.ok.less (k':=UN) (by rw[Nat.mul_succ];omega);obtain⟨w1,w2⟩:=hY.write hi (a6T (c+i));exact⟨hok,w1,w2.congr λj _=>by
   by_cases e:j=i
   ·rw[if_pos e,if_pos (by omega),e]
   ·rw[if_neg e]
    by_cases e2:j<i
    ·rw[if_pos e2,if_pos (by omega)]
    ·rw[if_neg e2,if_neg (by omega)]⟩
 ·have hY:DevR fd D B P Y (k+200) m _:=hY.less (by omega);have hok:=hY.ok.less (k':=Fv.cW*200+0) (by rw[Nat.mul_add];have:=a1h;omega);obtain⟨w1,w2,w3⟩:=hY.flush;exact⟨hok,w1,w2.congr λj hj=>if_pos hj,w3⟩
theorem a6P (f p n t l d:Nat) {fd:Int} {D B P k m:Nat} {Z:Fv} (c:Int) (hc:0<=c/\c<=100000) (h:DevR fd D B P Z k m (λj=>Q1 (c+j))):
  Fn Tryz.prog 38 [.pointer (some ⟨f,0,none⟩), .int .i64 c] (FvP f p n t l d Z) (λv As=>v= .bool true/\As=FvP f p n t l d Z):=by
 have hlg:=(Fv.lg_bd (F:=Z) h.ok.dv.gd.ok).2;rw[h.devF.lg]at hlg;exact a9a f p n t l d Z c hc (lgN D B P) (UN*k) m (by omega) h.ok h.devF.lg h.all
end Go.Proofs.YtnffkcabeecopaaGreat
namespace Go.Proofs.YtnffkcabeecopaaGreat
open Go Go.RowKit
structure NewP (die D B P m:Nat) (pl:List A3'):Prop where
 dev:DevF (die:Int) D B P ((Fv.of (Dv.new D B P (lgN D B P))).setN {Nand.new D B P with plan:=pl}) 54500 m (λ_=>zeros16)
 rng:∀a∈pl,0<=a.2.2/\a.2.2<(P:Int)
theorem NewP.more {die D B P m:Nat} {pl:List A3'} (h:NewP die D B P m pl) (hd:die<D) {y z:Int} (hy:0<=y/\y<B) (hz:0<=z/\z<P):({Nand.new D B P with plan:=pl}:Nand).fault 1 (die:Int) y z 0 0=(true,{Nand.new D B P with plan:=Nand.addP pl ((die:Int),y,z)})/\NewP die D B P (m+1) (Nand.addP pl ((die:Int),y,z)):=by
 have hf:({Nand.new D B P with plan:=pl}:Nand).fault 1 (die:Int) y z 0 0=(true,{Nand.new D B P with plan:=Nand.addP pl ((die:Int),y,z)}):=by
  unfold Nand.fault;rw[if_neg (by show¬B2 D B P _ _ _=false;simp only[B2];simp;omega),if_pos rfl]
 refine⟨hf,⟨?_,λa ha=>?_⟩⟩
 ·have h1:=h.dev.faulted 1 y z 0 0;have e:(((Fv.of (Dv.new D B P (lgN D B P))).setN {Nand.new D B P with plan:=pl}).S.N.fault 1 (die:Int) y z 0 0).2={Nand.new D B P with plan:=Nand.addP pl ((die:Int),y,z)}:=congrArg Prod.snd hf;rw[e]at h1;exact h1
 ·unfold Nand.addP at ha;split at ha
  ·exact h.rng a ha
  ·rcases List.mem_append.1 ha with ha | ha
   ·exact h.rng a ha
   ·rw[List.mem_singleton.1 ha];exact hz
theorem a4l (g0 g1 g2 dd:Int) (A:Atom) (ao:Option Addr) (no co:Nat) (xs:List Int) (hA:Rd A ao 1 no (xs.flatMap λx=>[Value.int .i64 x])) (hlo:xs.length=no) (hdo:∀x∈xs,-9223372036854775808<=x/\x<=9223372036854775807):
  FP 8 [.agg #[iI g0,iI g1,iI g2],iI dd, .slice ao no co] [A] (Ps (.bool true) [A]):=by
 rw[a7T]at hA;refine FE [0,0,0] Tryz.func8 λX F hX=>?_;refine J.qp (a6R) [] λ_=>?_;refine J.qF λ_=>?_;refine J.qc (a2G g0 g1 g2) [] λ_=>?_;rintro v As ⟨D,B,P,n,f,p,t,l,d,Z,rfl,hD,hB,hP,hZ,rfl⟩;refine⟨_,rfl,trivial,?_⟩;have hgb:=a6f hD hB hP;have hgm:n8 D B P=true:=by simp[n8];omega
 refine J.qF λ_=>?_;refine J.qp (I6 n Z.S.N) [5] λ_=>?_;rw[show Z.S.N.dies=D from by rw[hZ];rfl,show Z.S.N.blocks=B from by rw[hZ];rfl,show Z.S.N.pages=P from by rw[hZ];rfl];refine J.qp (a0A dd D (by omega)) [] λ_=>?_;have hb:=R9 dd (k:=(D:Int)) (by omega);obtain⟨dn,hdn⟩:∃k:Nat,C9 dd D=(k:Int):=⟨(C9 dd D).toNat,by omega⟩;rw[hdn]at hb ⊢;have hN0:NewP dn D B P 0 []:=⟨DevF.new _ hD hB hP hgb.2.1 hgm,λa ha=>by cases ha⟩;refine J.q λ_=>?_;refine J.l (α:=(Nat×Nand)) (λz=>(z.1<=no/\z.1<=20)/\∃pl,z.2={Nand.new D B P with plan:=pl}/\NewP dn D B P z.1 pl) (λz=>[si 10 z.1,si 1 dn,sv 2 (.slice ao no co),sp 8 n,sp 9 f]) [5] (λz=>[i6 n z.2]) (λz=>no-z.1) ((0,Z.S.N)) (⟨⟨Nat.zero_le _,Nat.zero_le _⟩,[],by rw[hZ];rfl,hN0⟩) λz hI=>?_;obtain⟨i,N⟩:=z;dsimp only at hI ⊢;obtain⟨⟨hi1,hi2⟩,pl,hNe,hNP⟩:=hI;have hOk:N.Ok:=by rw[hNe];exact hNP.dev.ok.dv.gd.ok
 have hgd:N.dies=D/\N.blocks=B/\N.pages=P:=by rw[hNe];exact⟨rfl,rfl,rfl⟩
 obtain⟨hg1,hg2,hg3⟩:=hgd;refine J.qd (λ_ h1=>?_) λ_ h1=>?_
 ·simp only[Bool.and_eq_true,decide_eq_true_eq,Int.ofNat_lt]at h1;obtain⟨h1,h2⟩:=h1;have h2:i<20:=by omega
  obtain⟨x,hx⟩:∃x,xs[i]? =some x:=⟨_,List.getElem?_eq_getElem (by omega)⟩;have hxd:=hdo x (List.mem_of_getElem? hx);refine J.know (p:=∃g o,ao=some ⟨g,o,none⟩) (λh' s=>Rd.addr (hA _ (s.get (i:=1) rfl)) (by omega)) λhk=>?_;obtain⟨gm,om,rfl⟩:=hk;have hs1:=R9 x (k:=(B:Int)) (by omega);have hs2:=R9 (x.tdiv 16) (k:=(P:Int)) (by omega);have htn:(x.tdiv 16).natAbs=x.natAbs/16:=Int.natAbs_tdiv x 16;have ht1: -9223372036854775808<=x.tdiv 16:=by omega
  have ht2:x.tdiv 16<=9223372036854775807:=by omega
  obtain⟨hf1,hf2⟩:=hNP.more (by omega) hs1 hs2;refine J.pn 6 (.of [0,4,8,12,16,21,24,40,44,48,53,56,60,30,32,38,66,68,74,76,80,86]) [] [1] λ_ _=>?_;refine J.vT (iI x) rfl rfl (λhg aa w he hC=>a0G tk rfl rfl he rfl rfl rfl (hA _ (hC rfl _ (i7 (i:=1) rfl))) (by omega) (j:=i) (by omega) (V7 hx)) ?_;refine J.qn 5 λ_=>?_;refine J.vT (iI x) rfl rfl (λhg aa w he hC=>a0G tk rfl rfl he rfl rfl rfl (hA _ (hC rfl _ (i7 (i:=1) rfl))) (by omega) (j:=i) (by omega) (V7 hx)) ?_;refine J.qp (I6 n N) [5] λ_=>?_;rw[hg1,hg2,hg3];refine J.qp (a0A x B (by omega)) [] λ_=>?_;refine J.qp (I6 n N) [5] λ_=>?_;rw[hg1,hg2,hg3];refine J.qp (a0A (x.tdiv 16) P (by omega)) [] λ_=>?_;refine J.qp (Q4 n N hOk 0 1 dn (C9 x B) (C9 (x.tdiv 16) P) 0 0) [5] λ_=>?_;refine J.q λ_=>?_;refine J.n ((i+1,(N.fault 1 dn (C9 x B) (C9 (x.tdiv 16) P) 0 0).2)) (⟨⟨by dsimp only;omega,by dsimp only;omega⟩,_,by rw[hNe,hf1],hf2⟩) (by dsimp only;omega) [0,1,2,3,4,5,6,7,8]
 clear h1;have hN2:=hNP.dev;rw[<- hNe]at hN2;obtain⟨Z1,hZ1⟩:∃Z1,Z.setN N=Z1:=⟨_,rfl⟩;have hR0:DevR (dn:Int) D B P Z1 54500 i (λ_=>zeros16):=by
  rw[<- hZ1,hZ,hNe];exact DevR.new (by omega) hD hB hP hgb.2.1 hgb.2.2 hNP.dev hNP.rng λ_ _=>rfl
 refine J.turn1 [3,4,5,6,7,8] rfl (As:=FvP f p n t l d Z1) (λh s=>by rw[<- hZ1];exact s) rfl ?_;refine J.qc (a6Q f p n t l d 40 (by decide) (show i<=1000 by omega) (hR0.less (k:=400+(400+0)) (by decide))) [3,4,5,6,7,8] λ_=>?_;rintro v As ⟨Y,rfl,⟨hY,_⟩,rfl⟩;refine⟨_,rfl,trivial,?_⟩;refine J.qp (a6P f p n t l d 40 (by decide) hY) [3,4,5,6,7,8] λ_=>?_;refine J.qc (a6Q f p n t l d 800 (by decide) (show i<=1000 by omega) hY) [3,4,5,6,7,8] λ_=>?_;rintro v As ⟨Y2,rfl,⟨hY2,_⟩,rfl⟩;refine⟨_,rfl,trivial,?_⟩;refine J.qp (a6P f p n t l d 800 (by decide) hY2) [3,4,5,6,7,8] λ_=>?_;refine J.qp (a3n n Y2.S.N) [5] λ_=>?_;rw[hY2.br];exact J.qx [1]
end Go.Proofs.YtnffkcabeecopaaGreat
