/- Helpers. No condition. -/
import Derived.Test.YtnffkcabeecopaaGreatRows
import Derived.Test.YtnffkcabeecopaaGreatY04
import Derived.Test.YtnffkcabeecopaaGreatY18
import Derived.JoinedOf
set_option maxRecDepth 20000
set_option linter.all false
namespace Go.Proofs.YtnffkcabeecopaaGreat
open Go Go.RowKit
namespace FG
variable {fd : Int} {W : List (Int × En)} {lg k m : Nat} {F : Fv}
theorem room (h:FG fd W lg F) (hO:F.S.Ok (Dv.costM+k) m) (hnx:F.S.next<=1099511627775-30000000):
  ∃V,F.S.room=(V,0)/\FG fd W lg {F with S:=V}/\V.Ok k m/\V.next<=F.S.next+6400/\V.N.broken=F.S.N.broken/\F.S.N.Like V.N/\V.N.dead=F.S.N.dead:=by
 have hg:=hO.gd.ok.bd16;have htb:=hO.t.b;obtain⟨V,β',v1,v2,v3,v4,v5,v6,v7,v8,v9,v10,v11,v12,v13⟩:=h.rmy.room (k:=k) (hO.less (by
  have:Dv.costR*F.S.t.b<=Dv.costR*16:=Nat.mul_le_mul_left _ (by omega);unfold Dv.costM;omega)) h.hot (by have:=h.rows;omega) (by omega) (by omega)
 obtain rfl:β'=0:=by omega
 have hmany:=v2.many v3 v4;obtain⟨hg1,hg2⟩:=h.gi.room (k:=k) hO h.hot (by have:=h.fi.log;have:=h.fi.lg2;omega) (by omega);rw[v1]at hg1;refine⟨V,v1,⟨⟨v2.inv,v2.hd,h.fi.wok,h.fi.wr,v12.trans h.fi.log,?_,h.fi.lg2,h.fi.des,h.fi.nd,h.fi.off⟩,v2,v6,by show 5*V.N.pages<=V.rows+1;omega,?_,hg1⟩,v3,v8,v10,v11,v9⟩
 ·have:=h.fi.lgn;unfold Fv.lg at this ⊢;show((lgN V.N.dies V.N.blocks V.N.pages:Nat):Int)=_;rw[v11.dies,v11.blocks,v11.pages];exact this
 ·show 2*lg<=(V.N.blocks-5)*(V.N.pages*(V.N.dies-2))+1;rw[v11.blocks,v11.pages,v11.dies];exact h.cap
theorem of (h:FG fd W lg F) (hL:F.L=[]):FG fd W lg (Fv.of F.S):=
 ⟨⟨h.fi.inv,h.fi.hd,h.fi.wok,h.fi.wr,h.fi.log,h.fi.lgn,h.fi.lg2,λe he=>(by cases he),List.nodup_nil,rfl⟩,h.rmy,h.hot,h.rows,h.cap,h.gi⟩
end FG
theorem b0d {V:Dv} (h1:(V.free:Int)>4) (h2:f8 (j6 V.t V.T) V.op V.t.b=[]):V.room=(V,0):=by
 have hc:V.clear=(V,0):=by unfold Dv.clear Dv.clearX;rw[h2];rfl
 unfold Dv.room;rw[hc];dsimp only;rw[if_neg (by simp)];cases hb:V.t.b with
 | zero=>rfl
 | succ n=>rw[Dv.roomGo,if_pos h1]
theorem b1c (k:Nat):96+(Dv.costM+(FI.costW*200+(Dv.costM+k)))<=Dv.costK+k:=by
 unfold Dv.costK Dv.costT FI.costW Dv.cost;omega
namespace GI
variable {fd : Int} {W : List (Int × En)} {S : Dv} {k m : Nat}
theorem mountedT (h:GI fd W S) (hR:Rmy fd W S) (hO:S.Ok (Dv.costK+k) m) (hlog:S.T.logical=(lgN S.N.dies S.N.blocks S.N.pages:Int)) (hwr:∀i e,Tb.look W i=some e->e.role≠4) (hcap:2*lgN S.N.dies S.N.blocks S.N.pages<=(S.N.blocks-5)*(S.N.pages*(S.N.dies-2))+1)
  (hwh:∀i a,Tb.look S.T.at_ i=some a->(M.look S.N (G.parity a.mask a.block a.row) a.block a.row).2=1\/(M.look S.N (G.parity a.mask a.block a.row) a.block a.row).2=4) (hot:Hot2 fd (Dv.mt0 S.N) 0) (hr:4*S.N.pages<=S.rows) (hnx:S.next<=1099511627775-50000000):
  ∃V W',t7 S.N=(V,0)/\FG fd W' (lgN S.N.dies S.N.blocks S.N.pages) (Fv.of V)/\(∀i,cur W' [] i=cur W [] i)/\V.Ok k m/\V.next<=S.next+2000000/\V.N.dead=S.N.dead/\V.N.broken=S.N.broken/\S.N.Like V.N:=by
 have hg:=hO.gd.ok.bd16;have hct:=b1c k;have hO1:S.Ok (96+(Dv.costM+(FI.costW*200+(Dv.costM+k)))) m:=hO.less hct;have hn1:=hO.next;have hnle:=h.next_le hO;have hl2:=V0 hO.gd.ok;obtain⟨W',w1,w2,w3,w4,w5⟩:=h.mt0 hO1 hlog;have hlog0:=Dv.mt0_log hO.gd;have hR0:Rmy fd W' (Dv.mt0 S.N):=⟨w3.inv,w3.hd,w3.wok,w4,w3.ff,by have:=hR.cap;show 2*W'.length<=(S.N.blocks-5)*(S.N.pages*(S.N.dies-2))+1;omega⟩;have hO0:(Dv.mt0 S.N).Ok (96+(Dv.costM+(FI.costW*200+(Dv.costM+k)))) m:=Dv.Ok.mt0 hO1.gd;have hall:∀i:Nat,(V.standOf (V.of (V.all S.N) i)).2=true->((V.standOf (V.of (V.all S.N) i)).1.whole=true\/V.last S.N (V.standOf (V.of (V.all S.N) i)).1=false)/\∃w sq,Tb.look W (i:Int)=some w/\(V.standOf (V.of (V.all S.N) i)).1.en={w with seq:=sq}:=λi hs=>by
  cases ha:Tb.look S.T.at_ (i:Int)with
  | none=>rw[h.stand_none hO ha]at hs;cases hs
  | some a=>
   obtain⟨w,f,g1,g2,_,g4,g5,g6,g7,_,g9⟩:=h.stand hO ha;rw[g2];refine⟨?_,w,a.seq,g1,g4⟩;rcases hwh _ a ha with e | e
   ·left;show f.whole=true;rw[g9,e];rfl
   ·right;show V.last S.N f=false;unfold V.last;rw[g7,g5,g6,e];simp
 obtain⟨s1,s2,s3⟩:=V.goS_torn (N:=S.N) (λi hs=>(hall i hs).1) (lgN S.N.dies S.N.blocks S.N.pages) (V.size (lgN S.N.dies S.N.blocks S.N.pages));have hsz:V.size (lgN S.N.dies S.N.blocks S.N.pages)=lgN S.N.dies S.N.blocks S.N.pages:=by unfold V.size;omega
 rw[hsz]at s1 s2 s3;obtain⟨E,hE⟩:∃E,(List.range (lgN S.N.dies S.N.blocks S.N.pages)).filterMap (V.tornAt (V.all S.N))=E:=⟨_,rfl⟩;have hsub:=V.torn_sub (V.all S.N) (lgN S.N.dies S.N.blocks S.N.pages);rw[hE]at s2 hsub;have hEl:E.length<=200:=by
  have:=hsub.length_le;simp only[List.length_map,List.length_range]at this;omega
 have hnd:(E.map (·.lpn)).Nodup:=hsub.nodup (by
  have:(List.range (lgN S.N.dies S.N.blocks S.N.pages)).Nodup:=List.nodup_range;exact List.pairwise_map.2 (this.imp λhne e=>hne (by omega)))
 have hEm:∀e∈E,∃(i:Nat) (w:En) (sq:Int),i<lgN S.N.dies S.N.blocks S.N.pages/\Tb.look W (i:Int)=some w/\e={w with seq:=sq}/\e.lpn=(i:Int):=λe he=>by
  rw[<- hE,List.mem_filterMap]at he;obtain⟨i,hi,hie⟩:=he;have hlp:=V.torn_lpn hie;unfold V.tornAt at hie;split at hie
  ·rename_i hc;injection hie with hie;obtain⟨_,w,sq,x1,x2⟩:=hall i hc.1;exact⟨i,w,sq,List.mem_range.1 hi,x1,by rw[<- hie];exact x2,hlp⟩
  ·cases hie
 have hs1:(V.scan S.N (lgN S.N.dies S.N.blocks S.N.pages)).torn=E:=by
  show(V.goS S.N (V.all S.N) (lgN S.N.dies S.N.blocks S.N.pages) (V.size (lgN S.N.dies S.N.blocks S.N.pages))).torn++(V.goS S.N (V.all S.N) (lgN S.N.dies S.N.blocks S.N.pages) (V.size (lgN S.N.dies S.N.blocks S.N.pages))).others=E;rw[hsz,s1,s2];rfl
 have hsf:(V.scan S.N (lgN S.N.dies S.N.blocks S.N.pages)).first=0:=by
  show(V.goS S.N (V.all S.N) (lgN S.N.dies S.N.blocks S.N.pages) (V.size (lgN S.N.dies S.N.blocks S.N.pages))).torn.length=0;rw[hsz,s1];rfl
 have hs2:(V.scan S.N (lgN S.N.dies S.N.blocks S.N.pages)).held=[]:=by
  show a3n (V.goS S.N (V.all S.N) (lgN S.N.dies S.N.blocks S.N.pages) (V.size (lgN S.N.dies S.N.blocks S.N.pages))).held=[];rw[hsz,s3];exact a1s
 obtain⟨U,u1,u2,u3,u4,_,u6,u7,_,u9,u10,u11,u12,u13,u14,u15⟩:=hR0.clear (β:=0) hO0;obtain⟨U',x1,x2,_⟩:=w3.clear hO0;rw[u1]at x1;injection x1 with x1 _;subst x1;have hUlog:U.T.logical=(lgN S.N.dies S.N.blocks S.N.pages:Int):=by rw[u6];exact hlog0
 have hrows:=h.rows_mt (V:=U) (hO1.less (show(Dv.costM+(FI.costW*200+(Dv.costM+k)))<=_ by omega)) hlog u3 u2.inv u6 u7 u13 u2.held u4;have hUt:=u3.t.b;have hU4:=u15 hot;have hp:=u13.pages;have hb:=u13.blocks;have hb0:(Dv.mt0 S.N).N.blocks=S.N.blocks:=rfl;have hp0:(Dv.mt0 S.N).N.pages=S.N.pages:=rfl;obtain⟨V,β',v1,v2,v3,v4,v5,v6,v7,v8,v9,v10,v11,v12,v13⟩:=u2.room (k:=FI.costW*200+(Dv.costM+k)) (u3.less (by
  have:Dv.costR*U.t.b<=Dv.costR*16:=Nat.mul_le_mul_left _ (by omega);unfold Dv.costM;omega)) hU4 (by omega) (by omega) (by omega)
 obtain rfl:β'=0:=by omega
 obtain⟨y1,y2⟩:=x2.room (k:=FI.costW*200+(Dv.costM+k)) u3 hU4 (by rw[hUlog];omega) (by omega);rw[v1]at y1 y2;have y1:GI fd W' V:=y1;have y2:Hot2 fd V 0:=y2;have hlk:S.N.Like V.N:=u13.trans v11;have hmany:=v2.many v3 v4;have hfg:FG fd W' (lgN S.N.dies S.N.blocks S.N.pages) ⟨V,E,0,false⟩:=by
  refine⟨⟨v2.inv,v2.hd,v2.wok,λi e he=>hwr i e (by rw[<- w1];exact he),v12.trans hUlog,?_,hl2.2,λe he=>?_,hnd,rfl⟩,v2,y2,by show 5*V.N.pages<=V.rows+1;omega,?_,y1⟩
  ·show((lgN V.N.dies V.N.blocks V.N.pages:Nat):Int)=_;rw[hlk.dies,hlk.blocks,hlk.pages]
  ·obtain⟨i,w,sq,i1,i2,i3,i4⟩:=hEm e he;have hwk:=h.wok _ w i2;refine⟨by rw[i3];exact⟨hwk.2.lpn,hwk.2.role,hwk.2.len⟩,by rw[i3];exact hwr _ w i2,by omega⟩
  ·show 2*_<=(V.N.blocks-5)*(V.N.pages*(V.N.dies-2))+1;rw[hlk.blocks,hlk.pages,hlk.dies];exact hcap
 have hcur0:∀i,cur W' E i=cur W [] i:=λi=>by
  unfold cur;rw[List.find?_nil];dsimp only;cases hf:E.find? (λx=>x.lpn==i)with
  | none=>dsimp only;rw[w1]
  | some e=>
   obtain⟨j,w,sq,i1,i2,i3,i4⟩:=hEm e (List.mem_of_find?_eq_some hf);have:e.lpn=i:=by have:=List.find?_some hf;simpa using this
   dsimp only;rw[<- this,i4,i2,i3]
 have hidle:=b0d v4 v5;have htorn:∃Q W2,U.torn E=(Q,0)/\(E=[]/\Q=U\/Q.room.2=0/\True)/\FG fd W2 (lgN S.N.dies S.N.blocks S.N.pages) (Fv.of Q.room.1)/\Q.room.2=0/\(∀i,cur W2 [] i=cur W [] i)/\Q.room.1.Ok k m/\Q.room.1.next<=S.next+2000000/\Q.room.1.N.dead=S.N.dead/\Q.room.1.N.broken=S.N.broken/\S.N.Like Q.room.1.N:=by
  unfold Dv.torn;cases hEE:E with
  | nil=>
   refine⟨U,W',rfl, .inl ⟨rfl,rfl⟩,?_⟩;rw[v1];rw[hEE]at hfg hcur0;exact⟨hfg.of rfl,rfl,hcur0,v3.less (by omega),by dsimp only;omega,v9.trans u11,v10.trans u12,hlk⟩
  | cons e0 E0=>
   rw[<- hEE];obtain⟨n,hn⟩:∃n,E.length=n+1:=⟨E0.length,by rw[hEE];rfl⟩;have e1:Dv.tornGo E.length U E=Dv.tornGo E.length V E:=by
    have hne:¬E.length=0:=by omega
    rw[hn,Dv.tornGo,Dv.tornGo,if_neg hne,if_neg hne,v1,hidle]
   have e2:=a2K E.length ⟨V,E,0,false⟩ hnd;have hm:FI.costW*E.length<=FI.costW*200:=Nat.mul_le_mul_left _ hEl;obtain⟨F',W2,r1,r2,r3,r4,r5,r6,r7,r8,r9⟩:=FG.flush_go (k:=Dv.costM+k) (m:=m) E.length ⟨V,E,0,false⟩ W' hfg (v3.less (by omega)) (Nat.le_refl _) (by dsimp only;omega);dsimp only at r4 r5 r6 r9;rw[r1]at e2;have e3:Dv.tornGo E.length U E=(F'.S,0):=e1.trans e2;obtain⟨X,z1,z2,z3,z4,z5,z6,z7⟩:=r2.room r3 (by omega);refine⟨F'.S,W2,e3, .inr ⟨by rw[z1],trivial⟩,?_⟩;rw[z1];refine⟨z2.of r7,rfl,λi=>?_,z3,by dsimp only;omega,(z7.trans r9).trans (v9.trans u11),(z5.trans r5).trans (v10.trans u12),(hlk.trans r6).trans z6⟩;have:=r8 i;rw[r7]at this;exact this.trans (hcur0 i)
 obtain⟨Q,W2,q1,_,q3,q4,q5,q6,q7,q8,q9,q10⟩:=htorn;refine⟨Q.room.1,W2,?_,q3,q5,q6,q7,q8,q9,q10⟩;rw[a3s];dsimp only;rw[hs1,hs2,hsf,List.take_zero,List.drop_zero];have h1:(Dv.mt0 S.N).holds [] true=Dv.mt0 S.N:=rfl;have h2:(Dv.mt0 S.N).holds [] false=Dv.mt0 S.N:=rfl;have h3:∀Z:Dv,Z.torn []=(Z,0):=λ_=>rfl;rw[h1,h3];dsimp only;rw[if_neg (by simp),h2,u1];dsimp only;rw[if_neg (by simp),q1];dsimp only;rw[if_neg (by simp),<- q4]
end GI
theorem Full.par_or {die:Nat} {N:Nand} {b r m:Int} {l:List En} (h:Full (die:Int) N b r m l) (hoff:N.off=false) (hdead:∀i:Nat,(i:Int)≠die->N.dead.getD i false=false) (hdd:N.dead.getD die false=true):(M.look N (G.parity m b r) b r).2=1\/(M.look N (G.parity m b r) b r).2=4:=by
 have hx:=List.mem_of_getElem? (L5 b r m l);obtain⟨n1,n2,_⟩:=h.is.inn _ hx;obtain⟨p,hp⟩:=Int.eq_ofNat_of_zero_le n1;have hp:G.parity m b r=(p:Int):=hp;have hgeo:B6 N.dies N.blocks N.pages (G.parity m b r) b r=true:=Nand.geoIn_of ⟨n1,n2⟩ h.is.blk h.is.row
 by_cases e:p=die
 ·right;have hrf:N.refuses (G.parity m b r) b r=8:=by
   unfold Nand.refuses;rw[hoff,if_neg (by decide),hgeo,if_neg (by decide),hp,Int.toNat_natCast,e,hdd];rfl
  have hre:N.readE (G.parity m b r) b r=8:=by unfold Nand.readE;rw[if_pos (by rw[hrf];decide),hrf]
  unfold M.look;dsimp only;rw[hre];rfl
 ·left;obtain⟨t,ht⟩:=h.good _ hx (by show G.parity m b r≠(die:Int);omega);have hrf:N.refuses (G.parity m b r) b r=0:=by
   unfold Nand.refuses;rw[hoff,if_neg (by decide),hgeo,if_neg (by decide),hp,Int.toNat_natCast,hdead p (by omega)];rfl
  rw[a0Q (h.is.sh _ hx).1 hrf ht]
theorem b2C {N:Nand} (hN:N.Ok) {die:Nat} (hd:die<N.dies) (hdd:N.dead.getD die false=true):Hot2 (die:Int) (Dv.mt0 N) 0:=by
 refine .cold ?_ ?_
 ·show L.has (Tl.of N).dead die=true;rw[(Tl.of_spec hN).2.1];unfold Nand.deadAt;rw[decide_eq_true (by omega:(0:Int)<=(die:Int)),decide_eq_true (by omega:(die:Int)<N.dies),Int.toNat_natCast,hdd];rfl
 ·show L.has 0 (die:Int)=false;exact L.has_zero _
structure DevG (die D B P:Nat) (F:Fv) (n:Nat) (c:Nat->List UInt8):Prop where
 fg:∃W,FG (die:Int) W (lgN D B P) F/\∀i:Nat,i<lgN D B P->cur W F.L i=c i
 ok:F.Ok (UN*n) 1
 nx:F.S.next+8000*(n:Int)<=1099000000000
 br:F.S.N.broken=0
 geo:F.S.N.dies=D/\F.S.N.blocks=B/\F.S.N.pages=P
 le:n<=200000
 dd:F.S.N.dead.getD die false=true
 dl:die<D
namespace DevG
variable {die D B P n : Nat} {F : Fv} {c : Nat → List UInt8}
theorem lg (h:DevG die D B P F n c):F.lg=(lgN D B P:Int):=by
 obtain⟨W,hW,_⟩:=h.fg;exact hW.fi.lgn
theorem less (h:DevG die D B P F n c) {k:Nat} (hk:k<=n):DevG die D B P F k c:=
 ⟨h.fg,h.ok.less (Nat.mul_le_mul_left _ hk),by have:=h.nx;omega,h.br,h.geo,by have:=h.le;omega,h.dd,h.dl⟩
theorem congr (h:DevG die D B P F n c) {c':Nat->List UInt8} (hc:∀i,i<lgN D B P->c i=c' i):DevG die D B P F n c':=by
 obtain⟨W,hW,h2⟩:=h.fg;exact⟨⟨W,hW,λi hi=>(h2 i hi).trans (hc i hi)⟩,h.ok,h.nx,h.br,h.geo,h.le,h.dd,h.dl⟩
theorem read (h:DevG die D B P F n c) {i:Nat} (h1:i<lgN D B P):F.read i=(F,c i,0):=by
 obtain⟨W,hW,hc⟩:=h.fg;rw[hW.fi.read,if_neg (by omega),hc i h1]
theorem all (h:DevG die D B P F n c):F.all=(F,(List.range (lgN D B P)).map c,0):=Fv.all_of h.lg λj hj=>h.read hj
theorem like (h:DevG die D B P F n c) {G:Fv} (hl:F.S.N.Like G.S.N):G.S.N.dies=D/\G.S.N.blocks=B/\G.S.N.pages=P:=
 ⟨hl.dies.trans h.geo.1,hl.blocks.trans h.geo.2.1,hl.pages.trans h.geo.2.2⟩
theorem put (h:DevG die D B P F (n+1) c) {e:En} {u:Nat} (hu:e.lpn=(u:Int)) (he:FitR e/\e.role≠4/\e.lpn<(lgN D B P:Int)) (hk:(F.waits e).1.Ok (UN*n) 1):
  (F.waits e).2=0/\DevG die D B P (F.waits e).1 n (λj=>if j=u then e.data else c j):=by
 obtain⟨W,hW,hc⟩:=h.fg;have hU:UN*(n+1)=UN*n+UN:=Nat.mul_succ _ _;have hU2:=a9J;have hnx:=h.nx;obtain⟨F',W',r1,r2,r3,_,r5,r6,r7,r8⟩:=hW.waits (k:=UN*n) (h.ok.dv.less (by omega)) (by omega) he;rw[r1]at hk ⊢;exact⟨rfl,⟨⟨W',r2,λi hi=>by
  rw[r3,hu,hc i hi]
  by_cases e:i=u
  ·rw[if_pos e,if_pos (by omega)]
  ·rw[if_neg e,if_neg (by omega)]⟩,hk,by dsimp only;omega,r6.trans h.br,h.like r7,by have:=h.le;omega,by rw[r8];exact h.dd,h.dl⟩⟩
theorem write (h:DevG die D B P F (n+1) c) {i:Nat} (h1:i<lgN D B P) {d:List UInt8} (hd:d.length=16):
  (F.write i d).2=0/\DevG die D B P (F.write i d).1 n (λj=>if j=i then d else c j):=by
 have h200:=(Fv.lg_bd (F:=F) h.ok.dv.gd.ok).2;rw[h.lg]at h200;have hU:UN*(n+1)=UN*n+UN:=Nat.mul_succ _ _;exact h.put (e:=⟨(i:Int),0,1,d⟩) (u:=i) rfl ⟨⟨⟨Int.natCast_nonneg i,by show(i:Int)<=65535;omega⟩, .inl rfl,hd⟩,by show(1:Int)≠4;decide,by show(i:Int)<_;omega⟩ (Fv.write_keep (k:=UN*n) (h.ok.less (by unfold UN at hU ⊢;omega)) i hd).1
theorem flush (h:DevG die D B P F (n+200) c):F.flush.2=0/\DevG die D B P F.flush.1 n c/\F.flush.1.L=[]:=by
 obtain⟨W,hW,hc⟩:=h.fg;have hU:UN*(n+200)=UN*n+UN*200:=Nat.mul_add _ _ _;have hf:=a1i;have hf2:=a5E;have hnx:=h.nx;have hk:=(Fv.flush_keep (k:=UN*n) (m:=1) (h.ok.less (by omega))).1;obtain⟨F',W',r1,r2,_,r4,r5,r6,r7,r8,r9⟩:=hW.flush (k:=UN*n) (h.ok.dv.less (by omega)) (by omega);rw[r1]at hk ⊢;exact⟨rfl,⟨⟨W',r2,λi hi=>(r8 i).trans (hc i hi)⟩,hk,by dsimp only;omega,r5.trans h.br,h.like r6,by have:=h.le;omega,by rw[r9];exact h.dd,h.dl⟩,r7⟩
theorem gdC (h:DevG die D B P F n c) {k:Nat} (hk:k<=UN*n):F.S.N.cyc.Gd k 1:=
 ((h.ok.dv.less hk).gd.cut (-1) 0 (by decide) (by decide)).on
end DevG
theorem a3t {die D B P n:Nat} {W:List (Int×En)} {S:Dv} {c:Nat->List UInt8} (hG:GI (die:Int) W S) (hH:∀b,S.t.has b=true->(S.t.at_ b).held=false) (hO:S.Ok (Dv.costK+UN*n) 1) (hlog:S.T.logical=(lgN D B P:Int)) (hgeo:S.N.dies=D/\S.N.blocks=B/\S.N.pages=P) (hwr:∀i e,Tb.look W i=some e->e.role≠4) (hcap:2*lgN D B P<=(B-5)*(P*(D-2))+1) (hcp:2*W.length<=(B-5)*(P*(D-2))+1)
  (hdl:die<D) (hdd:S.N.dead.getD die false=true) (hr:5*P<=S.rows+1) (hnx:S.next+8000*((n+403:Nat):Int)<=1099000000000) (hn:n<=190000) (hbr:S.N.broken=0) (hc:∀i:Nat,i<lgN D B P->cur W [] i=c i):
  (t7 S.N).2=0/\DevG die D B P (Fv.of (t7 S.N).1) n c:=by
 obtain⟨g1,g2,g3⟩:=hgeo;have hg:=hO.gd.ok.bd16;have hR:Rmy (die:Int) W S:=⟨hG.inv,hG.hd,hG.wok,hH,hG.ff,by rw[g1,g2,g3];exact hcp⟩;obtain⟨V,W',r1,r2,r3,r4,r5,r6,r7,r8⟩:=hG.mountedT (k:=UN*n) (m:=1) hR hO (by rw[g1,g2,g3];exact hlog) hwr (by rw[g1,g2,g3];exact hcap) (λi a ha=>by
  obtain⟨l,x1,_⟩:=(hG.inv.st i a ha).row;exact x1.par_or hG.inv.lit.off hG.inv.dead hdd) (b2C hO.gd.ok (by rw[g1];exact hdl) hdd) (by rw[g3]at hg ⊢;omega) (by omega)
 rw[r1];rw[g1,g2,g3]at r2;refine⟨rfl,⟨W',r2,λi hi=>(r3 i).trans (hc i hi)⟩,Fv.of_ok r4 (b7J (by omega)),by show V.next+_<=_;omega,r7.trans hbr,⟨r8.dies.trans g1,r8.blocks.trans g2,r8.pages.trans g3⟩,by omega,by show V.N.dead.getD die false=true;rw[r6];exact hdd,hdl⟩
theorem a6Y {S:Dv} {N':Nand} (h:N'.pages=S.N.pages):({S with N:=N'}:Dv).rows=S.rows:=by
 unfold Dv.rows;show N'.pages*S.t.blanks+(if S.op>=0 then((N'.pages:Int)-S.row).toNat else 0)=_;rw[h]
namespace DevG
variable {die D B P n : Nat} {F : Fv} {c : Nat → List UInt8}
theorem again (h:DevG die D B P F (n+403) c) (hn:n<=190000) (hL:F.L=[]):(t7 F.S.N.cyc).2=0/\DevG die D B P (Fv.of (t7 F.S.N.cyc).1) n c:=by
 obtain⟨W,hW,hc⟩:=h.fg;obtain⟨c1,c2,c3,c4,c5,c6⟩:=F.S.N.cyc_same hW.fi.inv.lit;obtain⟨g1,g2,g3⟩:=h.geo;have hU:UN*(n+403)=UN*n+UN*403:=Nat.mul_add _ _ _;have hm:=a1h;refine a3t (W:=W) (S:={F.S with N:=F.S.N.cyc}) (FC.GI.cyc hW.gi) hW.rmy.held ⟨h.gdC (by omega),h.ok.dv.t.like c1,h.ok.dv.T,h.ok.dv.sl,h.ok.dv.row,h.ok.dv.next⟩ hW.fi.log ⟨c1.dies.trans g1,c1.blocks.trans g2,c1.pages.trans g3⟩ hW.fi.wr ?_ ?_ h.dl (by show F.S.N.cyc.dead.getD die false=true;rw[c3];exact h.dd) ?_ h.nx hn (c5.trans h.br) λi hi=>by rw[<- hc i hi,hL]
 ·have:=hW.cap;rw[g1,g2,g3]at this;exact this
 ·have:=hW.rmy.cap;rw[g1,g2,g3]at this;exact this
 ·rw[a6Y c1.pages];have:=hW.rows;rw[g3]at this;exact this
end DevG
theorem Dev.mountG {die D B P n:Nat} {F:Fv} {c:Nat->List UInt8} (h:Dev D B P F (n+403) c) (hn:n<=190000) (hd:die<D) (hL:F.L=[]):(t7 (F.S.N.cyc.kill die)).2=0/\DevG die D B P (Fv.of (t7 (F.S.N.cyc.kill die)).1) n c:=by
 obtain⟨W,hW,hc⟩:=h.fc;obtain⟨c1,c2,c3,c4,c5,c6⟩:=F.S.N.cyc_same hW.fi.inv.lit;obtain⟨g1,g2,g3⟩:=h.geo;have hU:UN*(n+403)=UN*n+UN*403:=Nat.mul_add _ _ _;have hm:=a1h;have hOc:(F.setN F.S.N.cyc).Ok (UN*(n+403)) 0:=⟨⟨h.gdC (Nat.le_refl _),h.ok.dv.t.like c1,h.ok.dv.T,h.ok.dv.sl,h.ok.dv.row,h.ok.dv.next⟩,h.ok.dat,λe he=>by
  have:=h.ok.rng e he;unfold Fv.lg at this ⊢;show 0<=e.lpn/\e.lpn<((lgN F.S.N.cyc.dies F.S.N.cyc.blocks F.S.N.cyc.pages:Nat):Int);rw[c1.dies,c1.blocks,c1.pages];exact this,h.ok.nd,h.ok.nx⟩
 have hdl:die<F.S.N.cyc.dies:=by rw[c1.dies,g1];exact hd
 have hOk:=hOc.kill (d:=die) hdl;have hno:NoF ({F.S with N:=F.S.N.cyc}:Dv):=⟨λi=>by show F.S.N.cyc.dead.getD i false=false;rw[c3];exact hW.no.dead i,by show F.S.N.cyc.plan=[];rw[c4];exact hW.no.plan,λi j=>by show(F.S.N.cyc.blk i j).met=false;rw[c2];exact hW.no.met i j⟩;have hlen:die<F.S.N.cyc.dead.length:=by have e:F.S.N.cyc.dead.length=F.S.N.cyc.dies:=hOc.dv.gd.ok.dead;rw[e];exact hdl
 have hG:=GI.killed (die:=die) (FC.GI.cyc hW.gi) hno hlen;have hlk:F.S.N.cyc.Like (F.S.N.cyc.kill die):=⟨rfl,rfl,rfl⟩;refine a3t (W:=W) (S:={F.S with N:=F.S.N.cyc.kill die}) hG hW.rmy.held (hOk.dv.less (by omega)) hW.fi.log ⟨c1.dies.trans g1,c1.blocks.trans g2,c1.pages.trans g3⟩ hW.fi.wr ?_ ?_ hd ?_ ?_ h.nx hn (c5.trans h.br) λi hi=>by rw[<- hc i hi,hL]
 ·have:=hW.cap;rw[g1,g2,g3]at this;exact this
 ·have:=hW.rmy.cap;rw[g1,g2,g3]at this;exact this
 ·show(F.S.N.cyc.dead.set die true).getD die false=true;rw[List.getD_eq_getElem?_getD,List.getElem?_set,if_pos rfl,if_pos hlen];rfl
 ·rw[a6Y (hlk.pages.trans c1.pages)];have:=hW.rows;rw[g3]at this;exact this
theorem b1C (f p n t l d:Nat) {die D B P k:Nat} {Z:Fv} {c0:Nat->List UInt8} (c:Int) (hc:0<=c/\c<=100000) (h:DevG die D B P Z (400+k) c0):
  FP 33 [pp f,iI c] (FvP f p n t l d Z) (λv As=>∃Y,v= .bool true/\(DevG die D B P Y k (λj=>U3 (c+j))/\Y.L=[])/\As=FvP f p n t l d Y):=by
 have hlg:=(Fv.lg_bd (F:=Z) h.ok.dv.gd.ok).2;rw[h.lg]at hlg;have hUN:UN=Fv.cW+1:=rfl;refine a8X f p n t l d Z c hc (lgN D B P) 1 (by omega) (by decide) (λi Y=>DevG die D B P Y (200-i+200+k) (λj=>if j<i then U3 (c+j)else c0 j)) (λY=>DevG die D B P Y k (λj=>U3 (c+j))/\Y.L=[]) ?_ (λi Y hY=>⟨hY.lg,hY.ok.dv.gd.ok⟩) (λi Y hY hi=>?_) λY hY=>?_
 ·exact(h.less (by omega)).congr λi _=>by rw[if_neg (by omega)]
 ·have hY:DevG die D B P Y ((200-(i+1)+200+k)+1) _:=hY.less (by omega);have hok:=hY.ok.less (k':=UN) (by rw[Nat.mul_succ];omega);obtain⟨w1,w2⟩:=hY.write hi (a6T (c+i));exact⟨hok,w1,w2.congr λj _=>by
   by_cases e:j=i
   ·rw[if_pos e,if_pos (by omega),e]
   ·rw[if_neg e]
    by_cases e2:j<i
    ·rw[if_pos e2,if_pos (by omega)]
    ·rw[if_neg e2,if_neg (by omega)]⟩
 ·have hY:DevG die D B P Y (k+200) _:=hY.less (by omega);have hok:=hY.ok.less (k':=Fv.cW*200+0) (by rw[Nat.mul_add];have:=a1i;omega);obtain⟨w1,w2,w3⟩:=hY.flush;exact⟨hok,w1,w2.congr λj hj=>if_pos hj,w3⟩
theorem a6R (f p n t l d:Nat) {die D B P k:Nat} {Z:Fv} (c:Int) (hc:0<=c/\c<=100000) (h:DevG die D B P Z k (λj=>U3 (c+j))):
  FP 38 [pp f,iI c] (FvP f p n t l d Z) (Ps (.bool true) (FvP f p n t l d Z)):=by
 have hlg:=(Fv.lg_bd (F:=Z) h.ok.dv.gd.ok).2;rw[h.lg]at hlg;exact b4o f p n t l d Z c hc (lgN D B P) (UN*k) 1 (by omega) h.ok h.lg h.all
theorem Nand.Gd.kill {N:Nand} {k m d:Nat} (h:N.Gd k m) (hd:d<N.dies):(N.kill d).Gd k (m+1):=by
 have hf:=a0r h.ok hd;have:=a0e h [⟨0,4,d,0,0,0,0⟩];have e:L8 N [⟨0,4,d,0,0,0,0⟩]=N.kill d:=congrArg Prod.snd hf;rw[e]at this;exact this
theorem a4o (g0 g1 g2 dd:Int) (A:Atom):FP 7 [.agg #[iI g0,iI g1,iI g2],iI dd] [A] (Ps (.bool true) [A]):=by
 refine FE [0,0] Tryz.func7 λX F hX=>?_;refine J.qp (b1E) [] λ_=>?_;refine J.qF λ_=>?_;refine J.qc (a9T g0 g1 g2) [] λ_=>?_;rintro v As ⟨D,B,P,n,f,p,t,l,d,Z,rfl,hD,hB,hP,hZ,hZL,rfl⟩;refine⟨_,rfl,trivial,?_⟩;refine J.qc (b1D f p n t l d 21 (by decide) (hZ.less (k:=400+100000) (by decide))) [3,4,5,6,7,8] λ_=>?_;rintro v As ⟨Y,rfl,⟨hY,hYL⟩,rfl⟩;refine⟨_,rfl,trivial,?_⟩;have hGc:Y.S.N.cyc.Gd (Dv.costK+0) 0:=hY.gdC (Nat.le_trans a1h (Nat.mul_le_mul_left _ (by decide)));have hlk:Y.S.N.cyc.dies=D:=by
  obtain⟨W,hW,_⟩:=hY.fc;rw[(Y.S.N.cyc_same hW.fi.inv.lit).1.dies];exact hY.geo.1
 have hof:Y.S.N.cyc.off=false:=by
  obtain⟨W,hW,_⟩:=hY.fc;exact(Y.S.N.cyc_same hW.fi.inv.lit).2.2.2.2.2.off
 have hb:=a4F dd (k:=(Y.S.N.cyc.dies:Int)) (by rw[hlk];omega);obtain⟨dn,hdn⟩:∃k:Nat,(O4 dd Y.S.N.cyc.dies).toNat=k:=⟨_,rfl⟩;have hdl:dn<D:=by omega
 obtain⟨hm0,hG⟩:=(hY.less (k:=99000+403) (by decide)).mountG (n:=99000) (by decide) hdl hYL;have hGk:(Y.S.N.cyc.kill dn).Gd (Dv.costK+0) 1:=hGc.kill (by omega);obtain⟨Q,hQ⟩:∃Q,Fv.of (t7 (Y.S.N.cyc.kill dn)).1=Q:=⟨_,rfl⟩;rw[hQ]at hG;refine J.qF λ_=>?_;refine J.qp (a4W n Y.S.N (-1) 0) [5] λ_=>?_;refine J.qp (b0q n (Y.S.N.setCut (-1) 0)) [5] λ_=>?_;rw[show(Y.S.N.setCut (-1) 0).onN=Y.S.N.cyc from rfl];refine J.qp (b4p n Y.S.N.cyc hGc.ok dd) [5] λ_=>?_;rw[hdn];refine J.qc (L7 n (Y.S.N.cyc.kill dn) 0 1 hGk (by decide) hof) [5] λ_=>?_;rintro v As (⟨_,f2,p2,t2,l2,d2,rfl,rfl⟩ | ⟨he,rfl,rfl⟩)
 rotate_left
 ·exact absurd hm0 he
 refine⟨_,rfl,trivial,?_⟩;rw[hQ];refine J.qp (a6R f2 p2 n t2 l2 d2 21 (by decide) hG) [5,9,10,11,12,13] λ_=>?_;refine J.qF λ_=>?_;refine J.qc (b1C f2 p2 n t2 l2 d2 300 (by decide) (hG.less (k:=400+98000) (by decide))) [5,9,10,11,12,13] λ_=>?_;rintro v As ⟨V,rfl,⟨hV,hVL⟩,rfl⟩;refine⟨_,rfl,trivial,?_⟩;refine J.qp (a6R f2 p2 n t2 l2 d2 300 (by decide) hV) [5,9,10,11,12,13] λ_=>?_;obtain⟨ha,_⟩:=(hV.less (k:=97000+403) (by decide)).again (n:=97000) (by decide) hVL;refine J.q λ_=>?_;refine J.ca hX (by kernel_rfl) (b1F n V.S.N 0 1 (hV.gdC (Nat.le_trans a1h (Nat.mul_le_mul_left _ (by decide)))) (by decide) ha) [10] 0 rfl rfl rfl rfl rfl rfl (λ_=>rfl) ?_;rintro v As ⟨f3,p3,t3,l3,d3,rfl,rfl⟩;refine⟨_,rfl,trivial,?_⟩;exact J.qx [1]
theorem H8 {a b:Bool} (ha:a=true) (hb:b=true):(a&&b)=true:=by rw[ha,hb];rfl
theorem b0F {P:Program} {f:FuncId} {fn:Func} {s:ChangeSpec} {c:OpenClaim} (k0:(c.wf (OpenSpec.ofChange s))=true) (k1:(laidOutB P)=true) (k2:(mapsRowed P)=true) (k3:(fn.params.all (P.readableRec ·))=true) (k4:(namedTie P c.named s.vars)=true) (k5:(c.stops==[])=true) (k6:(P.stops==[])=true) (k7:(c.knobs==[])=true) (k8:(P.stopKnobs==[])=true) (k9:(c.inPlace==P.inPlace f)=true) (k10:(c.unfollowed==P.unfollowed f)=true) (k11:(c.recurses==P.recurses f)=true) (k12:(c.named==P.varsNamed f)=true) (k13:(c.maps==(fn.params.toList++s.plain.varTypes P).any (P.mapsRec ·))=true) (k14:(c.ifaces==(fn.params.toList++s.plain.varTypes P).any (P.ifacesRec ·))=true) (k15:(c.mapsOut==P.mapsAmong fn.resultTypes.toList)=true) (k16:(c.loops==(fn.params.toList++s.plain.varTypes P).any (P.loopsFrom ·))=true) (k17:(c.wideKeys==(fn.params.toList++s.plain.varTypes P++fn.resultTypes.toList).any (P.wideKeysFrom ·))=true) (k18:(s.vars.all (P.varReadable ·))=true) (k19:(fn.resultTypes.all (λt=>P.readableRec t&&decide (t<P.types.size)))=true) (k20:(c.ifacesOut==fn.resultTypes.toList.any (P.ifacesRec ·))=true) (k21:(c.loopsOut==fn.resultTypes.toList.any (P.loopsFrom ·))=true) (k22:(c.plainKeys==P.plainKeys)=true) (k23:(c.shortTexts.isNone)=true) (k24:(P.stopsHeard)=true) (k25:(P.mayEnter)=true) (k26:(c.lifted==P.liftsFinal)=true) (k27:(P.make==some c.make)=true) (k28a:c.domain.isEmpty=true) (k28:(c.kinds==[])=true) (k29:(c.pinned==c.pinnedBy)=true) (k30:(c.veiled==(fn.params.toList++s.plain.varTypes P++fn.resultTypes.toList).any (P.veiledRec ·))=true) (k31:(c.veiledFits P fn.params.toList (fn.params.toList++s.plain.varTypes P++fn.resultTypes.toList))=true):joinedFacts P f fn s c=true:=by
 unfold joinedFacts;rw[if_pos k28a];exact(H8 (H8 (H8 (H8 (H8 (H8 (H8 (H8 (H8 (H8 (H8 (H8 (H8 (H8 (H8 (H8 (H8 (H8 (H8 (H8 (H8 (H8 (H8 (H8 (H8 (H8 (H8 (H8 (H8 (H8 (H8 k0 k1) k2) k3) k4) k5) k6) k7) k8) k9) k10) k11) k12) k13) k14) k15) k16) k17) k18) k19) k20) k21) k22) k23) k24) k25) k26) k27) k28) k29) k30) k31)
theorem b3a:laidOutB Tryz.prog=true:=by kernel_rfl
theorem b5g:mapsRowed Tryz.prog=true:=by kernel_rfl
theorem b5f:(Tryz.prog.stops==[])=true:=by kernel_rfl
theorem b5h:(Tryz.prog.stopKnobs==[])=true:=by kernel_rfl
theorem b5i:Tryz.prog.stopsHeard=true:=by kernel_rfl
theorem b5j:Tryz.prog.mayEnter=true:=by kernel_rfl
end Go.Proofs.YtnffkcabeecopaaGreat
