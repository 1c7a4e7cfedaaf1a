/- Helpers. No condition. -/
import Derived.Test.YtpakpgkdpofbhaaGreatA27
import Derived.Test.YtpakpgkdpofbhaaGreatA00
import Derived.Test.YtpakpgkdpofbhaaGreatA04
import Derived.Test.YtpakpgkdpofbhaaGreatA14
import Derived.Test.YtpakpgkdpofbhaaGreatA16
import Derived.Test.YtpakpgkdpofbhaaGreatA17
import Derived.Test.YtpakpgkdpofbhaaGreatRows
import Derived.JoinedOf
set_option maxRecDepth 20000
set_option linter.all false
namespace Go.Proofs.YtpakpgkdpofbhaaGreat
open Go Go.RowKit
namespace Rmy
variable {fd : Int} {S : Dv} {k m β : Nat} {W : List (Int × En)}
theorem pens {E:List En} (h:Rmy fd W S) (hO:S.Ok (8*Dv.fuel+k) m) (hot:Hot2 fd S β) (hr:β<S.rows) (hf:∀e∈E,FitR e) (hl0:E.length≠0) (hnd:(E.map (·.lpn)).Nodup) (hlg:∀e∈E,e.lpn<S.T.logical) (hcap:2*S.T.logical.toNat<=(S.N.blocks-5)*(S.N.pages*(S.N.dies-2))+1) (hnx:S.next<=1099511627775-1200):
  ∃(V:Dv) (n β':Nat),S.pen E=(V,(n:Int),(0:Int))/\1<=n/\n<=E.length/\Rmy fd (a1F W E n) V/\V.Ok k m/\Hot2 fd V β'/\β'<=β/\S.rows+β'<=V.rows+1+β/\S.next<=V.next/\V.next<=S.next+21/\V.N.dead=S.N.dead/\V.N.broken=S.N.broken/\S.N.Like V.N/\V.T.logical=S.T.logical:=by
 obtain⟨V,n,γ,p1,p2,p3,p4⟩:=h.inv.pen_step (E:=E) hO hot hr hf hl0 hnd hlg hnx h.hd;obtain⟨g1,g2⟩:=p2.hot β hot;have hrw:=p2.rows;have hn:=p2.n1;have hlen:(a1F W E n).length=V.T.at_.length:=by
  have:=congrArg List.length p4.keys;simpa using this.symm
 have hal:=b9l p3.T;obtain⟨w1,_⟩:WOk (a1F W E n)/\True:=by
  refine⟨?_,trivial⟩;have:∀j,j<=E.length->WOk (a1F W E j):=by
   intro j
   induction j with
   | zero=>intro _;exact h.wok
   | succ j ih=>
    intro hj;rw[a1R];exact(ih (by omega)).put (hf _ (a0e (by omega)))
  exact this n hn
 refine⟨V,n,β-γ,p1,p2.n3,p2.n1,⟨p2.inv,p4,w1,λb hb=>by rw[p2.has]at hb;rw[(p2.sb b hb).1];exact h.held b hb,λhd i j=>by rw[(p2.flags i j).2];exact h.ff (λi=>by rw[<- p2.dead];exact hd i) i j,?_⟩,p3,g2,by omega,by omega,p2.next.1,p2.next.2,p2.dead,p2.broken,p2.like,p2.logical⟩;rw[p2.like.blocks,p2.like.pages,p2.like.dies,hlen];rw[p2.logical]at hal;omega
end Rmy
theorem GI.new (fd:Int) (D B P:Nat) (lg:Int):GI fd [] (Dv.new D B P lg):=
 ⟨Inv.new _ _ _ _ _,⟨rfl,λi e he=>(by cases he)⟩,λi e he=>(by cases he),λi a ha=>(by cases ha),λb r _ _=> .none λd c hc=>(by
  have:(Dv.new D B P lg).N.pageAt d b r=none:=by show(Nand.new D B P).pageAt d b r=none;unfold Nand.pageAt Nand.new;simp
  rw[this]at hc;cases hc),λ_ _ _=>rfl⟩
structure FC (W:List (Int×En)) (lg:Nat) (F:Fv):Prop where
 fi:FI (-1) W lg F
 rmy:Rmy (-1) W F.S
 no:NoF F.S
 rows:5*F.S.N.pages<=F.S.rows+1
 cap:2*lg<=(F.S.N.blocks-5)*(F.S.N.pages*(F.S.N.dies-2))+1
 gi:GI (-1) W F.S
namespace FC
variable {W : List (Int × En)} {lg k m : Nat} {F : Fv}
theorem writes (h:FC W lg F) (hO:F.S.Ok (Dv.costM+(8*Dv.fuel+k)) m) (hnx:F.S.next<=1099511627775-30000000) (hl0:F.L.length≠0):
  ∃(F':Fv) (W':List (Int×En)),F.writes=(F',0)/\FC W' lg F'/\(∀i,cur W' F'.L i=cur W F.L i)/\F'.S.Ok k m/\F'.S.next<=F.S.next+7000/\F'.nx=F.nx/\F'.S.N.broken=F.S.N.broken/\F.S.N.Like F'.S.N/\F'.L.length<F.L.length:=by
 have hg:=hO.gd.ok.bd16;have htb:=hO.t.b;obtain⟨V,β',v1,v2,v3,v4,v5,v6,v7,v8,v9,v10,v11,v12,v13⟩:=h.rmy.room (k:=8*Dv.fuel+k) (hO.less (by
  have:Dv.costR*F.S.t.b<=Dv.costR*16:=x7 _ (by omega);unfold Dv.costM;omega)) (.calm h.no) (by have:=h.rows;omega) (by omega) (by omega)
 obtain rfl:β'=0:=by omega
 have hmany:=v2.many v3 v4;obtain⟨hg1,hg2⟩:=h.gi.room (k:=8*Dv.fuel+k) hO (.calm h.no) (by have:=h.fi.log;have:=h.fi.lg2;omega) (by omega);rw[v1]at hg1 hg2;have hg1:GI (-1) W V:=hg1;have hg2:Hot2 (-1) V 0:=hg2;have hp:=v11.pages;have hlog:=h.fi.log;have hcap:2*V.T.logical.toNat<=(V.N.blocks-5)*(V.N.pages*(V.N.dies-2))+1:=by
  have:=h.cap;rw[v12,hlog,v11.blocks,v11.pages,v11.dies];omega
 obtain⟨U,n,β2,u1,u2,u3,u4,u5,u6,u7,u8,u9,u10,u11,u12,u13,u14⟩:=v2.pens (E:=F.L) v3 v6 (by omega) (λe he=>(h.fi.des e he).1) hl0 h.fi.nd (λe he=>by rw[v12,hlog];exact(h.fi.des e he).2.2) hcap (by omega);obtain rfl:β2=0:=by omega
 have hgi:GI (-1) (a1F W F.L n) U:=by
  rcases hg1.pen v3 hg2 (λe he=>(h.fi.des e he).1) hl0 h.fi.nd (λe he=>by rw[v12,hlog];exact(h.fi.des e he).2.2) (by omega)with⟨_,hr0⟩ | ⟨U2,n2,q1,_,_,q2,_⟩
  ·omega
  ·rw[u1]at q1;injection q1 with q3 q4;injection q4 with q4 _;have q4:n=n2:=by omega
   rw[q3,q4];exact q2
 obtain⟨w1,w2⟩:=b4l h.fi.wok h.fi.wr (λe he=>⟨(h.fi.des e he).1,(h.fi.des e he).2.1⟩) n u3;have hUno:NoF U:=u6.nof;have hlk:F.S.N.Like U.N:=v11.trans u13;have hwr:F.writes=({F with S:=U,L:=F.L.drop n}.told 0,0):=by
  unfold Fv.writes;rw[v1];dsimp only;rw[f9 (by decide),u1];dsimp only;rw[j4,b6s h.fi.nd]
 refine⟨_,a1F W F.L n,hwr,⟨⟨u4.inv,u4.hd,w1,w2,u14.trans (v12.trans hlog),?_,h.fi.lg2,λx hx=>h.fi.des x (S8 hx),?_,?_⟩,u4,hUno,?_,?_,hgi⟩,b9c h.fi.nd n u3,u5,?_,rfl,u12.trans v10,hlk,?_⟩
 ·have:=h.fi.lgn;unfold Fv.lg at this ⊢;show((lgN U.N.dies U.N.blocks U.N.pages:Nat):Int)=_;rw[hlk.dies,hlk.blocks,hlk.pages];exact this
 ·show((F.L.drop n).map (·.lpn)).Nodup;rw[List.map_drop];exact h.fi.nd.sublist (List.drop_sublist _ _)
 ·show(F.off||(0:Int)==9)=false;rw[h.fi.off];rfl
 ·show 5*U.N.pages<=U.rows+1;rw[u13.pages];omega
 ·show 2*lg<=(U.N.blocks-5)*(U.N.pages*(U.N.dies-2))+1;rw[hlk.blocks,hlk.pages,hlk.dies];exact h.cap
 ·show U.next<=_;omega
 ·show(F.L.drop n).length<_;rw[C0];omega
theorem put (h:FC W lg F) {e:En} (he:FitR e/\e.role≠4/\e.lpn<(lg:Int)):FC W lg (F.put e)/\∀i,cur W (F.put e).L i=if i=e.lpn then e.data else cur W F.L i:=by
 obtain⟨h1,h2⟩:=h.fi.put he;exact⟨⟨h1,h.rmy,h.no,h.rows,h.cap,h.gi⟩,h2⟩
theorem slots (h:FC W lg F) (hO:F.S.Ok k m):1<=F.S.slots:=by
 have hg:=hO.gd.ok.bd16;exact(h.fi.inv.slots_pos hO (by have:=h.rows;omega)).2
theorem waits (h:FC W lg F) (hO:F.S.Ok (Dv.costM+(8*Dv.fuel+k)) m) (hnx:F.S.next<=1099511627775-30000000) {e:En} (he:FitR e/\e.role≠4/\e.lpn<(lg:Int)):
  ∃(F':Fv) (W':List (Int×En)),F.waits e=(F',0)/\FC W' lg F'/\(∀i,cur W' F'.L i=if i=e.lpn then e.data else cur W F.L i)/\F'.S.Ok k m/\F'.S.next<=F.S.next+7000/\F'.S.N.broken=F.S.N.broken/\F.S.N.Like F'.S.N:=by
 have hlp:=he.1.lpn;unfold Fv.waits;rw[h.fi.ask,h.fi.off,f9 l9,h.fi.lgn,f9 (by omega)]
 by_cases hs:(F.L.length:Int)>=F.S.slots
 ·rw[g7 hs];have h1:=h.slots (hO.less (j6 _));obtain⟨G,W',w1,w2,w3,w4,w5,_,w6,w7,_⟩:=h.writes hO hnx (by omega);rw[w1];dsimp only;rw[f9 (by decide)];obtain⟨p1,p2⟩:=w2.put he;exact⟨_,W',rfl,p1,λi=>by rw[p2,w3],w4,w5,w6,w7⟩
 ·rw[f9 hs];obtain⟨p1,p2⟩:=h.put he;exact⟨_,W,rfl,p1,p2,hO.less (by omega),by show F.S.next<=_;omega,rfl,Nand.Like.refl _⟩
theorem flush_go:∀(f:Nat) (F:Fv) (W:List (Int×En)) (k:Nat),FC W lg F->F.S.Ok (FI.costW*f+k) m->F.L.length<=f->F.S.next+7000*(f:Int)<=1099511627775-30000000->
  ∃(F':Fv) (W':List (Int×En)),Fv.flushGo f F=(F',0)/\FC W' lg F'/\F'.S.Ok k m/\F'.S.next<=F.S.next+7000*(f:Int)/\F'.S.N.broken=F.S.N.broken/\F.S.N.Like F'.S.N/\F'.L=[]/\∀i,cur W' F'.L i=cur W F.L i
 | 0,F,W,k,h,hO,hL,_=>⟨F,W,rfl,h,hO.less (by omega),by omega,rfl,Nand.Like.refl _,m7 (by omega),λ_=>rfl⟩
 | f+1,F,W,k,h,hO,hL,hnx=>by
  rw[Fv.flushGo]
  by_cases hl0:F.L.length=0
  ·rw[g7 hl0];exact⟨F,W,rfl,h,hO.less (by omega),by omega,rfl,Nand.Like.refl _,m7 hl0,λ_=>rfl⟩
  ·rw[f9 hl0];rw[H3]at hO;obtain⟨G,W',w1,w2,w3,w4,w5,_,w6,w7,w8⟩:=h.writes (k:=FI.costW*f+k) (hO.less (by unfold FI.costW;omega)) (by omega) hl0;rw[w1];dsimp only;rw[f9 (by decide)];obtain⟨F',W2,r1,r2,r3,r4,r5,r6,r7,r8⟩:=flush_go f G W' k w2 w4 (by omega) (by omega);exact⟨F',W2,r1,r2,r3,by omega,r5.trans w6,w7.trans r6,r7,λi=>(r8 i).trans (w3 i)⟩
theorem flush (h:FC W lg F) (hO:F.S.Ok (FI.costW*200+k) m) (hnx:F.S.next<=1099511627775-50000000):
  ∃(F':Fv) (W':List (Int×En)),F.flush=(F',0)/\FC W' lg F'/\F'.S.Ok k m/\F'.S.next<=F.S.next+1400000/\F'.S.N.broken=F.S.N.broken/\F.S.N.Like F'.S.N/\F'.L=[]/\∀i,cur W' F'.L i=cur W F.L i:=by
 unfold Fv.flush;rw[h.fi.ask,h.fi.off,f9 l9];have hl:=h.fi.len;have h2:=h.fi.lg2;have hm:FI.costW*F.L.length<=FI.costW*200:=x7 _ (by omega);obtain⟨F',W',r1,r2,r3,r4,r5⟩:=flush_go F.L.length F W k h (hO.less (by omega)) (j6 _) (by omega);exact⟨F',W',r1,r2,r3,by omega,r5⟩
theorem new {D B P:Nat} (hD:3<=D/\D<=6) (hB:8<=B/\B<=16) (hP:2<=P/\P<=8) (hlg:lgN D B P<=200) (hcap:2*lgN D B P<=(B-5)*(P*(D-2))+1):FC [] (lgN D B P) (Fv.of (Dv.new D B P (lgN D B P))):=by
 refine⟨FI.new (-1) hD hB hP hlg,⟨Inv.new _ _ _ _ _,⟨rfl,λi e he=>(by cases he)⟩,λi e he=>(by cases he),λb _=>?_,λ_ _ _=>rfl,by simp⟩,NoF.new _ _ _ _,?_,hcap,GI.new _ _ _ _ _⟩
 ·show((Tl.new D B P).at_ b).held=false;rw[b4e];rfl
 ·show 5*P<=(Dv.new D B P (lgN D B P)).rows+1;rw[b5w];have:P*8<=P*B:=x7 _ hB.1;omega
end FC
theorem V.goS_none {N:Nand} {L:List Fnd} (h:∀i:Nat,(V.standOf (V.of L i)).2=true->(V.standOf (V.of L i)).1.whole=true) (n:Int):∀k,(V.goS N L n k).torn=[]/\(V.goS N L n k).others=[]/\(V.goS N L n k).held=[]
 | 0=>⟨rfl,rfl,rfl⟩
 | k+1=>by
  have ih:=V.goS_none (N:=N) h n k;rw[V.goS_succ];unfold V.step;split
  ·rename_i hs;rw[g7 (h k hs)];exact ih
  ·exact ih
theorem V.nextOf_le {c:Int} (hc:1<=c):∀(n:Nat) (l:List Fnd),l.length=n->(∀f∈l,f.en.seq+1<=c)->V.nextOf l<=c
 | 0,l,hl,_=>by rw[m7 hl];exact hc
 | n+1,l,hl,h=>by
  obtain⟨l',x,rfl⟩:∃l' x,l=l'++[x]:=⟨l.dropLast,l.getLast (λe=>by rw[e]at hl;cases hl),(a1c _).symm⟩;have hl':l'.length=n:=by simpa using hl
  rw[V.nextOf_snoc];have h1:=V.nextOf_le hc n l' hl' λf hf=>h f (List.mem_append_left _ hf);have h2:=h x (by simp);omega
theorem a5O {t:Tl} (hl:t.l.length=t.b):t.blanks=(List.range t.b).countP λi:Nat=>!(t.at_ (i:Nat)).used:=by
 unfold Tl.blanks Tl.at_;rw[Inv.countP_range_get _ Sb.zero,hl];simp
namespace GI
variable {fd : Int} {W : List (Int × En)} {S : Dv} {k m : Nat}
theorem next_le (h:GI fd W S) (hO:S.Ok k m):(Dv.mt0 S.N).next<=max S.next 1:=by
 have hg:=hO.gd.ok.bd16;have h1:=V.nextOf_le (c:=max S.next 1) (by omega) _ _ rfl λf hf=>by
  obtain⟨b,r,hb,hr,hfr⟩:=V.mem_all.1 hf;rcases(h.dsc b r hb hr).fnd h.inv.lit.off hg.1 hfr with⟨a,ha,hlt⟩ | ⟨⟨w,a,_,ha,hlt⟩,_⟩
  ·have:=(h.inv.st _ a ha).seq;omega
  ·have:=(h.inv.st _ a ha).seq;omega
 show max (V.nextOf (V.all S.N)) 1<=_;omega
theorem rows_mt {V:Dv} (h:GI fd W S) (hO:S.Ok k m) (hlog:S.T.logical=(lgN S.N.dies S.N.blocks S.N.pages:Int)) (hV:V.Ok k m) (hI:Inv fd V) (hT:V.T=(Dv.mt0 S.N).T) (hop:V.op= -1) (hlk:S.N.Like V.N) (hheld:∀b,V.t.has b=true->(V.t.at_ b).held=false) (hsp:A7 (D6 V.t V.T) V.op V.t.b=[]):S.rows<=V.rows+S.N.pages:=by
 obtain⟨W',_,_,hG,_,hblk⟩:=h.mt0 hO hlog;have hb1:=hO.t.b;have hb2:=hV.t.b;have hb3:=hlk.blocks;have hrow:=hO.row;have hbl:S.t.blanks<=V.t.blanks:=by
  rw[a5O hO.t.len,a5O hV.t.len,show V.t.b=S.t.b from by omega];refine List.countP_mono_left λx hx hu=>?_;have hx:=List.mem_range.1 hx;have hhas:S.t.has (x:Int)=true:=Tl.has_iff.2 (by omega);have hhasV:V.t.has (x:Int)=true:=Tl.has_iff.2 (by omega);cases huV:(V.t.at_ (x:Nat)).used with
  | false=>rfl
  | true=>
   exfalso
   have hc:¬V.T.count (x:Int)=0:=λhc=>by
    have:(x:Int)∈A7 (D6 V.t V.T) V.op V.t.b:=mem_pkSome.2 ⟨by omega,by omega,by omega,by
     unfold D6;rw[hI.usable hV hhasV,hc];unfold Tl.blank Tl.held;rw[hhasV,huV,hheld _ hhasV];rfl⟩
    rw[hsp]at this;cases this
   have hcn:=hV.T.cnt (x:Int);obtain⟨y,hy,hyb⟩:=List.countP_pos_iff.1 (show 0<V.T.at_.countP λz=>z.2.block==(x:Int)by unfold Tb.cntB at hcn;omega);have hl:=a5x hV.T hy;rw[hT]at hl;obtain⟨a,ha,hab⟩:=hblk _ _ hl;have hus:=(h.inv.st _ a ha).used;rw[<- hab,show y.2.block=(x:Int)from by simpa using hyb]at hus;rw[hus]at hu;cases hu
 unfold Dv.rows;rw[hop,f9 (show¬(-1:Int)>=0 by decide),hlk.pages];have:=x7 S.N.pages hbl;split<;>omega
theorem mounted (h:GI fd W S) (hR:Rmy fd W S) (hO:S.Ok (Dv.costK+k) m) (hlog:S.T.logical=(lgN S.N.dies S.N.blocks S.N.pages:Int)) (hwh:∀i a,Tb.look S.T.at_ i=some a->(M.look S.N (G.parity a.mask a.block a.row) a.block a.row).2=1) (hot:Hot2 fd (Dv.mt0 S.N) 0) (hr:4*S.N.pages<=S.rows) (hnx:S.next<=1099511627775-30000000):
  ∃V W',O0 S.N=(V,0)/\(∀i,Tb.look W' i=Tb.look W i)/\GI fd W' V/\Rmy fd W' V/\Hot2 fd V 0/\V.Ok k m/\(V.free:Int)>4/\V.next<=S.next+6401/\V.N.dead=S.N.dead/\V.N.broken=S.N.broken/\S.N.Like V.N/\V.T.logical=S.T.logical:=by
 have hg:=hO.gd.ok.bd16;have hO1:S.Ok (96+(Dv.costM+k)) m:=hO.less (by unfold Dv.costK;omega);have hn1:=hO.next;have hnle:=h.next_le hO;obtain⟨W',w1,w2,w3,w4,w5⟩:=h.mt0 hO1 hlog;have hlog0:=Dv.mt0_log hO.gd;have hR0:Rmy fd W' (Dv.mt0 S.N):=⟨w3.inv,w3.hd,w3.wok,w4,w3.ff,by have:=hR.cap;show 2*W'.length<=(S.N.blocks-5)*(S.N.pages*(S.N.dies-2))+1;omega⟩;have hO0:(Dv.mt0 S.N).Ok (96+(Dv.costM+k)) m:=Dv.Ok.mt0 hO1.gd;have hall:∀i:Nat,(V.standOf (V.of (V.all S.N) i)).2=true->(V.standOf (V.of (V.all S.N) i)).1.whole=true:=λi hs=>by
  cases ha:Tb.look S.T.at_ (i:Int)with
  | none=>rw[h.stand_none hO ha]at hs;cases hs
  | some a=>
   obtain⟨w,f,_,g2,_,_,_,_,_,_,g9⟩:=h.stand hO ha;rw[g2];show f.whole=true;rw[g9,hwh _ a ha];rfl
 obtain⟨s1,s2,s3⟩:=V.goS_none (N:=S.N) hall (lgN S.N.dies S.N.blocks S.N.pages) (V.size (lgN S.N.dies S.N.blocks S.N.pages));have hs1:(V.scan S.N (lgN S.N.dies S.N.blocks S.N.pages)).torn=[]:=by
  show(V.goS S.N (V.all S.N) (lgN S.N.dies S.N.blocks S.N.pages) (V.size (lgN S.N.dies S.N.blocks S.N.pages))).torn++(V.goS S.N (V.all S.N) (lgN S.N.dies S.N.blocks S.N.pages) (V.size (lgN S.N.dies S.N.blocks S.N.pages))).others=[];rw[s1,s2];rfl
 have hs2:(V.scan S.N (lgN S.N.dies S.N.blocks S.N.pages)).held=[]:=by
  show a8q (V.goS S.N (V.all S.N) (lgN S.N.dies S.N.blocks S.N.pages) (V.size (lgN S.N.dies S.N.blocks S.N.pages))).held=[];rw[s3];exact a6j
 obtain⟨U,u1,u2,u3,u4,_,u6,u7,_,u9,u10,u11,u12,u13,u14,u15⟩:=hR0.clear (β:=0) hO0;have hU0:=w3.clear hO0;obtain⟨U',x1,x2,_⟩:=hU0;rw[u1]at x1;injection x1 with x1 _;subst x1;have hUlog:U.T.logical=(lgN S.N.dies S.N.blocks S.N.pages:Int):=by rw[u6];exact hlog0
 have hrows:=h.rows_mt (V:=U) (hO1.less (show Dv.costM+k<=_ by omega)) hlog u3 u2.inv u6 u7 u13 u2.held u4;have hUt:=u3.t.b;have hU4:=u15 hot;have hp:=u13.pages;have hb:=u13.blocks;have hb0:(Dv.mt0 S.N).N.blocks=S.N.blocks:=rfl;have hp0:(Dv.mt0 S.N).N.pages=S.N.pages:=rfl;obtain⟨V,β',v1,v2,v3,v4,v5,v6,v7,v8,v9,v10,v11,v12,v13⟩:=u2.room (k:=k) (u3.less (by
  have:Dv.costR*U.t.b<=Dv.costR*16:=x7 _ (by omega);unfold Dv.costM;omega)) hU4 (by omega) (by omega) (by omega)
 obtain rfl:β'=0:=by omega
 obtain⟨y1,y2⟩:=x2.room (k:=k) u3 hU4 (by rw[hUlog];have:=a3y hO.gd.ok;omega) (by omega);rw[v1]at y1 y2;have y1:GI fd W' V:=y1;have y2:Hot2 fd V 0:=y2;refine⟨V,W',?_,w1,y1,v2,v6,v3,v4,by omega,v9.trans u11,v10.trans u12,u13.trans v11,?_⟩
 ·rw[a8v];dsimp only;rw[hs1,hs2,List.take_nil,List.drop_nil];have h1:(Dv.mt0 S.N).holds [] true=Dv.mt0 S.N:=rfl;have h2:(Dv.mt0 S.N).holds [] false=Dv.mt0 S.N:=rfl;have h3:∀Z:Dv,Z.torn []=(Z,0):=λ_=>rfl;rw[h1,h3];dsimp only;rw[f9 (by simp),h2,u1];dsimp only;rw[f9 (by simp),h3];dsimp only;rw[f9 (by simp),v1]
 ·rw[v12,hUlog,hlog]
end GI
theorem Full.par_good {N:Nand} {b r m:Int} {l:List En} (h:Full (-1) N b r m l) (hoff:N.off=false) (hdead:∀i:Nat,N.dead.getD i false=false):(M.look N (G.parity m b r) b r).2=1:=by
 have hx:=m6 (a1w b r m l);obtain⟨n1,n2,_⟩:=h.is.inn _ hx;obtain⟨t,ht⟩:=h.good _ hx (by omega);have hrf:N.refuses (G.parity m b r) b r=0:=by
  unfold Nand.refuses;rw[hoff,f9 (by decide),Nand.geoIn_of ⟨n1,n2⟩ h.is.blk h.is.row,f9 (by decide),hdead];rfl
 rw[a5y (h.is.sh _ hx).1 hrf ht]
def Nand.cyc (N:Nand):Nand:=(N.setCut (-1) 0).onN
theorem Nand.cyc_same (N:Nand) (h:N.Lit):N.Like N.cyc/\N.cyc.blk=N.blk/\N.cyc.dead=N.dead/\N.cyc.plan=N.plan/\N.cyc.broken=N.broken/\N.cyc.Lit:=by
 have e:N.cyc={N with cuts:=false,left:= -1,keep:=0,off:=false}:=by
  unfold Nand.cyc Nand.setCut Nand.onN;rw[h.off];rfl
 rw[e];exact⟨⟨rfl,rfl,rfl⟩,rfl,rfl,rfl,rfl,⟨rfl,rfl⟩⟩
theorem b5x {N N':Nand} (hl:N.Like N') (ho:N'.off=N.off) (hd:N'.dead=N.dead) (hb:N'.blk=N.blk) (b r s m:Int):R.read N' b r s m=R.read N b r s m:=by
 have hlook:∀d:Int,M.look N' d b r=M.look N d b r:=λd=>by
  have hr:N'.refuses d b r=N.refuses d b r:=by
   unfold Nand.refuses;rw[ho,hl.dies,hl.blocks,hl.pages,hd]
  have hp:N'.pageAt d b r=N.pageAt d b r:=by unfold Nand.pageAt;rw[hb]
  have h1:N'.readE d b r=N.readE d b r:=by unfold Nand.readE;rw[hr,hp]
  have h2:N'.readV d b r=N.readV d b r:=by unfold Nand.readV;rw[hr,hp]
  unfold M.look;simp only[h1,h2]
 have h2:R.look N' b r m=R.look N b r m:=by
  unfold R.look R.ones R.one;simp only[hlook]
 unfold R.read;rw[h2,hl.dies,hl.blocks,hl.pages,ho]
namespace FC
variable {W : List (Int × En)} {lg k m : Nat} {F : Fv}
theorem Inv.cyc {fd:Int} {S:Dv} (h:Inv fd S):Inv fd {S with N:=S.N.cyc}:=by
 obtain⟨c1,c2,c3,c4,c5,c6⟩:=S.N.cyc_same h.lit;refine⟨c6,λi hi=>by show S.N.cyc.dead.getD i false=false;rw[c3];exact h.dead i hi,λa ha=>h.plan a (by rw[<- c4];exact ha),λi j hi=>by show(S.N.cyc.blk i j).met=false/\(S.N.cyc.blk i j).fails=false;rw[c2];exact h.flags i j hi,h.tdead,h.tbad,?_,λb hb hu d hd=>by show(S.N.cyc.blk d b.toNat).cells=[];rw[c2];exact h.blank b hb hu d hd,λi a ha=>?_⟩
 ·rcases h.op with e | e
  ·exact .inl e
  ·refine .inr ⟨by have:=e.blk;show 0<=S.op/\S.op<(S.N.cyc.blocks:Int);rw[c1.blocks];exact this,e.used,by have:=e.row;show 0<=S.row/\S.row<=(S.N.cyc.pages:Int);rw[c1.pages];exact this,by have:=e.mask;show Msk S.N.cyc.dies fd S.mask;rw[c1.dies];exact this,λd hd=>by
    show((S.N.cyc.blk d S.op.toNat).cells.length:Int)<=S.row/\(S.N.cyc.dead.getD d false=false->((S.N.cyc.blk d S.op.toNat).cells.length:Int)=S.row);rw[c2,c3];exact e.cells d hd⟩
 ·have hs:=h.st i a ha;obtain⟨l,g1,g2⟩:=hs.row;exact⟨⟨l,g1.keep c1 λx _=>(by unfold Nand.pageAt;rw[c2]),g2⟩,hs.used,hs.below,hs.seq⟩
theorem Hd.cyc {S:Dv} (h:Hd S W) (hl:S.N.Lit):Hd {S with N:=S.N.cyc} W:=by
 obtain⟨c1,c2,c3,c4,c5,c6⟩:=S.N.cyc_same hl;refine⟨h.keys,λi e he=>?_⟩;obtain⟨h1,a,h2,h3⟩:=h.each i e he;refine⟨h1,a,h2,?_⟩;show R.read S.N.cyc _ _ _ _=_;rw[b5x c1 (c6.off.trans hl.off.symm) c3 c2];exact h3
theorem GI.cyc {fd:Int} {S:Dv} (h:GI fd W S):GI fd W {S with N:=S.N.cyc}:=by
 obtain⟨c1,c2,c3,c4,c5,c6⟩:=S.N.cyc_same h.inv.lit;exact h.same c1 c2 c3 c4 c6 (Inv.cyc h.inv) (Hd.cyc h.hd h.inv.lit)
theorem again (h:FC W lg F) (hO:({F.S with N:=F.S.N.cyc}:Dv).Ok (Dv.costK+k) m) (hnx:F.S.next<=1099511627775-30000000):
  ∃V W',O0 F.S.N.cyc=(V,0)/\FC W' lg (Fv.of V)/\(∀i,cur W' [] i=cur W [] i)/\V.Ok k m/\V.next<=F.S.next+6401/\V.N.broken=F.S.N.broken/\F.S.N.Like V.N:=by
 have hg:=hO.gd.ok.bd16;obtain⟨c1,c2,c3,c4,c5,c6⟩:=F.S.N.cyc_same h.fi.inv.lit;have hG:=GI.cyc h.gi;have hR:Rmy (-1) W {F.S with N:=F.S.N.cyc}:=⟨hG.inv,hG.hd,h.rmy.wok,h.rmy.held,hG.ff,by have:=h.rmy.cap;show 2*W.length<=(F.S.N.cyc.blocks-5)*(F.S.N.cyc.pages*(F.S.N.cyc.dies-2))+1;rw[c1.blocks,c1.pages,c1.dies];exact this⟩;have hno:NoF {F.S with N:=F.S.N.cyc}:=⟨λi=>by show F.S.N.cyc.dead.getD i false=false;rw[c3];exact h.no.dead i,by show F.S.N.cyc.plan=[];rw[c4];exact h.no.plan,λi j=>by show(F.S.N.cyc.blk i j).met=false;rw[c2];exact h.no.met i j⟩;have hlg:=h.fi.lgn;have hlog:({F.S with N:=F.S.N.cyc}:Dv).T.logical=(lgN F.S.N.cyc.dies F.S.N.cyc.blocks F.S.N.cyc.pages:Int):=by
  show F.S.T.logical=_;rw[c1.dies,c1.blocks,c1.pages,h.fi.log,<- hlg];rfl
 have hrw:({F.S with N:=F.S.N.cyc}:Dv).rows=F.S.rows:=by
  unfold Dv.rows;show F.S.N.cyc.pages*F.S.t.blanks+(if F.S.op>=0 then((F.S.N.cyc.pages:Int)-F.S.row).toNat else 0)=_;rw[c1.pages]
 have hrows:=h.rows;obtain⟨V,W',v1,v2,v3,v4,v5,v6,v7,v8,v9,v10,v11,v12⟩:=hG.mounted hR hO hlog (λi a ha=>by
  obtain⟨l,g1,_⟩:=(hG.inv.st i a ha).row;exact g1.par_good c6.off hno.dead) (.calm ⟨hno.dead,hno.plan,hno.met⟩) (by show 4*F.S.N.cyc.pages<=_;rw[hrw,c1.pages];have:2<=F.S.N.cyc.pages:=hg.2.2.1;rw[c1.pages]at this;omega) hnx
 have hlk:F.S.N.Like V.N:=c1.trans v11;have hmany:=v4.many v6 v7;have hcur:∀i,cur W' [] i=cur W [] i:=λi=>by unfold cur;rw[v2]
 refine⟨V,W',v1,⟨⟨v4.inv,v4.hd,v4.wok,λi e he=>h.fi.wr i e (by rw[<- v2];exact he),v12.trans h.fi.log,?_,h.fi.lg2,λe he=>(by cases he),a3l,rfl⟩,v4,v5.nof,by show 5*V.N.pages<=V.rows+1;omega,?_,v3⟩,hcur,v6,v8,v10.trans c5,hlk⟩
 ·unfold Fv.lg at hlg ⊢;show((lgN V.N.dies V.N.blocks V.N.pages:Nat):Int)=_;rw[hlk.dies,hlk.blocks,hlk.pages];exact hlg
 ·show 2*lg<=(V.N.blocks-5)*(V.N.pages*(V.N.dies-2))+1;rw[hlk.blocks,hlk.pages,hlk.dies];exact h.cap
end FC
def UN:Nat:=Fv.cW+1
theorem b3h:UN=Dv.costM+8*Dv.fuel+1:=rfl
theorem b9q:96<=UN:=by
 have:96<=8*Dv.fuel:=by decide
 rw[b3h];omega
theorem a3g:Fv.cW*200<=UN*200:=M6 _ (a7q _)
theorem b6C:FI.costW*200<=UN*200:=M6 _ (a7q _)
theorem a9h:Dv.costK<=UN*402:=by
 have h:Dv.costT*200<=UN*200:=M6 _ (a7q _);have:=b9q;have h2:Dv.costM<=UN:=by rw[b3h];omega
 unfold Dv.costK;omega
theorem b4j:UN*200000<=1000000000000000:=by decide+kernel
theorem c3i {n:Nat} (h:n<=200000):UN*n<=1000000000000000:=D4 (x7 _ h) b4j
theorem Inv.slots_le {fd:Int} {S:Dv} {k m:Nat} (h:Inv fd S) (hO:S.Ok k m) (hr:0<S.rows):S.slots<=(S.N.dies:Int)-1:=by
 have hg:=hO.gd.ok.bd16;unfold Dv.slots;rcases h.rows_pos hO hr with hl | hp
 ·rw[g7 hl];have:=(h.opn hl).mask.pos hg.1;omega
 ·split
  ·rename_i hl;have:=(h.opn hl).mask.pos hg.1;omega
  ·rcases S.pick_spec with e | ⟨p1,p2,_,_⟩
   ·omega
   ·have:=(h.msk hO (Tl.has_iff.2 ⟨p1,p2⟩)).pos hg.1;omega
theorem b0A (l:List En) (e:En):1<=(a0O l e).length/\(a0O l e).length<=l.length+1:=by
 unfold a0O;rw[i4,L7];have:=H7 (λx:En=>!(x.lpn==e.lpn)) l;omega
theorem Fv.waits_len {F:Fv} {k m D:Nat} (hO:F.Ok (Fv.cW+k) m) {e:En} (h0:(F.waits e).2=0) (h1:1<=F.S.slots) (hs:F.S.slots<=(D:Int)-1) (hl:F.L.length+1<=D):1<=(F.waits e).1.L.length/\(F.waits e).1.L.length+1<=D:=by
 have hk:=Fv.writes_keep (F:=F.ask) hO.ask;have hl:F.ask.L.length+1<=D:=hl;have h1:1<=F.ask.S.slots:=h1;have hs:F.ask.S.slots<=(D:Int)-1:=hs;unfold Fv.waits at h0 ⊢
 by_cases ho:F.ask.off=true
 ·rw[g7 ho]at h0;cases h0
 rw[f9 ho]at h0 ⊢
 by_cases hr:e.lpn<0\/e.lpn>=F.ask.lg
 ·rw[g7 hr]at h0;cases h0
 rw[f9 hr]at h0 ⊢
 by_cases hw:(F.ask.L.length:Int)>=F.ask.S.slots
 ·rw[g7 hw]at h0 ⊢;dsimp only at h0 ⊢
  by_cases he:F.ask.writes.2≠0
  ·rw[g7 he]at h0;exact absurd h0 he
  ·rw[f9 he];have h3:=hk.2.2.2 (Decidable.of_not_not he) (by omega);have:=b0A F.ask.writes.1.L {e with seq:=F.ask.writes.1.nx};show 1<=(a0O _ _).length/\(a0O _ _).length+1<=D;omega
 ·rw[f9 hw];have:=b0A F.ask.L {e with seq:=F.ask.nx};show 1<=(a0O F.ask.L _).length/\(a0O F.ask.L _).length+1<=D;omega
structure Dev (D B P:Nat) (F:Fv) (n:Nat) (c:Nat->List UInt8):Prop where
 fc:∃W,FC W (lgN D B P) F/\∀i:Nat,i<lgN D B P->cur W F.L i=c i
 ok:F.Ok (UN*n) 0
 nx:F.S.next+8000*(n:Int)<=1099000000000
 br:F.S.N.broken=0
 geo:F.S.N.dies=D/\F.S.N.blocks=B/\F.S.N.pages=P
 wt:F.L.length+1<=D
 le:n<=200000
namespace Dev
variable {D B P n : Nat} {F : Fv} {c : Nat → List UInt8}
theorem lg (h:Dev D B P F n c):F.lg=(lgN D B P:Int):=by
 obtain⟨W,hW,_⟩:=h.fc;exact hW.fi.lgn
theorem less (h:Dev D B P F n c) {k:Nat} (hk:k<=n):Dev D B P F k c:=
 ⟨h.fc,h.ok.less (x7 _ hk),by have:=h.nx;omega,h.br,h.geo,h.wt,by have:=h.le;omega⟩
theorem congr (h:Dev D B P F n c) {c':Nat->List UInt8} (hc:∀i,i<lgN D B P->c i=c' i):Dev D B P F n c':=by
 obtain⟨W,hW,h2⟩:=h.fc;exact⟨⟨W,hW,λi hi=>(h2 i hi).trans (hc i hi)⟩,h.ok,h.nx,h.br,h.geo,h.wt,h.le⟩
theorem read (h:Dev D B P F n c) {i:Nat} (h1:i<lgN D B P):F.read i=(F,c i,0):=by
 obtain⟨W,hW,hc⟩:=h.fc;rw[hW.fi.read,f9 (by omega),hc i h1]
theorem like (h:Dev D B P F n c) {G:Fv} (hl:F.S.N.Like G.S.N):G.S.N.dies=D/\G.S.N.blocks=B/\G.S.N.pages=P:=
 ⟨hl.dies.trans h.geo.1,hl.blocks.trans h.geo.2.1,hl.pages.trans h.geo.2.2⟩
theorem off (h:Dev D B P F n c):F.S.N.off=false:=by
 obtain⟨W,hW,_⟩:=h.fc;exact hW.fi.inv.lit.off
theorem slots (h:Dev D B P F n c):1<=F.S.slots/\F.S.slots<=(D:Int)-1:=by
 obtain⟨W,hW,_⟩:=h.fc;have hg:=h.ok.dv.gd.ok.bd16;have:=hW.fi.inv.slots_le h.ok.dv (by have:=hW.rows;omega);rw[h.geo.1]at this;exact⟨hW.slots h.ok.dv,this⟩
theorem put (h:Dev D B P F (n+1) c) {e:En} {u:Nat} (hu:e.lpn=(u:Int)) (he:FitR e/\e.role≠4/\e.lpn<(lgN D B P:Int)) (hk:(F.waits e).1.Ok (UN*n) 0):
  (F.waits e).2=0/\Dev D B P (F.waits e).1 n (λj=>if j=u then e.data else c j)/\1<=(F.waits e).1.L.length:=by
 obtain⟨W,hW,hc⟩:=h.fc;have hU:UN*(n+1)=UN*n+UN:=H3 _ _;have hU2:=b3h;have hnx:=h.nx;obtain⟨F',W',r1,r2,r3,_,r5,r6,r7⟩:=hW.waits (k:=UN*n) (h.ok.dv.less (by omega)) (by omega) he;have hs:=h.slots;have hlen:=Fv.waits_len (k:=UN*n) (D:=D) (e:=e) (h.ok.less (by unfold Fv.cW;omega)) (by rw[r1]) hs.1 hs.2 h.wt;rw[r1]at hk hlen ⊢;exact⟨rfl,⟨⟨W',r2,λi hi=>by
  rw[r3,hu,hc i hi]
  by_cases e:i=u
  ·rw[g7 e,g7 (by omega)]
  ·rw[f9 e,f9 (by omega)]⟩,hk,by dsimp only;omega,r6.trans h.br,h.like r7,hlen.2,by have:=h.le;omega⟩,hlen.1⟩
theorem write (h:Dev D B P F (n+1) c) {i:Nat} (h1:i<lgN D B P) {d:List UInt8} (hd:d.length=16):
  (F.write i d).2=0/\Dev D B P (F.write i d).1 n (λj=>if j=i then d else c j)/\1<=(F.write i d).1.L.length:=by
 have h200:=(Fv.lg_bd (F:=F) h.ok.dv.gd.ok).2;rw[h.lg]at h200;have hU:UN*(n+1)=UN*n+UN:=H3 _ _;exact h.put (e:=⟨(i:Int),0,1,d⟩) (u:=i) rfl ⟨⟨⟨a0U i,by show(i:Int)<=65535;omega⟩, .inl rfl,hd⟩,by show(1:Int)≠4;decide,by show(i:Int)<_;omega⟩ (Fv.write_keep (k:=UN*n) (h.ok.less (by unfold UN at hU ⊢;omega)) i hd).1
theorem trim (h:Dev D B P F (n+1) c) {i:Nat} (h1:i<lgN D B P):
  (F.trim i).2=0/\Dev D B P (F.trim i).1 n (λj=>if j=i then zeros16 else c j)/\1<=(F.trim i).1.L.length:=by
 have h200:=(Fv.lg_bd (F:=F) h.ok.dv.gd.ok).2;rw[h.lg]at h200;have hU:UN*(n+1)=UN*n+UN:=H3 _ _;exact h.put (e:=⟨(i:Int),0,2,zeros16⟩) (u:=i) rfl ⟨⟨⟨a0U i,by show(i:Int)<=65535;omega⟩, .inr ⟨.inl rfl,rfl⟩,rfl⟩,by show(2:Int)≠4;decide,by show(i:Int)<_;omega⟩ (Fv.trim_keep (k:=UN*n) (h.ok.less (by unfold UN at hU ⊢;omega)) i).1
theorem flush (h:Dev D B P F (n+200) c):F.flush.2=0/\Dev D B P F.flush.1 n c/\F.flush.1.L=[]:=by
 obtain⟨W,hW,hc⟩:=h.fc;have hU:UN*(n+200)=UN*n+UN*200:=a0S _ _ _;have hf:=a3g;have hf2:=b6C;have hnx:=h.nx;have hk:=(Fv.flush_keep (k:=UN*n) (m:=0) (h.ok.less (by omega))).1;obtain⟨F',W',r1,r2,_,r4,r5,r6,r7,r8⟩:=hW.flush (k:=UN*n) (h.ok.dv.less (by omega)) (by omega);have hg:=h.ok.dv.gd.ok.bd16;rw[h.geo.1]at hg;rw[r1]at hk ⊢;exact⟨rfl,⟨⟨W',r2,λi hi=>by rw[r8,hc i hi]⟩,hk,by dsimp only;omega,r5.trans h.br,h.like r6,by dsimp only;rw[r7];simp only[a2v];omega,by have:=h.le;omega⟩,r7⟩
theorem gdC (h:Dev D B P F n c) {k:Nat} (hk:k<=UN*n):F.S.N.cyc.Gd k 0:=
 ((h.ok.dv.less hk).gd.cut (-1) 0 (by decide) (by decide)).on
theorem again (h:Dev D B P F (n+403) c):(O0 F.S.N.cyc).2=0/\∃c',Dev D B P (Fv.of (O0 F.S.N.cyc).1) n c'/\(F.L=[]->c'=c):=by
 obtain⟨W,hW,hc⟩:=h.fc;have hU:UN*(n+403)=UN*n+UN*403:=a0S _ _ _;have hm:=a9h;have hnx:=h.nx;have hle:=h.le;have hg:=h.ok.dv.gd.ok.bd16;rw[h.geo.1]at hg;have hlk:=(F.S.N.cyc_same hW.fi.inv.lit).1;have hG:F.S.N.cyc.Gd (Dv.costK+UN*n) 0:=h.gdC (by omega);obtain⟨V,W',r1,r2,r3,r4,r5,r6,r7⟩:=hW.again (k:=UN*n) (m:=0) ⟨hG,h.ok.dv.t.like hlk,h.ok.dv.T,h.ok.dv.sl,h.ok.dv.row,h.ok.dv.next⟩ (by omega);rw[r1];refine⟨rfl,λi=>if F.L=[]then c i else cur W [] i,⟨⟨W',r2,λi hi=>by
  rw[show(Fv.of V).L=[]from rfl,r3]
  by_cases hL:F.L=[]
  ·rw[g7 hL,<- hc i hi,hL]
  ·rw[f9 hL]⟩,Fv.of_ok r4 (c3i (by omega)),by show V.next+_<=_;omega,r6.trans h.br,h.like (G:=Fv.of V) r7,by show 0+1<=D;omega,by omega⟩,λhL=>funext λi=>g7 hL⟩
theorem new (hD:3<=D/\D<=6) (hB:8<=B/\B<=16) (hP:2<=P/\P<=8) (hlg:lgN D B P<=200) (hcap:2*lgN D B P<=(B-5)*(P*(D-2))+1) (hgm:J9 D B P=true):Dev D B P (Fv.of (Dv.new D B P (lgN D B P))) 200000 (λ_=>zeros16):=
 ⟨⟨[],FC.new hD hB hP hlg hcap,λ_ _=>rfl⟩,Fv.of_ok (Dv.Ok.new D B P _ hgm _ b4j) b4j,by show(1:Int)+8000*((200000:Nat):Int)<=_;omega,rfl,⟨rfl,rfl,rfl⟩,by show 0+1<=D;omega,j6 _⟩
end Dev
theorem b5K:∀D,D<7->3<=D->(IntKind.i64.wrap ((BitVec.ofInt IntKind.i64.bits 0&&& BitVec.ofInt IntKind.i64.bits (Tl.andN (L.all (D:Nat)) (L.all (D:Nat)))).toNat:Int) !=0)=false:=by decide+kernel
theorem GI.hurt_none {W:List (Int×En)} {S:Dv} {k m:Nat} (h:GI (-1) W S) (hO:S.Ok k m):S.hurts=[]:=by
 have hg:=hO.gd.ok.bd16;have htd:=hO.t.d;have htb:=hO.t.b;refine a3r _ λx hx=>?_;have hhas:S.t.has (x:Int)=true:=Tl.has_iff.2 (by omega);have hm:=(b4F (h.inv.msk hO hhas) hg.1).1;have:a1g S.t S.T x=false:=by
  unfold a1g;rw[a0n];intro i _;have hl:a8i S.t S.T x i=false:=by
   unfold a8i;rw[hm,htd];cases ha:Tb.look S.T.at_ i with
   | none=>exact b5K _ (by omega) hg.1.1
   | some a=>
    have:=(b4F (h.msk i a ha) hg.1).1;show(IntKind.i64.wrap ((BitVec.ofInt IntKind.i64.bits a.mask&&& _).toNat:Int) !=0)=false;rw[this];exact(b8a _ (by omega) hg.1.1).1
  rw[hl];exact l9
 rw[this,Bool.and_false]
namespace FC
variable {W : List (Int × En)} {lg k m : Nat} {F : Fv}
theorem room (h:FC W lg F) (hO:F.S.Ok (Dv.costM+k) m) (hnx:F.S.next<=1099511627775-30000000):
  ∃V,F.S.room=(V,0)/\FC W lg {F with S:=V}/\V.Ok k m/\V.next<=F.S.next+6400/\V.N.broken=F.S.N.broken/\F.S.N.Like V.N:=by
 have hg:=hO.gd.ok.bd16;have htb:=hO.t.b;obtain⟨V,β',v1,v2,v3,v4,v5,v6,v7,v8,v9,v10,v11,v12,v13⟩:=h.rmy.room (k:=k) (hO.less (by
  have:Dv.costR*F.S.t.b<=Dv.costR*16:=x7 _ (by omega);unfold Dv.costM;omega)) (.calm h.no) (by have:=h.rows;omega) (by omega) (by omega)
 obtain rfl:β'=0:=by omega
 have hmany:=v2.many v3 v4;obtain⟨hg1,hg2⟩:=h.gi.room (k:=k) hO (.calm h.no) (by have:=h.fi.log;have:=h.fi.lg2;omega) (by omega);rw[v1]at hg1;refine⟨V,v1,⟨⟨v2.inv,v2.hd,h.fi.wok,h.fi.wr,v12.trans h.fi.log,?_,h.fi.lg2,h.fi.des,h.fi.nd,h.fi.off⟩,v2,v6.nof,by show 5*V.N.pages<=V.rows+1;omega,?_,hg1⟩,v3,v8,v10,v11⟩
 ·have:=h.fi.lgn;unfold Fv.lg at this ⊢;show((lgN V.N.dies V.N.blocks V.N.pages:Nat):Int)=_;rw[v11.dies,v11.blocks,v11.pages];exact this
 ·show 2*lg<=(V.N.blocks-5)*(V.N.pages*(V.N.dies-2))+1;rw[v11.blocks,v11.pages,v11.dies];exact h.cap
theorem seen (h:FC W lg F):F.S.seen=F.S:=by
 unfold Dv.seen;rw[a7X h.no.dead]
end FC
theorem Fv.all_of {F:Fv} {lg:Nat} {c:Nat->List UInt8} (hlg:F.lg=(lg:Int)) (hr:∀i:Nat,i<lg->F.read i=(F,c i,0)):F.all=(F,(List.range lg).map c,0):=by
 have:∀k i:Nat,i+k<=lg->Fv.allG k i F=(F,(List.range k).map (λj:Nat=>c (i+j)),0):=by
  intro k
  induction k with
  | zero=>intro i _;rfl
  | succ k ih=>
   intro i hi;rw[Fv.allG_succ,hr i (by omega)];dsimp only;rw[f9 (by decide),show(i:Int)+1=((i+1:Nat):Int)from by omega,ih (i+1) (by omega),List.range_succ_eq_map,p9,a1L];dsimp only;refine congrArg (λx=>(F,x,(0:Int))) ?_;rw[P6];refine congrArg _ (a1W λj _=>?_);show c (i+1+j)=c (i+(j+1));rw[show i+1+j=i+(j+1)from by omega]
 unfold Fv.all;rw[hlg,j4];have h0:=this lg 0 (by omega);rw[show((0:Nat):Int)=0 from rfl]at h0;rw[h0,f9 (by simp)];refine congrArg (λx=>(F,x,(0:Int))) (a1W λj _=>?_);rw[I4]
namespace Dev
variable {D B P n : Nat} {F : Fv} {c : Nat → List UInt8}
theorem tick (h:Dev D B P F (n+2) c):F.tick.2=0/\Dev D B P F.tick.1 n c/\F.tick.1.L=F.L:=by
 obtain⟨W,hW,hc⟩:=h.fc;have hU:UN*(n+2)=UN*n+UN*2:=a0S _ _ _;have hUe:=b3h;have hS:Dv.costS<=UN*2:=by
  have:Dv.costC<=Dv.costM:=by unfold Dv.costM Dv.costR;omega
  unfold Dv.costS;omega
 have hnx:=h.nx;have hk:=(Fv.tick_keep (k:=UN*n) (m:=0) (h.ok.less (by omega))).1;obtain⟨V,r1,r2,r3,r4,r5,r6⟩:=hW.room (k:=UN*n) (h.ok.dv.less (by unfold Dv.costS at hS;omega)) (by omega);have hh:V.hurts=[]:=r2.gi.hurt_none r3;have he:F.tick=({F with S:=V},0):=by
  unfold Fv.tick Dv.step;rw[hW.fi.ask,hW.fi.off,f9 l9,hW.seen,r1];dsimp only;rw[f9 (by decide),hh];show(({F with S:=V}:Fv).told 0,(0:Int))=_;unfold Fv.told;rw[hW.fi.off];simp[hW.fi.off]
 rw[he]at hk ⊢;exact⟨rfl,⟨⟨W,r2,hc⟩,hk,by show V.next+_<=_;omega,r5.trans h.br,h.like (G:={F with S:=V}) r6,h.wt,by have:=h.le;omega⟩,rfl⟩
theorem whole (h:Dev D B P F n c):F.whole=(F,true):=by
 obtain⟨W,hW,hc⟩:=h.fc;unfold Fv.whole;rw[hW.fi.ask,hW.fi.off,f9 l9,hW.seen];unfold Dv.leftN;rw[hW.gi.hurt_none h.ok.dv];rfl
theorem all (h:Dev D B P F n c):F.all=(F,(List.range (lgN D B P)).map c,0):=Fv.all_of h.lg λ_ hi=>h.read hi
end Dev
theorem b1j {d b p:Nat} (hd:3<=d/\d<=6) (hb:8<=b/\b<=16) (hp:2<=p/\p<=8):1<=lgN d b p/\lgN d b p<=200/\2*lgN d b p<=(b-5)*(p*(d-2))+1:=by
 have h1:(b-5)*p*(d-2)=(b-5)*(p*(d-2)):=Nat.mul_assoc _ _ _;have h2:3*2<=(b-5)*p:=V9 (by omega) hp.1;have h3:6*1<=(b-5)*p*(d-2):=V9 h2 (by omega);have h4:(b-5)*p<=11*8:=V9 (by omega) hp.2;have h5:(b-5)*p*(d-2)<=88*4:=V9 h4 (by omega);unfold lgN;omega
theorem b5N:FP 118 [] [] (Ps (.bool true) []):=by
 refine FE [] Tryz.func118 λX F hX=>?_;refine J.qp (b0i) [] λ_=>?_;exact J.qx []
theorem a4a:FP 66 [] [] (Ps (.bool true) []):=by
 refine FE [] Tryz.func66 λX F hX=>?_;refine J.qp (b5N) [] λ_=>?_;exact J.qx []
def a3o (x k:Int):Int:=if x.tmod k<0 then-(x.tmod k)else x.tmod k
theorem a1S (x:Int) {k:Int} (hk:1<=k):0<=a3o x k/\a3o x k<k:=by
 obtain⟨h2,h1⟩:=a6G x k (by omega);unfold a3o;split<;>omega
theorem a2P (x k:Int) (hk:1<=k/\k<=1000000):FP 68 [iI x,iI k] [] (Ps (iI (a3o x k)) []):=by
 obtain⟨h2,h1⟩:=a6G x k (by omega);refine FE [0,0] Tryz.func68 λX F hX=>?_;refine J.qd (λ_ h=>?_) λ_ h=>?_
 ·simp only[d7]at h;refine J.qr [] λ_=>?_;unfold a3o;rw[g7 h,Int.zero_sub];exact⟨rfl,rfl⟩
 ·simp only[d6]at h;refine J.qr [] λ_=>?_;unfold a3o;rw[f9 h];exact⟨rfl,rfl⟩
def V7 (n:Int):List UInt8:=[u8 n,u8 (n/256),1,u8 (n*7),0,0,0,0,0,0,0,0,0,0,0,0]
theorem a7N (n:Int):(V7 n).length=16:=rfl
theorem a2z (n:Int) (h0:0<=n/\n<=1000000):FP 71 [iI n] [] (Ps (a3C (V7 n)) []):=by
 refine FE [0] Tryz.func71 λX F hX=>?_;refine J.qn 7 λ_=>?_;refine J.v (bv (u8 n)) rfl rfl (λhg a w he hs=>by rw[<- a6b n];exact a0h tk rfl rfl he rfl rfl rfl) ?_;refine J.qn 2 λ_=>?_;rw[show n.fdiv (2^min (Int.toNat 8) IntKind.i64.bits)=n/256 from Int.fdiv_eq_ediv_of_nonneg n (by decide:(0:Int)<=256)];refine J.v (bv (u8 (n/256))) rfl rfl (λhg a w he hs=>by rw[<- a6b (n/256)];exact a0h tk rfl rfl he rfl rfl rfl) ?_;refine J.qn 2 λ_=>?_;refine J.v (bv (u8 (n*7))) rfl rfl (λhg a w he hs=>by rw[<- a6b (n*7)];exact a0h tk rfl rfl he rfl rfl rfl) ?_;exact J.qx []
theorem b3m (g0 g1 g2:Int):FP 67 [.agg #[iI g0,iI g1,iI g2]] []
  (λv As=>∃(D B P:Nat) (n f p t l d:Nat) (Z:Fv),v= .tuple #[pp n,pp f]/\(3<=D/\D<=6)/\(8<=B/\B<=16)/\(2<=P/\P<=8)/\Z=Fv.of (Dv.new D B P (lgN D B P))/\As=FvP f p n t l d Z):=by
 refine FE [0] Tryz.func67 λX F hX=>?_;refine J.qc (b8m g0 g1 g2) [] λ_=>?_;rintro v As ⟨D,B,P,rfl,hD,hB,hP,rfl⟩;refine⟨_,rfl,trivial,?_⟩;have hg:J9 D B P=true:=by simp[J9];omega
 refine J.qc (a8s D B P hg) [] λ_=>?_;rintro v As ⟨n,rfl,rfl⟩;refine⟨_,rfl,trivial,?_⟩;have hm:=a6l (Dv.Ok.new D B P (lgN D B P) hg 0 (by decide));refine J.q λ_=>?_;refine J.ca hX (by kernel_rfl) (a2j n (Nand.new D B P) 0 0 (a7G D B P hg _ (by decide)) (by decide) rfl) [2] 0 rfl rfl rfl rfl rfl rfl (λ_=>rfl) ?_;rintro v As (⟨_,f,p,t,l,d,rfl,rfl⟩ | ⟨he,rfl,rfl⟩)
 rotate_left
 ·exact absurd (congrArg (·.2) hm) he
 refine⟨_,rfl,trivial,?_⟩;rw[hm];refine J.qF λ_=>?_;refine J.qr [2,3,4,5,6,7] λ_=>?_;exact⟨D,B,P,n,f,p,t,l,d,_,rfl,hD,hB,hP,rfl,rfl⟩
theorem a2Q (g0 g1 g2:Int):FP 67 [.agg #[iI g0,iI g1,iI g2]] []
  (λv As=>∃(D B P:Nat) (n f p t l d:Nat) (Z:Fv),v= .tuple #[pp n,pp f]/\(3<=D/\D<=6)/\(8<=B/\B<=16)/\(2<=P/\P<=8)/\Dev D B P Z 200000 (λ_=>zeros16)/\Z.L=[]/\As=FvP f p n t l d Z):=
 (b3m g0 g1 g2).mono λ_ _ ⟨D,B,P,n,f,p,t,l,d,Z,e,hD,hB,hP,hZ,e2⟩=>by
  have hgb:=b1j hD hB hP;exact⟨D,B,P,n,f,p,t,l,d,Z,e,hD,hB,hP,by rw[hZ];exact Dev.new hD hB hP hgb.2.1 hgb.2.2 (by simp[J9];omega),by rw[hZ];rfl,e2⟩
theorem a0J {a b:Bool} (ha:a=true) (hb:b=true):(a&&b)=true:=by rw[ha,hb];rfl
theorem a1T {P:Program} {f:FuncId} {fn:Func} {s:ChangeSpec} {c:OpenClaim} (k0:(c.wf (OpenSpec.ofChange s))=true) (k1:(laidOutB P)=true) (k2:(mapsRowed P)=true) (k3:(fn.params.all (P.readableRec ·))=true) (k4:(namedTie P c.named s.vars)=true) (k5:(c.stops==[])=true) (k6:(P.stops==[])=true) (k7:(c.knobs==[])=true) (k8:(P.stopKnobs==[])=true) (k9:(c.inPlace==P.inPlace f)=true) (k10:(c.unfollowed==P.unfollowed f)=true) (k11:(c.recurses==P.recurses f)=true) (k12:(c.named==P.varsNamed f)=true) (k13:(c.maps==(fn.params.toList++s.plain.varTypes P).any (P.mapsRec ·))=true) (k14:(c.ifaces==(fn.params.toList++s.plain.varTypes P).any (P.ifacesRec ·))=true) (k15:(c.mapsOut==P.mapsAmong fn.resultTypes.toList)=true) (k16:(c.loops==(fn.params.toList++s.plain.varTypes P).any (P.loopsFrom ·))=true) (k17:(c.wideKeys==(fn.params.toList++s.plain.varTypes P++fn.resultTypes.toList).any (P.wideKeysFrom ·))=true) (k18:(s.vars.all (P.varReadable ·))=true) (k19:(fn.resultTypes.all (λt=>P.readableRec t&&decide (t<P.types.size)))=true) (k20:(c.ifacesOut==fn.resultTypes.toList.any (P.ifacesRec ·))=true) (k21:(c.loopsOut==fn.resultTypes.toList.any (P.loopsFrom ·))=true) (k22:(c.plainKeys==P.plainKeys)=true) (k23:(c.shortTexts.isNone)=true) (k24:(P.stopsHeard)=true) (k25:(P.mayEnter)=true) (k26:(c.lifted==P.liftsFinal)=true) (k27:(P.make==some c.make)=true) (k28a:c.domain.isEmpty=true) (k28:(c.kinds==[])=true) (k29:(c.pinned==c.pinnedBy)=true) (k30:(c.veiled==(fn.params.toList++s.plain.varTypes P++fn.resultTypes.toList).any (P.veiledRec ·))=true) (k31:(c.veiledFits P fn.params.toList (fn.params.toList++s.plain.varTypes P++fn.resultTypes.toList))=true):joinedFacts P f fn s c=true:=by
 unfold joinedFacts;rw[g7 k28a];exact(a0J (a0J (a0J (a0J (a0J (a0J (a0J (a0J (a0J (a0J (a0J (a0J (a0J (a0J (a0J (a0J (a0J (a0J (a0J (a0J (a0J (a0J (a0J (a0J (a0J (a0J (a0J (a0J (a0J (a0J (a0J k0 k1) k2) k3) k4) k5) k6) k7) k8) k9) k10) k11) k12) k13) k14) k15) k16) k17) k18) k19) k20) k21) k22) k23) k24) k25) k26) k27) k28) k29) k30) k31)
end Go.Proofs.YtpakpgkdpofbhaaGreat
