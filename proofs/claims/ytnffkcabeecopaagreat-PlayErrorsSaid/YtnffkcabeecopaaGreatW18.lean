/- Helpers. No condition. -/
import Derived.Test.YtnffkcabeecopaaGreatW01
import Derived.Test.YtnffkcabeecopaaGreatW03
import Derived.Test.YtnffkcabeecopaaGreatW04
import Derived.Test.YtnffkcabeecopaaGreatW05
import Derived.Test.YtnffkcabeecopaaGreatW06
import Derived.Test.YtnffkcabeecopaaGreatW11
import Derived.Test.YtnffkcabeecopaaGreatW13
import Derived.Test.YtnffkcabeecopaaGreatW14
import Derived.Test.YtnffkcabeecopaaGreatW16
import Derived.Test.YtnffkcabeecopaaGreatW17
set_option maxRecDepth 20000
set_option linter.all false
namespace Go.Proofs.YtnffkcabeecopaaGreat
open Go Go.RowKit
theorem V.goS_none {N:Nand} {L:List Fnd} (h:∀i:Nat,(V.standOf (V.of L i)).2=true->(V.standOf (V.of L i)).1.whole=true) (n:Int):∀k,(V.goS N L n k).torn=[]/\(V.goS N L n k).others=[]/\(V.goS N L n k).held=[]
 | 0=>⟨rfl,rfl,rfl⟩
 | k+1=>by
  have ih:=V.goS_none (N:=N) h n k;rw[V.goS_succ];unfold V.step;split
  ·rename_i hs;rw[if_pos (h k hs)];exact ih
  ·exact ih
theorem V.nextOf_le {c:Int} (hc:1<=c):∀(n:Nat) (l:List Fnd),l.length=n->(∀f∈l,f.en.seq+1<=c)->V.nextOf l<=c
 | 0,l,hl,_=>by rw[List.eq_nil_of_length_eq_zero hl];exact hc
 | n+1,l,hl,h=>by
  obtain⟨l',x,rfl⟩:∃l' x,l=l'++[x]:=⟨l.dropLast,l.getLast (λe=>by rw[e]at hl;cases hl),(List.dropLast_concat_getLast _).symm⟩;have hl':l'.length=n:=by simpa using hl
  rw[V.nextOf_snoc];have h1:=V.nextOf_le hc n l' hl' λf hf=>h f (List.mem_append_left _ hf);have h2:=h x (by simp);omega
theorem a1h {t:Tl} (hl:t.l.length=t.b):t.blanks=(List.range t.b).countP λi:Nat=>!(t.at_ (i:Nat)).used:=by
 unfold Tl.blanks Tl.at_;rw[Inv.countP_range_get _ Sb.zero,hl];simp
namespace GI
variable {fd : Int} {W : List (Int × En)} {S : Dv} {k m : Nat}
theorem next_le (h:GI fd W S) (hO:S.Ok k m):(Dv.mt0 S.N).next<=max S.next 1:=by
 have hg:=hO.gd.ok.bd16;have h1:=V.nextOf_le (c:=max S.next 1) (by omega) _ _ rfl λf hf=>by
  obtain⟨b,r,hb,hr,hfr⟩:=V.mem_all.1 hf;rcases(h.dsc b r hb hr).fnd h.inv.lit.off hg.1 hfr with⟨a,ha,hlt⟩ | ⟨⟨w,a,_,ha,hlt⟩,_⟩
  ·have:=(h.inv.st _ a ha).seq;omega
  ·have:=(h.inv.st _ a ha).seq;omega
 show max (V.nextOf (V.all S.N)) 1<=_;omega
theorem rows_mt {V:Dv} (h:GI fd W S) (hO:S.Ok k m) (hlog:S.T.logical=(lgN S.N.dies S.N.blocks S.N.pages:Int)) (hV:V.Ok k m) (hI:Inv fd V) (hT:V.T=(Dv.mt0 S.N).T) (hop:V.op= -1) (hlk:S.N.Like V.N) (hheld:∀b,V.t.has b=true->(V.t.at_ b).held=false) (hsp:f7 (j3 V.t V.T) V.op V.t.b=[]):S.rows<=V.rows+S.N.pages:=by
 obtain⟨W',_,_,hG,_,hblk⟩:=h.mt0 hO hlog;have hb1:=hO.t.b;have hb2:=hV.t.b;have hb3:=hlk.blocks;have hrow:=hO.row;have hbl:S.t.blanks<=V.t.blanks:=by
  rw[a1h hO.t.len,a1h hV.t.len,show V.t.b=S.t.b from by omega];refine List.countP_mono_left λx hx hu=>?_;have hx:=List.mem_range.1 hx;have hhas:S.t.has (x:Int)=true:=Tl.has_iff.2 (by omega);have hhasV:V.t.has (x:Int)=true:=Tl.has_iff.2 (by omega);cases huV:(V.t.at_ (x:Nat)).used with
  | false=>rfl
  | true=>
   exfalso
   have hc:¬V.T.count (x:Int)=0:=λhc=>by
    have:(x:Int)∈f7 (j3 V.t V.T) V.op V.t.b:=mem_pkSome.2 ⟨by omega,by omega,by omega,by
     unfold j3;rw[hI.usable hV hhasV,hc];unfold Tl.blank Tl.held;rw[hhasV,huV,hheld _ hhasV];rfl⟩
    rw[hsp]at this;cases this
   have hcn:=hV.T.cnt (x:Int);obtain⟨y,hy,hyb⟩:=List.countP_pos_iff.1 (show 0<V.T.at_.countP λz=>z.2.block==(x:Int)by unfold Tb.cntB at hcn;omega);have hl:=a0R hV.T hy;rw[hT]at hl;obtain⟨a,ha,hab⟩:=hblk _ _ hl;have hus:=(h.inv.st _ a ha).used;rw[<- hab,show y.2.block=(x:Int)from by simpa using hyb]at hus;rw[hus]at hu;cases hu
 unfold Dv.rows;rw[hop,if_neg (show¬(-1:Int)>=0 by decide),hlk.pages];have:=Nat.mul_le_mul_left S.N.pages hbl;split<;>omega
theorem mounted (h:GI fd W S) (hR:Rmy fd W S) (hO:S.Ok (Dv.costK+k) m) (hlog:S.T.logical=(lgN S.N.dies S.N.blocks S.N.pages:Int)) (hwh:∀i a,Tb.look S.T.at_ i=some a->(M.look S.N (G.parity a.mask a.block a.row) a.block a.row).2=1) (hot:Hot2 fd (Dv.mt0 S.N) 0) (hr:4*S.N.pages<=S.rows) (hnx:S.next<=1099511627775-30000000):
  ∃V W',u0 S.N=(V,0)/\(∀i,Tb.look W' i=Tb.look W i)/\GI fd W' V/\Rmy fd W' V/\Hot2 fd V 0/\V.Ok k m/\(V.free:Int)>4/\V.next<=S.next+6401/\V.N.dead=S.N.dead/\V.N.broken=S.N.broken/\S.N.Like V.N/\V.T.logical=S.T.logical:=by
 have hg:=hO.gd.ok.bd16;have hO1:S.Ok (96+(Dv.costM+k)) m:=hO.less (by unfold Dv.costK;omega);have hn1:=hO.next;have hnle:=h.next_le hO;obtain⟨W',w1,w2,w3,w4,w5⟩:=h.mt0 hO1 hlog;have hlog0:=Dv.mt0_log hO.gd;have hR0:Rmy fd W' (Dv.mt0 S.N):=⟨w3.inv,w3.hd,w3.wok,w4,w3.ff,by have:=hR.cap;show 2*W'.length<=(S.N.blocks-5)*(S.N.pages*(S.N.dies-2))+1;omega⟩;have hO0:(Dv.mt0 S.N).Ok (96+(Dv.costM+k)) m:=Dv.Ok.mt0 hO1.gd;have hall:∀i:Nat,(V.standOf (V.of (V.all S.N) i)).2=true->(V.standOf (V.of (V.all S.N) i)).1.whole=true:=λi hs=>by
  cases ha:Tb.look S.T.at_ (i:Int)with
  | none=>rw[h.stand_none hO ha]at hs;cases hs
  | some a=>
   obtain⟨w,f,_,g2,_,_,_,_,_,_,g9⟩:=h.stand hO ha;rw[g2];show f.whole=true;rw[g9,hwh _ a ha];rfl
 obtain⟨s1,s2,s3⟩:=V.goS_none (N:=S.N) hall (lgN S.N.dies S.N.blocks S.N.pages) (V.size (lgN S.N.dies S.N.blocks S.N.pages));have hs1:(V.scan S.N (lgN S.N.dies S.N.blocks S.N.pages)).torn=[]:=by
  show(V.goS S.N (V.all S.N) (lgN S.N.dies S.N.blocks S.N.pages) (V.size (lgN S.N.dies S.N.blocks S.N.pages))).torn++(V.goS S.N (V.all S.N) (lgN S.N.dies S.N.blocks S.N.pages) (V.size (lgN S.N.dies S.N.blocks S.N.pages))).others=[];rw[s1,s2];rfl
 have hs2:(V.scan S.N (lgN S.N.dies S.N.blocks S.N.pages)).held=[]:=by
  show a3m (V.goS S.N (V.all S.N) (lgN S.N.dies S.N.blocks S.N.pages) (V.size (lgN S.N.dies S.N.blocks S.N.pages))).held=[];rw[s3];exact a1s
 obtain⟨U,u1,u2,u3,u4,_,u6,u7,_,u9,u10,u11,u12,u13,u14,u15⟩:=hR0.clear (β:=0) hO0;have hU0:=w3.clear hO0;obtain⟨U',x1,x2,_⟩:=hU0;rw[u1]at x1;injection x1 with x1 _;subst x1;have hUlog:U.T.logical=(lgN S.N.dies S.N.blocks S.N.pages:Int):=by rw[u6];exact hlog0
 have hrows:=h.rows_mt (V:=U) (hO1.less (show Dv.costM+k<=_ by omega)) hlog u3 u2.inv u6 u7 u13 u2.held u4;have hUt:=u3.t.b;have hU4:=u15 hot;have hp:=u13.pages;have hb:=u13.blocks;have hb0:(Dv.mt0 S.N).N.blocks=S.N.blocks:=rfl;have hp0:(Dv.mt0 S.N).N.pages=S.N.pages:=rfl;obtain⟨V,β',v1,v2,v3,v4,v5,v6,v7,v8,v9,v10,v11,v12,v13⟩:=u2.room (k:=k) (u3.less (by
  have:Dv.costR*U.t.b<=Dv.costR*16:=Nat.mul_le_mul_left _ (by omega);unfold Dv.costM;omega)) hU4 (by omega) (by omega) (by omega)
 obtain rfl:β'=0:=by omega
 obtain⟨y1,y2⟩:=x2.room (k:=k) u3 hU4 (by rw[hUlog];have:=V0 hO.gd.ok;omega) (by omega);rw[v1]at y1 y2;have y1:GI fd W' V:=y1;have y2:Hot2 fd V 0:=y2;refine⟨V,W',?_,w1,y1,v2,v6,v3,v4,by omega,v9.trans u11,v10.trans u12,u13.trans v11,?_⟩
 ·rw[a3q];dsimp only;rw[hs1,hs2,List.take_nil,List.drop_nil];have h1:(Dv.mt0 S.N).holds [] true=Dv.mt0 S.N:=rfl;have h2:(Dv.mt0 S.N).holds [] false=Dv.mt0 S.N:=rfl;have h3:∀Z:Dv,Z.torn []=(Z,0):=λ_=>rfl;rw[h1,h3];dsimp only;rw[if_neg (by simp),h2,u1];dsimp only;rw[if_neg (by simp),h3];dsimp only;rw[if_neg (by simp),v1]
 ·rw[v12,hUlog,hlog]
end GI
theorem Full.par_good {N:Nand} {b r m:Int} {l:List En} (h:Full (-1) N b r m l) (hoff:N.off=false) (hdead:∀i:Nat,N.dead.getD i false=false):(M.look N (G.parity m b r) b r).2=1:=by
 have hx:=List.mem_of_getElem? (L5 b r m l);obtain⟨n1,n2,_⟩:=h.is.inn _ hx;obtain⟨t,ht⟩:=h.good _ hx (by omega);have hrf:N.refuses (G.parity m b r) b r=0:=by
  unfold Nand.refuses;rw[hoff,if_neg (by decide),Nand.geoIn_of ⟨n1,n2⟩ h.is.blk h.is.row,if_neg (by decide),hdead];rfl
 rw[a0S (h.is.sh _ hx).1 hrf ht]
def Nand.cyc (N:Nand):Nand:=(N.setCut (-1) 0).onN
theorem Nand.cyc_same (N:Nand) (h:N.Lit):N.Like N.cyc/\N.cyc.blk=N.blk/\N.cyc.dead=N.dead/\N.cyc.plan=N.plan/\N.cyc.broken=N.broken/\N.cyc.Lit:=by
 have e:N.cyc={N with cuts:=false,left:= -1,keep:=0,off:=false}:=by
  unfold Nand.cyc Nand.setCut Nand.onN;rw[h.off];rfl
 rw[e];exact⟨⟨rfl,rfl,rfl⟩,rfl,rfl,rfl,rfl,⟨rfl,rfl⟩⟩
theorem a9V {N N':Nand} (hl:N.Like N') (ho:N'.off=N.off) (hd:N'.dead=N.dead) (hb:N'.blk=N.blk) (b r s m:Int):R.read N' b r s m=R.read N b r s m:=by
 have hlook:∀d:Int,M.look N' d b r=M.look N d b r:=λd=>by
  have hr:N'.refuses d b r=N.refuses d b r:=by
   unfold Nand.refuses;rw[ho,hl.dies,hl.blocks,hl.pages,hd]
  have hp:N'.pageAt d b r=N.pageAt d b r:=by unfold Nand.pageAt;rw[hb]
  have h1:N'.readE d b r=N.readE d b r:=by unfold Nand.readE;rw[hr,hp]
  have h2:N'.readV d b r=N.readV d b r:=by unfold Nand.readV;rw[hr,hp]
  unfold M.look;simp only[h1,h2]
 have h2:R.look N' b r m=R.look N b r m:=by
  unfold R.look R.ones R.one;simp only[hlook]
 unfold R.read;rw[h2,hl.dies,hl.blocks,hl.pages,ho]
namespace FC
variable {W : List (Int × En)} {lg k m : Nat} {F : Fv}
theorem Inv.cyc {fd:Int} {S:Dv} (h:Inv fd S):Inv fd {S with N:=S.N.cyc}:=by
 obtain⟨c1,c2,c3,c4,c5,c6⟩:=S.N.cyc_same h.lit;refine⟨c6,λi hi=>by show S.N.cyc.dead.getD i false=false;rw[c3];exact h.dead i hi,λa ha=>h.plan a (by rw[<- c4];exact ha),λi j hi=>by show(S.N.cyc.blk i j).met=false/\(S.N.cyc.blk i j).fails=false;rw[c2];exact h.flags i j hi,h.tdead,h.tbad,?_,λb hb hu d hd=>by show(S.N.cyc.blk d b.toNat).cells=[];rw[c2];exact h.blank b hb hu d hd,λi a ha=>?_⟩
 ·rcases h.op with e | e
  ·exact .inl e
  ·refine .inr ⟨by have:=e.blk;show 0<=S.op/\S.op<(S.N.cyc.blocks:Int);rw[c1.blocks];exact this,e.used,by have:=e.row;show 0<=S.row/\S.row<=(S.N.cyc.pages:Int);rw[c1.pages];exact this,by have:=e.mask;show Msk S.N.cyc.dies fd S.mask;rw[c1.dies];exact this,λd hd=>by
    show((S.N.cyc.blk d S.op.toNat).cells.length:Int)<=S.row/\(S.N.cyc.dead.getD d false=false->((S.N.cyc.blk d S.op.toNat).cells.length:Int)=S.row);rw[c2,c3];exact e.cells d hd⟩
 ·have hs:=h.st i a ha;obtain⟨l,g1,g2⟩:=hs.row;exact⟨⟨l,g1.keep c1 λx _=>(by unfold Nand.pageAt;rw[c2]),g2⟩,hs.used,hs.below,hs.seq⟩
theorem Hd.cyc {S:Dv} (h:Hd S W) (hl:S.N.Lit):Hd {S with N:=S.N.cyc} W:=by
 obtain⟨c1,c2,c3,c4,c5,c6⟩:=S.N.cyc_same hl;refine⟨h.keys,λi e he=>?_⟩;obtain⟨h1,a,h2,h3⟩:=h.each i e he;refine⟨h1,a,h2,?_⟩;show R.read S.N.cyc _ _ _ _=_;rw[a9V c1 (c6.off.trans hl.off.symm) c3 c2];exact h3
theorem GI.cyc {fd:Int} {S:Dv} (h:GI fd W S):GI fd W {S with N:=S.N.cyc}:=by
 obtain⟨c1,c2,c3,c4,c5,c6⟩:=S.N.cyc_same h.inv.lit;exact h.same c1 c2 c3 c4 c6 (Inv.cyc h.inv) (Hd.cyc h.hd h.inv.lit)
theorem again (h:FC W lg F) (hO:({F.S with N:=F.S.N.cyc}:Dv).Ok (Dv.costK+k) m) (hnx:F.S.next<=1099511627775-30000000):
  ∃V W',u0 F.S.N.cyc=(V,0)/\FC W' lg (Fv.of V)/\(∀i,cur W' [] i=cur W [] i)/\V.Ok k m/\V.next<=F.S.next+6401/\V.N.broken=F.S.N.broken/\F.S.N.Like V.N:=by
 have hg:=hO.gd.ok.bd16;obtain⟨c1,c2,c3,c4,c5,c6⟩:=F.S.N.cyc_same h.fi.inv.lit;have hG:=GI.cyc h.gi;have hR:Rmy (-1) W {F.S with N:=F.S.N.cyc}:=⟨hG.inv,hG.hd,h.rmy.wok,h.rmy.held,hG.ff,by have:=h.rmy.cap;show 2*W.length<=(F.S.N.cyc.blocks-5)*(F.S.N.cyc.pages*(F.S.N.cyc.dies-2))+1;rw[c1.blocks,c1.pages,c1.dies];exact this⟩;have hno:NoF {F.S with N:=F.S.N.cyc}:=⟨λi=>by show F.S.N.cyc.dead.getD i false=false;rw[c3];exact h.no.dead i,by show F.S.N.cyc.plan=[];rw[c4];exact h.no.plan,λi j=>by show(F.S.N.cyc.blk i j).met=false;rw[c2];exact h.no.met i j⟩;have hlg:=h.fi.lgn;have hlog:({F.S with N:=F.S.N.cyc}:Dv).T.logical=(lgN F.S.N.cyc.dies F.S.N.cyc.blocks F.S.N.cyc.pages:Int):=by
  show F.S.T.logical=_;rw[c1.dies,c1.blocks,c1.pages,h.fi.log,<- hlg];rfl
 have hrw:({F.S with N:=F.S.N.cyc}:Dv).rows=F.S.rows:=by
  unfold Dv.rows;show F.S.N.cyc.pages*F.S.t.blanks+(if F.S.op>=0 then((F.S.N.cyc.pages:Int)-F.S.row).toNat else 0)=_;rw[c1.pages]
 have hrows:=h.rows;obtain⟨V,W',v1,v2,v3,v4,v5,v6,v7,v8,v9,v10,v11,v12⟩:=hG.mounted hR hO hlog (λi a ha=>by
  obtain⟨l,g1,_⟩:=(hG.inv.st i a ha).row;exact g1.par_good c6.off hno.dead) (.calm ⟨hno.dead,hno.plan,hno.met⟩) (by show 4*F.S.N.cyc.pages<=_;rw[hrw,c1.pages];have:2<=F.S.N.cyc.pages:=hg.2.2.1;rw[c1.pages]at this;omega) hnx
 have hlk:F.S.N.Like V.N:=c1.trans v11;have hmany:=v4.many v6 v7;have hcur:∀i,cur W' [] i=cur W [] i:=λi=>by unfold cur;rw[v2]
 refine⟨V,W',v1,⟨⟨v4.inv,v4.hd,v4.wok,λi e he=>h.fi.wr i e (by rw[<- v2];exact he),v12.trans h.fi.log,?_,h.fi.lg2,λe he=>(by cases he),List.nodup_nil,rfl⟩,v4,v5.nof,by show 5*V.N.pages<=V.rows+1;omega,?_,v3⟩,hcur,v6,v8,v10.trans c5,hlk⟩
 ·unfold Fv.lg at hlg ⊢;show((lgN V.N.dies V.N.blocks V.N.pages:Nat):Int)=_;rw[hlk.dies,hlk.blocks,hlk.pages];exact hlg
 ·show 2*lg<=(V.N.blocks-5)*(V.N.pages*(V.N.dies-2))+1;rw[hlk.blocks,hlk.pages,hlk.dies];exact h.cap
end FC
theorem a7H (l:List Td):∀u∈A9 l,u.oneCell'=true:=by
 intro u hu;simp only[A9,List.mem_flatMap]at hu;obtain⟨s,_,hu⟩:=hu;simp only[tdC,List.mem_cons,List.not_mem_nil,or_false]at hu;rcases hu with rfl | rfl | rfl | rfl | rfl | rfl | rfl | rfl | rfl | rfl | rfl | rfl | rfl | rfl | rfl | rfl | rfl<;>rfl
theorem a9G (a:Option Nat) (n cap:Nat) (l:List Td) (hl:l.length=n) (hn:n<=1000000):FP 65 [slv a n cap] [c9 50 17 a n cap (A9 l)]
  (λv As=>∃a' c',v=slv a' n c'/\As=[c9 50 17 a n cap (A9 l),c9 50 17 a' n c' (A9 l)]):=by
 refine FE [0] Tryz.func65 λX F hX=>?_;cases a with
 | none=>
  refine J.know (λh' s=>(s.get (i:=1) rfl).2) λhn0=>?_;obtain⟨rfl,rfl⟩:=hn0;have:l=[]:=List.eq_nil_of_length_eq_zero hl;subst this;refine J.qT λ_=>?_;refine J.turn1 [] rfl (As:=[c9 50 17 none 0 0 (A9 [])]) (λh s=>Sep.one ⟨rfl,rfl,rfl⟩) rfl ?_;refine J.qr [1,2] λ_=>?_;exact⟨none,0,rfl,rfl⟩
 | some g=>
  refine J.qF λ_=>?_;refine J.qn 5 λbb=>?_;refine J.closeOwn (e:=50) (size:=17) (n:=0) (cap:=0) (xs:=[]) 2 rfl rfl rfl (Nat.le_refl _) (Nat.zero_le _) rfl rfl rfl ?_;refine J.q λ_=>?_;refine J.appendR hX tk (a:=some (bb 0)) (n:=0) (cap:=0) (xs:=[]) (oo:=0) (Ay:=c9 50 17 (some g) n cap (A9 l)) 2 1 0 rfl rfl rfl rfl rfl rfl rfl rfl rfl rfl (D0 _ _ (some g) _ _ _) rfl rfl rfl rfl (a7H l) ?_ ?_ (λ_=>rfl) λa' c'=>⟨_,rfl,trivial,?_⟩
  ·simp only[maxLen];omega
  ·omega
  rw[Nat.zero_add n,List.nil_append];refine J.qr [1,2] λ_=>?_;exact⟨a',c',rfl,rfl⟩
theorem b6d (q n:Nat) (A:Pad) (P:Pv) (hl:P.log.length<=1000):FP 20 [pp q] [PlQ q n P.Z A.f (pp A.fp) (slv A.a2 P.log.length A.c2),c9 50 17 A.a2 P.log.length A.c2 (A9 P.log)]
  (λv As=>∃a' c',v=slv a' P.log.length c'/\As=[PlQ q n P.Z A.f (pp A.fp) (slv A.a2 P.log.length A.c2),c9 50 17 A.a2 P.log.length A.c2 (A9 P.log),c9 50 17 a' P.log.length c' (A9 P.log)]):=by
 refine FE [2] Tryz.func20 λX F hX=>?_;refine J.qF λ_=>?_;refine J.qc (a9G A.a2 P.log.length A.c2 P.log rfl (by omega)) [2] λ_=>?_;rintro v As ⟨a',c',rfl,rfl⟩;refine⟨_,rfl,trivial,?_⟩;refine J.qr [1,2,3] λ_=>?_;exact⟨a',c',rfl,rfl⟩
def a9x (d b p:Int):Int:=if y6 d b p then 12*d*b*p+40 else 0
theorem b6J (d b p:Int):FP 42 [.agg #[iI d,iI b,iI p]] [] (Ps (iI (a9x d b p)) []):=by
 refine FE [0] Tryz.func42 λX F hX=>?_;refine J.qp (a2e d b p) [] λ_=>?_;refine J.qd (λ_ h1=>?_) λ_ h1=>?_
 ·have hg:y6 d b p=false:=by simpa using h1
  refine J.qr [] λ_=>?_;exact⟨by unfold a9x;rw[hg];rfl,rfl⟩
 ·have hg:y6 d b p=true:=by simpa using h1
  have hbd:(3<=d/\d<=6)/\(8<=b/\b<=16)/\(2<=p/\p<=8):=by simp[y6]at hg;omega
  have m1:0<=12*d*b/\12*d*b<=1152:=by
   have h1:=Int.mul_nonneg (show 0<=12*d by omega) (show 0<=b by omega);have h2:=Int.mul_le_mul (show 12*d<=72 by omega) (show b<=16 by omega) (by omega) (by omega);omega
  have m2:0<=12*d*b*p/\12*d*b*p<=9216:=by
   have h1:=Int.mul_nonneg m1.1 (show 0<=p by omega);have h2:=Int.mul_le_mul m1.2 (show p<=8 by omega) (by omega) (by omega);omega
  refine J.qr [] λ_=>?_;exact⟨by unfold a9x;rw[hg];rfl,rfl⟩
def Fv.allG:Nat->Int->Fv->Fv×List (List UInt8)×Int
 | 0,_,Z=>(Z,[],0)
 | n+1,i,Z=>if(Z.read i).2.2≠0 then((Z.read i).1,[],(Z.read i).2.2)else((Fv.allG n (i+1) (Z.read i).1).1,(Z.read i).2.1::(Fv.allG n (i+1) (Z.read i).1).2.1,(Fv.allG n (i+1) (Z.read i).1).2.2)
theorem Fv.allG_succ (n:Nat) (i:Int) (Z:Fv):Fv.allG (n+1) i Z=if(Z.read i).2.2≠0 then((Z.read i).1,[],(Z.read i).2.2)else((Fv.allG n (i+1) (Z.read i).1).1,(Z.read i).2.1::(Fv.allG n (i+1) (Z.read i).1).2.1,(Fv.allG n (i+1) (Z.read i).1).2.2):=rfl
def Fv.all (Z:Fv):Fv×List (List UInt8)×Int:=if(Fv.allG Z.lg.toNat 0 Z).2.2≠0 then((Fv.allG Z.lg.toNat 0 Z).1,[],(Fv.allG Z.lg.toNat 0 Z).2.2)else Fv.allG Z.lg.toNat 0 Z
theorem a6m (l:List (List UInt8)) (d:List UInt8):x6 l++j8 d=x6 (l++[d]):=by unfold x6;rw[List.flatMap_append];simp
theorem b6H (f p n t l d:Nat) (Z:Fv) (k m:Nat) (hO:Z.Ok k m):FP 50 [pp f] (FvP f p n t l d Z)
  (λv As=>∃a c,v= .tuple #[slv a Z.all.2.1.length c,iI Z.all.2.2]/\As=FvP f p n t l d Z.all.1++[c9 30 16 a Z.all.2.1.length c (x6 Z.all.2.1)]):=by
 refine FE [2] Tryz.func50 λX F hX=>?_;refine J.q λb9=>?_;refine J.cF ?_;refine J.qp (V3 f n t l p d Z hO.dv.gd.ok) [1,3] λ_=>?_;have hlb:=Fv.lg_bd (F:=Z) hO.dv.gd.ok;obtain⟨N,hN⟩:=Int.eq_ofNat_of_zero_le (show 0<=Z.lg by omega);rw[hN];have hall:Z.all=if(Fv.allG N 0 Z).2.2≠0 then((Fv.allG N 0 Z).1,[],(Fv.allG N 0 Z).2.2)else Fv.allG N 0 Z:=by unfold Fv.all;rw[hN];rfl
 refine J.q λ_=>?_;refine J.turn1 [] rfl (As:=[c9 30 16 none 0 0 (x6 [])]) (λh s=>Sep.one ⟨rfl,rfl,rfl⟩) rfl ?_;refine J.q λ_=>?_;refine J.l (α:=(Nat×Fv×List (List UInt8)×Option Nat×Nat)) (λz=>z.1<=N/\z.2.1.Ok k m/\z.2.2.1.length=z.1/\Fv.allG N 0 Z=((Fv.allG (N-z.1) z.1 z.2.1).1,z.2.2.1++(Fv.allG (N-z.1) z.1 z.2.1).2.1,(Fv.allG (N-z.1) z.1 z.2.1).2.2)) (λz=>[si 12 z.1,si 11 N,⟨0,pp f,2, .tt⟩,sv 4 (slv z.2.2.2.1 z.2.2.1.length z.2.2.2.2)]) [1,2,3,4,5,6,7] (λz=>(FvP f p n t l d z.2.1++[c9 30 16 z.2.2.2.1 z.2.2.1.length z.2.2.2.2 (x6 z.2.2.1)])) (λz=>N-z.1) ((0,Z,[],none,0)) (⟨Nat.zero_le _,hO,rfl,rfl⟩) λz hI=>?_;obtain⟨j,Y,acc,ga,ca⟩:=z;dsimp only at hI ⊢;obtain⟨hj,hY,hacc,hgo⟩:=hI;refine J.qd (λ_ h1=>?_) λ_ h1=>?_
 ·simp only[decide_eq_true_eq,Int.ofNat_lt]at h1;have hk:=Fv.read_keep hY j;rw[show N-j=(N-(j+1))+1 from by omega]at hgo;rw[Fv.allG_succ]at hgo;refine J.qp (a0f f p n t l d Y k m hY j) [1,2,3,4,5,6] λ_=>?_;generalize Y.read j=R at hgo hk ⊢;obtain⟨Y2,dd,er⟩:=R;dsimp only at hgo hk ⊢;refine J.qd (λ_ h2=>?_) λ_ h2=>?_
  ·have he:er≠0:=by simpa using h2
   rw[if_pos he]at hgo;rw[hgo,if_pos he]at hall;refine J.turn1 [] rfl (As:=[c9 30 16 none 0 0 (x6 [])]) (λh s=>Sep.one ⟨rfl,rfl,rfl⟩) rfl ?_;refine J.qr [1,2,3,4,5,6,9] λ_=>?_;rw[hall];exact⟨none,0,rfl,rfl⟩
  ·have he:er=0:=by simpa using h2
   rw[if_neg (λh=>h he)]at hgo;refine J.qn 5 λb9=>?_;refine J.ap 7 9 0 (a6m acc dd) λa3 c3=>?_;refine J.q λ_=>?_;rw[show acc.length+1=(acc++[dd]).length from by simp];refine J.q λ_=>?_;refine J.n ((j+1,Y2,acc++[dd],a3,c3)) (⟨by dsimp only;omega,hk.1,by dsimp only;rw[List.length_append];exact congrArg (· +1) hacc,by dsimp only;rw[hgo,List.append_assoc];rfl⟩) (by dsimp only;omega) [0,1,2,3,4,5,6,7]
 simp only[decide_eq_false_iff_not,Int.ofNat_lt]at h1;obtain rfl:j=N:=by omega
 rw[Nat.sub_self,show Fv.allG 0 (j:Int) Y=(Y,[],0)from rfl,List.append_nil]at hgo;rw[hgo,if_neg (by simp)]at hall;refine J.qr [1,2,3,4,5,6,7] λ_=>?_;rw[hall];exact⟨ga,ca,rfl,rfl⟩
def UN:Nat:=Fv.cW+1
theorem a7P:UN=Dv.costM+8*Dv.fuel+1:=rfl
theorem b3M:96<=UN:=by
 have:96<=8*Dv.fuel:=by decide
 rw[a7P];omega
theorem a7O:Fv.cW*200<=UN*200:=Nat.mul_le_mul_right _ (Nat.le_succ _)
theorem b1c:FI.costW*200<=UN*200:=Nat.mul_le_mul_right _ (Nat.le_succ _)
theorem a7N:Dv.costK<=UN*402:=by
 have h:Dv.costT*200<=UN*200:=Nat.mul_le_mul_right _ (Nat.le_succ _);have:=b3M;have h2:Dv.costM<=UN:=by rw[a7P];omega
 unfold Dv.costK;omega
theorem a8K:UN*200000<=1000000000000000:=by decide+kernel
theorem b7B {n:Nat} (h:n<=200000):UN*n<=1000000000000000:=Nat.le_trans (Nat.mul_le_mul_left _ h) a8K
theorem Inv.slots_le {fd:Int} {S:Dv} {k m:Nat} (h:Inv fd S) (hO:S.Ok k m) (hr:0<S.rows):S.slots<=(S.N.dies:Int)-1:=by
 have hg:=hO.gd.ok.bd16;unfold Dv.slots;rcases h.rows_pos hO hr with hl | hp
 ·rw[if_pos hl];have:=(h.opn hl).mask.pos hg.1;omega
 ·split
  ·rename_i hl;have:=(h.opn hl).mask.pos hg.1;omega
  ·rcases S.pick_spec with e | ⟨p1,p2,_,_⟩
   ·omega
   ·have:=(h.msk hO (Tl.has_iff.2 ⟨p1,p2⟩)).pos hg.1;omega
theorem a5m (l:List En) (e:En):1<=(I2 l e).length/\(I2 l e).length<=l.length+1:=by
 unfold I2;rw[List.length_append,List.length_singleton];have:=List.length_filter_le (λx:En=>!(x.lpn==e.lpn)) l;omega
theorem Fv.waits_len {F:Fv} {k m D:Nat} (hO:F.Ok (Fv.cW+k) m) {e:En} (h0:(F.waits e).2=0) (h1:1<=F.S.slots) (hs:F.S.slots<=(D:Int)-1) (hl:F.L.length+1<=D):1<=(F.waits e).1.L.length/\(F.waits e).1.L.length+1<=D:=by
 have hk:=Fv.writes_keep (F:=F.ask) hO.ask;have hl:F.ask.L.length+1<=D:=hl;have h1:1<=F.ask.S.slots:=h1;have hs:F.ask.S.slots<=(D:Int)-1:=hs;unfold Fv.waits at h0 ⊢
 by_cases ho:F.ask.off=true
 ·rw[if_pos ho]at h0;cases h0
 rw[if_neg ho]at h0 ⊢
 by_cases hr:e.lpn<0\/e.lpn>=F.ask.lg
 ·rw[if_pos hr]at h0;cases h0
 rw[if_neg hr]at h0 ⊢
 by_cases hw:(F.ask.L.length:Int)>=F.ask.S.slots
 ·rw[if_pos hw]at h0 ⊢;dsimp only at h0 ⊢
  by_cases he:F.ask.writes.2≠0
  ·rw[if_pos he]at h0;exact absurd h0 he
  ·rw[if_neg he];have h3:=hk.2.2.2 (Decidable.of_not_not he) (by omega);have:=a5m F.ask.writes.1.L {e with seq:=F.ask.writes.1.nx};show 1<=(I2 _ _).length/\(I2 _ _).length+1<=D;omega
 ·rw[if_neg hw];have:=a5m F.ask.L {e with seq:=F.ask.nx};show 1<=(I2 F.ask.L _).length/\(I2 F.ask.L _).length+1<=D;omega
structure Dev (D B P:Nat) (F:Fv) (n:Nat) (c:Nat->List UInt8):Prop where
 fc:∃W,FC W (lgN D B P) F/\∀i:Nat,i<lgN D B P->cur W F.L i=c i
 ok:F.Ok (UN*n) 0
 nx:F.S.next+8000*(n:Int)<=1099000000000
 br:F.S.N.broken=0
 geo:F.S.N.dies=D/\F.S.N.blocks=B/\F.S.N.pages=P
 wt:F.L.length+1<=D
 le:n<=200000
namespace Dev
variable {D B P n : Nat} {F : Fv} {c : Nat → List UInt8}
theorem lg (h:Dev D B P F n c):F.lg=(lgN D B P:Int):=by
 obtain⟨W,hW,_⟩:=h.fc;exact hW.fi.lgn
theorem read (h:Dev D B P F n c) {i:Nat} (h1:i<lgN D B P):F.read i=(F,c i,0):=by
 obtain⟨W,hW,hc⟩:=h.fc;rw[hW.fi.read,if_neg (by omega),hc i h1]
theorem like (h:Dev D B P F n c) {G:Fv} (hl:F.S.N.Like G.S.N):G.S.N.dies=D/\G.S.N.blocks=B/\G.S.N.pages=P:=
 ⟨hl.dies.trans h.geo.1,hl.blocks.trans h.geo.2.1,hl.pages.trans h.geo.2.2⟩
theorem slots (h:Dev D B P F n c):1<=F.S.slots/\F.S.slots<=(D:Int)-1:=by
 obtain⟨W,hW,_⟩:=h.fc;have hg:=h.ok.dv.gd.ok.bd16;have:=hW.fi.inv.slots_le h.ok.dv (by have:=hW.rows;omega);rw[h.geo.1]at this;exact⟨hW.slots h.ok.dv,this⟩
theorem put (h:Dev D B P F (n+1) c) {e:En} {u:Nat} (hu:e.lpn=(u:Int)) (he:FitR e/\e.role≠4/\e.lpn<(lgN D B P:Int)) (hk:(F.waits e).1.Ok (UN*n) 0):
  (F.waits e).2=0/\Dev D B P (F.waits e).1 n (λj=>if j=u then e.data else c j)/\1<=(F.waits e).1.L.length:=by
 obtain⟨W,hW,hc⟩:=h.fc;have hU:UN*(n+1)=UN*n+UN:=Nat.mul_succ _ _;have hU2:=a7P;have hnx:=h.nx;obtain⟨F',W',r1,r2,r3,_,r5,r6,r7⟩:=hW.waits (k:=UN*n) (h.ok.dv.less (by omega)) (by omega) he;have hs:=h.slots;have hlen:=Fv.waits_len (k:=UN*n) (D:=D) (e:=e) (h.ok.less (by unfold Fv.cW;omega)) (by rw[r1]) hs.1 hs.2 h.wt;rw[r1]at hk hlen ⊢;exact⟨rfl,⟨⟨W',r2,λi hi=>by
  rw[r3,hu,hc i hi]
  by_cases e:i=u
  ·rw[if_pos e,if_pos (by omega)]
  ·rw[if_neg e,if_neg (by omega)]⟩,hk,by dsimp only;omega,r6.trans h.br,h.like r7,hlen.2,by have:=h.le;omega⟩,hlen.1⟩
theorem write (h:Dev D B P F (n+1) c) {i:Nat} (h1:i<lgN D B P) {d:List UInt8} (hd:d.length=16):
  (F.write i d).2=0/\Dev D B P (F.write i d).1 n (λj=>if j=i then d else c j)/\1<=(F.write i d).1.L.length:=by
 have h200:=(Fv.lg_bd (F:=F) h.ok.dv.gd.ok).2;rw[h.lg]at h200;have hU:UN*(n+1)=UN*n+UN:=Nat.mul_succ _ _;exact h.put (e:=⟨(i:Int),0,1,d⟩) (u:=i) rfl ⟨⟨⟨Int.natCast_nonneg i,by show(i:Int)<=65535;omega⟩, .inl rfl,hd⟩,by show(1:Int)≠4;decide,by show(i:Int)<_;omega⟩ (Fv.write_keep (k:=UN*n) (h.ok.less (by unfold UN at hU ⊢;omega)) i hd).1
theorem trim (h:Dev D B P F (n+1) c) {i:Nat} (h1:i<lgN D B P):
  (F.trim i).2=0/\Dev D B P (F.trim i).1 n (λj=>if j=i then zeros16 else c j)/\1<=(F.trim i).1.L.length:=by
 have h200:=(Fv.lg_bd (F:=F) h.ok.dv.gd.ok).2;rw[h.lg]at h200;have hU:UN*(n+1)=UN*n+UN:=Nat.mul_succ _ _;exact h.put (e:=⟨(i:Int),0,2,zeros16⟩) (u:=i) rfl ⟨⟨⟨Int.natCast_nonneg i,by show(i:Int)<=65535;omega⟩, .inr ⟨.inl rfl,rfl⟩,rfl⟩,by show(2:Int)≠4;decide,by show(i:Int)<_;omega⟩ (Fv.trim_keep (k:=UN*n) (h.ok.less (by unfold UN at hU ⊢;omega)) i).1
theorem flush (h:Dev D B P F (n+200) c):F.flush.2=0/\Dev D B P F.flush.1 n c/\F.flush.1.L=[]:=by
 obtain⟨W,hW,hc⟩:=h.fc;have hU:UN*(n+200)=UN*n+UN*200:=Nat.mul_add _ _ _;have hf:=a7O;have hf2:=b1c;have hnx:=h.nx;have hk:=(Fv.flush_keep (k:=UN*n) (m:=0) (h.ok.less (by omega))).1;obtain⟨F',W',r1,r2,_,r4,r5,r6,r7,r8⟩:=hW.flush (k:=UN*n) (h.ok.dv.less (by omega)) (by omega);have hg:=h.ok.dv.gd.ok.bd16;rw[h.geo.1]at hg;rw[r1]at hk ⊢;exact⟨rfl,⟨⟨W',r2,λi hi=>by rw[r8,hc i hi]⟩,hk,by dsimp only;omega,r5.trans h.br,h.like r6,by dsimp only;rw[r7];simp only[List.length_nil];omega,by have:=h.le;omega⟩,r7⟩
theorem gdC (h:Dev D B P F n c) {k:Nat} (hk:k<=UN*n):F.S.N.cyc.Gd k 0:=
 ((h.ok.dv.less hk).gd.cut (-1) 0 (by decide) (by decide)).on
theorem again (h:Dev D B P F (n+403) c):(u0 F.S.N.cyc).2=0/\∃c',Dev D B P (Fv.of (u0 F.S.N.cyc).1) n c'/\(F.L=[]->c'=c):=by
 obtain⟨W,hW,hc⟩:=h.fc;have hU:UN*(n+403)=UN*n+UN*403:=Nat.mul_add _ _ _;have hm:=a7N;have hnx:=h.nx;have hle:=h.le;have hg:=h.ok.dv.gd.ok.bd16;rw[h.geo.1]at hg;have hlk:=(F.S.N.cyc_same hW.fi.inv.lit).1;have hG:F.S.N.cyc.Gd (Dv.costK+UN*n) 0:=h.gdC (by omega);obtain⟨V,W',r1,r2,r3,r4,r5,r6,r7⟩:=hW.again (k:=UN*n) (m:=0) ⟨hG,h.ok.dv.t.like hlk,h.ok.dv.T,h.ok.dv.sl,h.ok.dv.row,h.ok.dv.next⟩ (by omega);rw[r1];refine⟨rfl,λi=>if F.L=[]then c i else cur W [] i,⟨⟨W',r2,λi hi=>by
  rw[show(Fv.of V).L=[]from rfl,r3]
  by_cases hL:F.L=[]
  ·rw[if_pos hL,<- hc i hi,hL]
  ·rw[if_neg hL]⟩,Fv.of_ok r4 (b7B (by omega)),by show V.next+_<=_;omega,r6.trans h.br,h.like (G:=Fv.of V) r7,by show 0+1<=D;omega,by omega⟩,λhL=>funext λi=>if_pos hL⟩
theorem new (hD:3<=D/\D<=6) (hB:8<=B/\B<=16) (hP:2<=P/\P<=8) (hlg:lgN D B P<=200) (hcap:2*lgN D B P<=(B-5)*(P*(D-2))+1) (hgm:y6 D B P=true):Dev D B P (Fv.of (Dv.new D B P (lgN D B P))) 200000 (λ_=>zeros16):=
 ⟨⟨[],FC.new hD hB hP hlg hcap,λ_ _=>rfl⟩,Fv.of_ok (Dv.Ok.new D B P _ hgm _ a8K) a8K,by show(1:Int)+8000*((200000:Nat):Int)<=_;omega,rfl,⟨rfl,rfl,rfl⟩,by show 0+1<=D;omega,Nat.le_refl _⟩
end Dev
theorem b0i:∀D,D<7->3<=D->(IntKind.i64.wrap ((BitVec.ofInt IntKind.i64.bits 0&&& BitVec.ofInt IntKind.i64.bits (Tl.andN (L.all (D:Nat)) (L.all (D:Nat)))).toNat:Int) !=0)=false:=by decide+kernel
theorem GI.hurt_none {W:List (Int×En)} {S:Dv} {k m:Nat} (h:GI (-1) W S) (hO:S.Ok k m):S.hurts=[]:=by
 have hg:=hO.gd.ok.bd16;have htd:=hO.t.d;have htb:=hO.t.b;refine U3 _ λx hx=>?_;have hhas:S.t.has (x:Int)=true:=Tl.has_iff.2 (by omega);have hm:=(a9e (h.inv.msk hO hhas) hg.1).1;have:J4 S.t S.T x=false:=by
  unfold J4;rw[List.any_eq_false];intro i _;have hl:a3f S.t S.T x i=false:=by
   unfold a3f;rw[hm,htd];cases ha:Tb.look S.T.at_ i with
   | none=>exact b0i _ (by omega) hg.1.1
   | some a=>
    have:=(a9e (h.msk i a ha) hg.1).1;show(IntKind.i64.wrap ((BitVec.ofInt IntKind.i64.bits a.mask&&& _).toNat:Int) !=0)=false;rw[this];exact(b2x _ (by omega) hg.1.1).1
  rw[hl];exact Bool.false_ne_true
 rw[this,Bool.and_false]
namespace FC
variable {W : List (Int × En)} {lg k m : Nat} {F : Fv}
theorem room (h:FC W lg F) (hO:F.S.Ok (Dv.costM+k) m) (hnx:F.S.next<=1099511627775-30000000):
  ∃V,F.S.room=(V,0)/\FC W lg {F with S:=V}/\V.Ok k m/\V.next<=F.S.next+6400/\V.N.broken=F.S.N.broken/\F.S.N.Like V.N:=by
 have hg:=hO.gd.ok.bd16;have htb:=hO.t.b;obtain⟨V,β',v1,v2,v3,v4,v5,v6,v7,v8,v9,v10,v11,v12,v13⟩:=h.rmy.room (k:=k) (hO.less (by
  have:Dv.costR*F.S.t.b<=Dv.costR*16:=Nat.mul_le_mul_left _ (by omega);unfold Dv.costM;omega)) (.calm h.no) (by have:=h.rows;omega) (by omega) (by omega)
 obtain rfl:β'=0:=by omega
 have hmany:=v2.many v3 v4;obtain⟨hg1,hg2⟩:=h.gi.room (k:=k) hO (.calm h.no) (by have:=h.fi.log;have:=h.fi.lg2;omega) (by omega);rw[v1]at hg1;refine⟨V,v1,⟨⟨v2.inv,v2.hd,h.fi.wok,h.fi.wr,v12.trans h.fi.log,?_,h.fi.lg2,h.fi.des,h.fi.nd,h.fi.off⟩,v2,v6.nof,by show 5*V.N.pages<=V.rows+1;omega,?_,hg1⟩,v3,v8,v10,v11⟩
 ·have:=h.fi.lgn;unfold Fv.lg at this ⊢;show((lgN V.N.dies V.N.blocks V.N.pages:Nat):Int)=_;rw[v11.dies,v11.blocks,v11.pages];exact this
 ·show 2*lg<=(V.N.blocks-5)*(V.N.pages*(V.N.dies-2))+1;rw[v11.blocks,v11.pages,v11.dies];exact h.cap
theorem seen (h:FC W lg F):F.S.seen=F.S:=by
 unfold Dv.seen;rw[a2U h.no.dead]
end FC
namespace Dev
variable {D B P n : Nat} {F : Fv} {c : Nat → List UInt8}
theorem tick (h:Dev D B P F (n+2) c):F.tick.2=0/\Dev D B P F.tick.1 n c/\F.tick.1.L=F.L:=by
 obtain⟨W,hW,hc⟩:=h.fc;have hU:UN*(n+2)=UN*n+UN*2:=Nat.mul_add _ _ _;have hUe:=a7P;have hS:Dv.costS<=UN*2:=by
  have:Dv.costC<=Dv.costM:=by unfold Dv.costM Dv.costR;omega
  unfold Dv.costS;omega
 have hnx:=h.nx;have hk:=(Fv.tick_keep (k:=UN*n) (m:=0) (h.ok.less (by omega))).1;obtain⟨V,r1,r2,r3,r4,r5,r6⟩:=hW.room (k:=UN*n) (h.ok.dv.less (by unfold Dv.costS at hS;omega)) (by omega);have hh:V.hurts=[]:=r2.gi.hurt_none r3;have he:F.tick=({F with S:=V},0):=by
  unfold Fv.tick Dv.step;rw[hW.fi.ask,hW.fi.off,if_neg Bool.false_ne_true,hW.seen,r1];dsimp only;rw[if_neg (by decide),hh];show(({F with S:=V}:Fv).told 0,(0:Int))=_;unfold Fv.told;rw[hW.fi.off];simp[hW.fi.off]
 rw[he]at hk ⊢;exact⟨rfl,⟨⟨W,r2,hc⟩,hk,by show V.next+_<=_;omega,r5.trans h.br,h.like (G:={F with S:=V}) r6,h.wt,by have:=h.le;omega⟩,rfl⟩
end Dev
def Fv.ticksG:Nat->Int->Fv->Fv×Int
 | 0,i,Z=>(Z.whole.1,if Z.whole.2 then i else-1)
 | f+1,i,Z=>if Z.whole.2 then(Z.whole.1,i)else if Z.whole.1.tick.2≠0 then(Z.whole.1.tick.1,-1)else Fv.ticksG f (i+1) Z.whole.1.tick.1
theorem Fv.ticksG_succ (f:Nat) (i:Int) (Z:Fv):Fv.ticksG (f+1) i Z=if Z.whole.2 then(Z.whole.1,i)else if Z.whole.1.tick.2≠0 then(Z.whole.1.tick.1,-1)else Fv.ticksG f (i+1) Z.whole.1.tick.1:=rfl
def a4N (most:Int):Nat:=(min (max most 0) 10000).toNat
def Fv.ticks (Z:Fv) (most:Int):Fv×Int:=Fv.ticksG (a4N most) 0 Z
theorem b3C (f p n t l d:Nat) (Z:Fv) (k m:Nat) (most:Int) (hO:Z.Ok (Dv.costS*a4N most+k) m) (hm:m<=1000):FP 99 [pp f,iI most] (FvP f p n t l d Z)
  (Ps (iI (Z.ticks most).2) (FvP f p n t l d (Z.ticks most).1)):=by
 obtain⟨M,hM⟩:∃M,a4N most=M:=⟨_,rfl⟩;have hMM:min (max most 0) 10000=(M:Int):=by rw[<- hM];unfold a4N;omega
 have hM1:M<=10000:=by omega
 rw[show Z.ticks most=Fv.ticksG M 0 Z from by unfold Fv.ticks;rw[hM]];rw[hM]at hO;refine FE [2,0] Tryz.func99 λX F hX=>?_;refine J.qn 9 λ_=>?_;have e:(if(10000:Int)<if(0:Int)>most then 0 else most then 10000 else if(0:Int)>most then 0 else most)=(M:Int):=by
  rw[<- hMM];split<;>split<;>omega
 rw[e];refine J.q λ_=>?_;refine J.l (α:=(Nat×Fv)) (λz=>(z.1<=M/\z.2.Ok (Dv.costS*(M-z.1)+k) m/\Fv.ticksG M 0 Z=Fv.ticksG (M-z.1) z.1 z.2)\/(z.1=M+1/\Fv.ticksG M 0 Z=(z.2,-1))) (λz=>[si 11 z.1,⟨10,iI ((M:Int)+1),0, .tt⟩,⟨0,pp f,2, .tt⟩,si 1 M]) [1,2,3,4,5,6] (λz=>FvP f p n t l d z.2) (λz=>M+1-z.1) ((0,Z)) (.inl ⟨Nat.zero_le _,hO,rfl⟩) λz hI=>?_;obtain⟨j,Y⟩:=z;dsimp only at hI ⊢;refine J.qd (λ_ h1=>?_) λ_ h1=>?_
 ·simp only[decide_eq_true_eq]at h1;obtain⟨hj,hY,hgo⟩:j<=M/\Y.Ok (Dv.costS*(M-j)+k) m/\Fv.ticksG M 0 Z=Fv.ticksG (M-j) j Y:=by
   rcases hI with h | h
   ·exact h
   ·omega
  have hw:=Fv.whole_keep hY;refine J.qp (b3o f p n t l d Y _ m hY) [1,2,3,4,5,6] λ_=>?_;obtain⟨W,hW⟩:∃W,Y.whole=W:=⟨_,rfl⟩;rw[hW]at hw ⊢;obtain⟨Y1,wb⟩:=W;dsimp only at hw ⊢;refine J.qd (λ_ h2=>?_) λ_ h2=>?_
  ·have hr:Fv.ticksG (M-j) j Y=(Y1,(j:Int)):=by
    cases hc:M-j with
    | zero=>show(Y.whole.1,if Y.whole.2 then(j:Int)else-1)=_;rw[hW,if_pos h2]
    | succ c=>rw[Fv.ticksG_succ,hW,if_pos h2]
   refine J.qr [1,2,3,4,5,6] λ_=>?_;rw[hgo,hr];exact⟨rfl,rfl⟩
  refine J.qn 6 λ_=>?_;rcases Nat.lt_or_ge j M with hjM | hjM
  ·rw[show decide ((j:Int)<(M:Int))=true from decide_eq_true (by omega)];obtain⟨c,hc⟩:∃c,M-j=c+1:=⟨M-j-1,by omega⟩;have hO1:Y1.Ok (Dv.costS+(Dv.costS*c+k)) m:=hw.1.less (by rw[hc,Nat.mul_succ];omega);have htk:=Fv.tick_keep hO1;refine J.qp (a9p f p n t l d Y1 _ m hO1 hm) [1,2,3,4,5,6] λ_=>?_;have hr:Fv.ticksG (M-j) j Y=if Y1.tick.2≠0 then(Y1.tick.1,-1)else Fv.ticksG c (j+1) Y1.tick.1:=by
    rw[hc,Fv.ticksG_succ,hW,if_neg (by rw[h2];exact Bool.false_ne_true)]
   obtain⟨W,hW2⟩:∃W,Y1.tick=W:=⟨_,rfl⟩;rw[hW2]at htk hr ⊢;obtain⟨Y2,er⟩:=W;dsimp only at htk hr ⊢;refine J.qd (λ_ h3=>?_) λ_ h3=>?_
   ·have he:er≠0:=by simpa using h3
    rw[if_pos he]at hr;refine J.qr [1,2,3,4,5,6] λ_=>?_;rw[hgo,hr];exact⟨rfl,rfl⟩
   ·have he:er=0:=by simpa using h3
    rw[if_neg (λh=>h he)]at hr;refine J.q λ_=>?_;refine J.n ((j+1,Y2)) (.inl ⟨by dsimp only;omega,by dsimp only;rw[show M-(j+1)=c from by omega];exact htk.1,by dsimp only;rw[show M-(j+1)=c from by omega,hgo,hr];rfl⟩) (by dsimp only;omega) [0,1,2,3,4,5,6]
  ·obtain rfl:j=M:=by omega
   rw[show decide ((j:Int)<(j:Int))=false from decide_eq_false (by omega)];refine J.q λ_=>?_;refine J.v (iI 0) rfl rfl (λhg a w he hw=>by simp[G.on]at hg) ?_;refine J.qF λ_=>?_;refine J.q λ_=>?_;refine J.n ((j+1,Y1)) (.inr ⟨rfl,by rw[hgo,Nat.sub_self];show(Y.whole.1,if Y.whole.2 then(j:Int)else-1)=_;rw[hW,if_neg (by rw[h2];exact Bool.false_ne_true)]⟩) (by dsimp only;omega) [0,1,2,3,4,5,6]
 simp only[decide_eq_false_iff_not]at h1;obtain⟨rfl,hgo⟩:j=M+1/\Fv.ticksG M 0 Z=(Y,-1):=by
  rcases hI with h | h
  ·omega
  ·exact h
 refine J.qr [1,2,3,4,5,6] λ_=>?_;rw[hgo];exact⟨rfl,rfl⟩
def flS:Stp:=⟨4,0,zd,0,0,dF⟩
theorem Pv.step_flush (P:Pv) (Z:Fv) (hZ:P.Z=some Z) (s:Stp) (hs:s.fn=4):P.step s=(⟨Y0 Z.S.N.ops P.L,P.log++[⟨(Z.setN (O1 Z.S.N (B4 Z.S.N.ops P.L))).flush.2,zd⟩],some (Z.setN (O1 Z.S.N (B4 Z.S.N.ops P.L))).flush.1,P.M⟩,⟨(Z.setN (O1 Z.S.N (B4 Z.S.N.ops P.L))).flush.2,zd⟩):=by
 have hnd:P.nd=Z.S.N:=by unfold Pv.nd;rw[hZ]
 have hrun:P.run=⟨Y0 Z.S.N.ops P.L,P.log,some (Z.setN (O1 Z.S.N (B4 Z.S.N.ops P.L))),P.M⟩:=by unfold Pv.run;rw[hnd];unfold Pv.setN;rw[hZ]
 have hd:P.run.does s=({P.run with Z:=some (Z.setN (O1 Z.S.N (B4 Z.S.N.ops P.L))).flush.1},⟨(Z.setN (O1 Z.S.N (B4 Z.S.N.ops P.L))).flush.2,zd⟩):=by
  rw[hrun];unfold Pv.does;rw[if_neg (by rw[hs];decide),if_neg (by rw[hs];decide),if_neg (by rw[hs];decide),if_pos hs]
 unfold Pv.step;rw[hd,hrun]
theorem b5v (q n:Nat) (A:Pad) (P:Pv) (hA:A.Ok P) (Z:Fv) (hZ:P.Z=some Z) (most:Int) (k m:Nat) (hO:Z.Ok (Fv.cW*200+(Dv.costS+(Dv.costK+(1+(Dv.costS*a4N most+k))))) m) (hoff:Z.S.N.off=false) (hm:m+(B4 Z.S.N.ops P.L).length<=1000) (hL:P.L.length<=1000) (hlg:P.log.length<=1000) (Z1:Fv) (hZ1:(P.step flS).1.Z=some Z1):FP 54 [pp q,iI most] (T9 q n A P)
  (λv As=>∃A':Pad,v= .bool (decide ((Z1.ticks most).2>=0))/\A'.Ok {(P.step flS).1 with Z:=some (Z1.ticks most).1}/\As=T9 q n A' {(P.step flS).1 with Z:=some (Z1.ticks most).1}):=by
 have hsf:=Pv.step_flush P Z hZ flS rfl;obtain⟨D,hD⟩:∃D,B4 Z.S.N.ops P.L=D:=⟨_,rfl⟩;rw[hD]at hm hsf;have hO2:(Z.setN (O1 Z.S.N D)).Ok (Fv.cW*200+(Dv.costS+(Dv.costK+(1+(Dv.costS*a4N most+k))))) (m+D.length):=hO.setN (a3x _ _) (a2C hO.dv.gd D);have hkp:=Fv.flush_keep hO2;have hz1:Z1=(Z.setN (O1 Z.S.N D)).flush.1:=by rw[hsf]at hZ1;injection hZ1 with e;exact e.symm
 rw[<- hz1]at hkp;have hst:=a2z q n A P hA Z hZ _ m hO (by rw[hD];exact hm) hL hlg flS rfl;have hone:(P.step flS).1=⟨Y0 Z.S.N.ops P.L,(P.step flS).1.log,some Z1,P.M⟩:=by rw[hsf,hz1]
 have hpl:T9 q n A P=[PlQ q n (some Z) A.f (pp A.fp) (slv A.a2 P.log.length A.c2), .pt A.fp 176 [.slice (A4 A.a) P.L.length A.c],rdA (A4 A.a) 7 P.L.length (f9 P.L),c9 50 17 A.a2 P.log.length A.c2 (A9 P.log)]++FvP A.f A.p n A.t A.l A.d Z:=by unfold T9 a0k;rw[hZ];rfl
 rw[hpl]at hst ⊢;refine FE [2,0] Tryz.func54 λX F hX=>?_;refine J.qp (b4x q n (flP (some Z) A.f) (pp A.fp) (slv A.a2 P.log.length A.c2)) [1] λ_=>?_;refine J.qp (a0N n Z.S.N) [7] λ_=>?_;rw[hoff];refine J.qp (b1X q n (some Z) A.f (pp A.fp) (slv A.a2 P.log.length A.c2)) [1] λ_=>?_;refine J.qF λ_=>?_;refine J.qc (hst) [1,2,3,4,5,6,7,8,9,10] λ_=>?_;rintro v As ⟨A',rfl,hA',rfl⟩;rw[hone]at hA' ⊢;refine⟨_,rfl,trivial,?_⟩;refine J.qp (b1X q n (some Z1) A'.f (pp A'.fp) (slv A'.a2 (P.step flS).1.log.length A'.c2)) [1] λ_=>?_;refine J.qp (b3C A'.f A'.p n A'.t A'.l A'.d Z1 k (m+D.length) most (hkp.1.less (by omega)) hm) [5,6,7,8,9,10] λ_=>?_;refine J.qr [1,2,3,4,5,6,7,8,9,10] λ_=>?_;refine⟨A',rfl,?_,?_⟩
 ·rw[hone];exact⟨hA'.z,hA'.c⟩
 ·rw[hone];rfl
theorem b5y:Fv.cW*200+(Dv.costS+(Dv.costK+(1+0)))<=UN*605:=by
 have h1:=a7O;have h2:=a7N;have h3:Dv.costS<=UN*2:=by
  have:Dv.costC<=Dv.costM:=by unfold Dv.costM Dv.costR;omega
  have:=a7P;unfold Dv.costS;omega
 have h4:=b3M;omega
def erB (f:Fl):Bool:=y7 4 9 3 f.x f.y f.z&&(decide (1<=f.kind)&&(decide (f.kind<=5)&& !(decide (f.kind=5)&&(decide (f.n<0)||decide (f.n>=32)))))
@[irreducible] noncomputable def zB (t : Nat) : List Value := match a9N Tryz.prog t with | some i => i.zero | none => []
noncomputable def tabB:Tab:=[(115,⟨.row [(0,3,true),(3,27264,true),(27267,6,true),(27273,1,false),(27274,1,false),(27275,1,false),(27276,1,false),(27277,1,false)],27278,zB 115,29248⟩),(112,⟨.arr 6 4544,27264,zB 112,29184⟩),(111,⟨.arr 16 284,4544,zB 111,4864⟩),(110,⟨.row [(0,1,false),(1,1,false),(2,256,true),(258,8,true),(266,8,true),(274,8,true),(282,1,false),(283,1,false)],284,zB 110,304⟩),(107,⟨.arr 8 32,256,zB 107,256⟩)]
theorem b4i:TabOK Tryz.prog tabB:=TabOK.mk (by kernel_rfl)
noncomputable def tab6:Tab:=tabB++tab
theorem g7:TabOK Tryz.prog tab6:=λp hp=>by
 rcases List.mem_append.1 hp with h | h
 ·exact b4i p h
 ·exact tk p h
def zI (v:Value):Bool:=match v with | .int .i64 n=>n==0 | _=>false
def b0U:List Value->Nat->Bool
 | [],p=>Nat.beq p 27278
 | v::l,p=>match(Nat.ble 3 p&&Nat.ble p 27266)&&Nat.beq ((p-3) % 284) 0 with
  | true=>zI v&&b0U l (p+1)
  | false=>b0U l (p+1)
theorem a6j:b0U (zB 115) 0=true:=by kernel_rfl
theorem a0i:∀(l:List Value) (p:Nat),b0U l p=true->p+l.length=27278/\∀i,3<=p+i->p+i<=27266->(p+i-3) % 284=0->i<l.length->l[i]? =some (iI 0)
 | [],p,h=>⟨by simpa using Nat.eq_of_beq_eq_true h,λi _ _ _ hi=>by simp at hi⟩
 | v::l,p,h=>by
  rw[b0U]at h;have key:b0U l (p+1)=true/\(3<=p->p<=27266->(p-3) % 284=0->v=iI 0):=by
   split at h
   ·rename_i hc;rw[Bool.and_eq_true]at h;refine⟨h.2,λ_ _ _=>?_⟩;have h1:=h.1;unfold zI at h1;split at h1
    ·rw[beq_iff_eq.1 h1]
    ·cases h1
   ·rename_i hc;refine⟨h,λh1 h2 h3=>?_⟩;rw[Nat.ble_eq_true_of_le h1,Nat.ble_eq_true_of_le h2,h3]at hc;cases hc
  obtain⟨k1,k2⟩:=a0i l (p+1) key.1;refine⟨by rw[List.length_cons];omega,λi h1 h2 h3 hi=>?_⟩;cases i with
  | zero=>rw[List.getElem?_cons_zero,key.2 (by omega) (by omega) h3]
  | succ i=>
   rw[List.getElem?_cons_succ];exact k2 i (by omega) (by omega) (by rw[show p+1+i=p+(i+1)from by omega];exact h3) (by simpa using hi)
structure Good6 (cs:List Value):Prop where
 geo:cs.take 3=[iI 4,iI 9,iI 3]
 nx:∀d b:Nat,d<6->b<16->cs[3+d*4544+b*284]? =some (iI 0)
 len:cs.length=27278
def f6 (z:List Value):List Value:=((z.take 0++[Value.int .i64 4,Value.int .i64 9,Value.int .i64 3]++z.drop (0+3)).set 27273 (.bool true)).set 27276 (iI (-1))
def a4i:List (Nat×Nat×Bool):=[(0,3,true),(3,27264,true),(27267,6,true),(27273,1,false),(27274,1,false),(27275,1,false),(27276,1,false),(27277,1,false)]
theorem b7w (z:List Value) (hl:z.length=27278):L7 (C0 a4i) z [(0, .agg #[iI 4,iI 9,iI 3]),(3, .bool true),(6,iI (-1))]=some (f6 z):=by
 have e1:=a0P z 0 [Value.int .i64 4,Value.int .i64 9,Value.int .i64 3] (by rw[hl];decide);have hl1:(z.take 0++[Value.int .i64 4,Value.int .i64 9,Value.int .i64 3]++z.drop (0+3)).length=27278:=by
  simp only[List.length_append,List.length_take,List.length_drop,List.length_cons,List.length_nil,hl];omega
 have e2:=a0O (v:=Value.bool true) (cs:=z.take 0++[Value.int .i64 4,Value.int .i64 9,Value.int .i64 3]++z.drop (0+3)) (off:=27273) (by rw[hl1];decide);have e3:=a0O (v:=Value.int .i64 (-1)) (cs:=(z.take 0++[Value.int .i64 4,Value.int .i64 9,Value.int .i64 3]++z.drop (0+3)).set 27273 (.bool true)) (off:=27276) (by rw[List.length_set,hl1];decide);have p0:C0 a4i 0=some (0,3):=rfl;have p3:C0 a4i 3=some (27273,1):=rfl;have p6:C0 a4i 6=some (27276,1):=rfl;rw[L7,p0];show(match Nat.beq 3 3,L4 z 0 [Value.int .i64 4,Value.int .i64 9,Value.int .i64 3]with | true,some cs'=>L7 (C0 a4i) cs' [(3, .bool true),(6,iI (-1))] | _,_=>none)=some (f6 z);rw[e1];show L7 (C0 a4i) (z.take 0++[Value.int .i64 4,Value.int .i64 9,Value.int .i64 3]++z.drop (0+3)) [(3, .bool true),(6,iI (-1))]=some (f6 z);rw[L7,p3];show(match Nat.beq 1 1,L4 (z.take 0++[Value.int .i64 4,Value.int .i64 9,Value.int .i64 3]++z.drop (0+3)) 27273 [Value.bool true]with | true,some cs'=>L7 (C0 a4i) cs' [(6,iI (-1))] | _,_=>none)=some (f6 z);rw[e2];show L7 (C0 a4i) ((z.take 0++[Value.int .i64 4,Value.int .i64 9,Value.int .i64 3]++z.drop (0+3)).set 27273 (.bool true)) [(6,iI (-1))]=some (f6 z);rw[L7,p6];show(match Nat.beq 1 1,L4 ((z.take 0++[Value.int .i64 4,Value.int .i64 9,Value.int .i64 3]++z.drop (0+3)).set 27273 (.bool true)) 27276 [Value.int .i64 (-1)]with | true,some cs'=>L7 (C0 a4i) cs' [] | _,_=>none)=some (f6 z);rw[e3];rfl
theorem a7i {T:Tab} {E:Env} {t:Nat} {parts:List (Nat×Operand)} {fs:List (Nat×Nat×Bool)} {sz:Nat} {z:List Value} {b:Nat} {l:List Slot} {cs:List Value} (h1:T.get t=some ⟨.row fs,sz,z,b⟩) (h2:slots E (parts.map (·.2))=some l) (h3:L7 (C0 fs) z (X8 parts l)=some cs):U9 T E t parts=some ⟨.agg cs.toArray,0,M6 l,0⟩:=by
 unfold U9;rw[h1,h2];dsimp only;rw[h3]
theorem b4M:Good6 (f6 (zB 115)):=by
 obtain⟨h1,h2⟩:=a0i _ 0 a6j;have hl:(zB 115).length=27278:=by omega
 unfold f6;generalize zB 115=z at h1 h2 hl;have hg:∀i,i≠27273->i≠27276->(((z.take 0++[Value.int .i64 4,Value.int .i64 9,Value.int .i64 3]++z.drop (0+3)).set 27273 (.bool true)).set 27276 (iI (-1)))[i]? =(([iI 4,iI 9,iI 3]:List Value)++z.drop 3)[i]?:=λi e1 e2=>by
  rw[List.getElem?_set_ne (λe=>e2 e.symm),List.getElem?_set_ne (λe=>e1 e.symm)];rfl
 refine⟨?_,λd b hd hb=>?_,by simp only[List.length_set,List.length_append,List.length_take,List.length_drop,List.length_cons,List.length_nil];omega⟩
 ·apply List.ext_getElem?;intro i;rw[List.getElem?_take];split
  ·rename_i hi;rw[hg i (by omega) (by omega),List.getElem?_append_left hi]
  ·rename_i hi;exact(List.getElem?_eq_none_iff.2 (Nat.le_of_not_lt hi)).symm
 ·rw[hg _ (by omega) (by omega),List.getElem?_append_right (by simp<;>omega),List.getElem?_drop];exact h2 _ (by simp<;>omega) (by simp<;>omega) (by simp<;>omega) (by simp<;>omega)
theorem b7x (d b p x y z:Int):FP 66 [.agg #[iI d,iI b,iI p], .agg #[iI x,iI y,iI z]] [] (Ps (.bool (y7 d b p x y z)) []):=by
 refine FE [0,0] Tryz.func66 λX F hX=>?_;refine J.r hX g7 400 (λ_=>rfl) λb1=>?_;refine J.rt hX g7 [] rfl rfl rfl ?_;refine⟨congrArg Value.bool ?_,rfl⟩;unfold y7;rw[Bool.eq_iff_iff];simp only[Bool.and_eq_true,decide_eq_true_eq];omega
theorem a8n {T:Tab} {E:Env} {L:List Atom} {t:Nat} {parts:Array (Nat×Operand)}:look T E L (.build t parts)=U9 T E t parts.toList:=rfl
theorem b1C:tab6.get 115=some ⟨.row a4i,27278,zB 115,29248⟩:=by kernel_rfl
theorem b7r {E:Env} {x y z:Operand} (h2:slots E [x,y,z]=some [⟨3, .agg #[iI 4,iI 9,iI 3],0, .tt⟩,sv 0 (.bool true),si 0 (-1)]):U9 tab6 E 115 [(0,x),(3,y),(6,z)]=some ⟨.agg (f6 (zB 115)).toArray,0,[],0⟩:=by
 have hl:(zB 115).length=27278:=by have:=(a0i _ 0 a6j).1;omega
 exact a7i (E:=E) (parts:=[(0,x),(3,y),(6,z)]) (l:=[⟨3, .agg #[iI 4,iI 9,iI 3],0, .tt⟩,sv 0 (.bool true),si 0 (-1)]) b1C h2 (b7w _ hl)
theorem b0V (l:List Value):(Value.agg l.toArray).cells.toList=l:=rfl
theorem b6z:FP 22 [.agg #[iI 4,iI 9,iI 3]] [] (λv As=>∃q,v=pp q/\∃cs,Good6 cs/\As=[.pt q 115 cs]):=by
 have hl:(zB 115).length=27278:=by have:=(a0i _ 0 a6j).1;omega
 refine FE [0] Tryz.func22 λX F hX=>?_;obtain⟨c6,h6,g6⟩:∃c6,c6=f6 (zB 115)/\Good6 c6:=⟨_,rfl,b4M⟩;refine J.r hX g7 8 (λ_=>rfl) λbb=>?_;refine J.v (.agg c6.toArray) rfl rfl (λhg a w he hs=>?_) ?_
 ·rw[h6];refine a0Q (L:=[]) (r:=⟨.agg (f6 (zB 115)).toArray,0,[],0⟩) g7 he ?_ Conj.nil (λi A hr=>by cases hr);dsimp only;rw[a8n];exact b7r (by exact rfl)
 refine J.r hX g7 400 (λ_=>rfl) λbq=>?_;refine J.r hX g7 400 (λ_=>rfl) λb2=>?_;refine J.rt hX g7 [2] rfl rfl rfl ?_;exact⟨bq 0,rfl,_,by rw[b0V];exact g6,rfl⟩
theorem b3u (q:Nat) (cs:List Value) (hg6:Good6 cs) (f:Fl):FP 23 [pp q,flV f] [.pt q 115 cs] (λv As=>v= .bool (erB f)/\∃cs',As=[.pt q 115 cs']):=by
 have hlen:=hg6.len;refine FE [2,0] Tryz.func23 λX F hX=>?_;refine J.r hX g7 400 (λ_=>rfl) λbb=>?_;refine J.plan (.of [0,4,8,13,16,21,26,28,32,36,41,44,48,52,56,61,64,68,72,76,81,84,88,92,97,100,104,108,113,116,120,124,128]) [] [1,2] (by rw[hX.hP];kernel_rfl) (by kernel_rfl) ?_;refine J.r hX g7 3 (λ_=>rfl) λb3=>?_;refine J.vT (.agg #[iI 4,iI 9,iI 3]) rfl rfl (λhg aa w he hC=>j7 g7 rfl rfl he rfl rfl rfl (hC rfl _ (i6 (i:=1) rfl)) (show(cs.drop 0).take 3=[iI 4,iI 9,iI 3]from hg6.geo) rfl) ?_;refine J.r hX g7 400 (λ_=>rfl) λb4=>?_;refine J.r hX g7 400 (λ_=>rfl) λb5=>?_;refine J.cb (b7x 4 9 3 f.x f.y f.z) [] ?_;rintro _ As ⟨rfl,rfl⟩;refine⟨_,rfl,stq,?_⟩;refine J.r hX g7 400 (λ_=>rfl) (λ_=>?_) (λ_=>by(repeat' (first | exact Conj.nil | refine Conj.cons ?_ ?_ | exact rfl | assumption | (rw[Bool.not_eq_true'];assumption) | exact Bool.and_eq_true_iff.2 ⟨by first | assumption | (rw[Bool.not_eq_true'];assumption),by first | assumption | (rw[Bool.not_eq_true'];assumption)⟩ | intro hq | (simp;done) | (simp;omega) | decide)));refine J.r hX g7 400 (λ_=>rfl) λb6=>?_;refine J.cond rfl (λh1=>?_) (λh1=>?_)
 ·refine J.r hX g7 400 (λ_=>rfl) λb7=>?_;refine J.r hX g7 400 (λ_=>rfl) λb8=>?_;refine J.rt hX g7 [1] rfl rfl rfl ?_;refine⟨congrArg Value.bool ?_,_,rfl⟩;unfold erB
  revert h1
  simp only[Bool.or_eq_true,Bool.not_eq_true',Bool.and_eq_true,decide_eq_true_eq,beq_iff_eq];intro h1;symm;rw[<- Bool.not_eq_true];simp only[Bool.and_eq_true,Bool.or_eq_true,Bool.not_eq_true',decide_eq_true_eq,Bool.and_eq_false_iff,Bool.or_eq_false_iff,decide_eq_false_iff_not];rintro⟨a1,a2,a3,a4⟩;rcases h1 with((h1 | h1) | h1) | ⟨h1,h2⟩
  ·rw[a1]at h1;cases h1
  ·omega
  ·omega
  ·omega
 have hg:y7 4 9 3 f.x f.y f.z=true:=by
  revert h1
  cases y7 4 9 3 f.x f.y f.z<;>simp
 have he:erB f=true:=by
  unfold erB;rw[hg]
  revert h1
  rw[hg];simp only[Bool.not_true,Bool.false_or,Bool.or_eq_false_iff,Bool.and_eq_false_iff,decide_eq_false_iff_not,beq_eq_false_iff_ne,Bool.true_and,Bool.and_eq_true,decide_eq_true_eq,Bool.not_eq_true'];intro h1;refine⟨by omega,by omega,?_⟩;rcases h1.2 with h2 | h2
  ·exact .inl h2
  ·exact .inr h2
 have hb:(0<=f.x/\f.x<4)/\(0<=f.y/\f.y<9)/\(0<=f.z/\f.z<3):=by
  unfold y7 at hg;simp only[Bool.and_eq_true,decide_eq_true_eq]at hg;omega
 have ofs:f.x.toNat<=3/\f.y.toNat<=8:=by omega
 obtain⟨x,hx⟩:∃x:Nat,f.x=(x:Int):=⟨f.x.toNat,by omega⟩;obtain⟨y,hy⟩:∃y:Nat,f.y=(y:Int):=⟨f.y.toNat,by omega⟩;obtain⟨z,hz⟩:∃z:Nat,f.z=(z:Int):=⟨f.z.toNat,by omega⟩;have hxn:f.x.toNat=x:=by omega
 have hyn:f.y.toNat=y:=by omega
 have hzn:f.z.toNat=z:=by omega
 have hnx:=hg6.nx x y (by omega) (by omega);refine J.r hX g7 400 (λ_=>rfl) λb9=>?_;refine J.plan (.of [0,4,8,13,16,20,25,28,32,36,40,44,48,53,56,60]) [15] [2] (by rw[hX.hP];kernel_rfl) (by kernel_rfl) ?_;refine J.r hX g7 400 (λ_=>rfl) λb10=>?_;refine J.r hX g7 400 (λ_=>rfl) λb11=>?_;refine J.cond rfl (λk1=>?_) (λk1=>?_)
 ·refine J.r hX g7 400 (λ_=>rfl) λb12=>?_;refine J.store1 hX g7 1 rfl rfl rfl rfl rfl rfl rfl rfl rfl rfl rfl rfl rfl (by rw[hlen];omega) _ rfl rfl (λ_=>rfl) ⟨stq,?_⟩;refine J.r hX g7 400 (λ_=>rfl) λb13=>?_;refine J.r hX g7 400 (λ_=>rfl) λb14=>?_;refine J.rt hX g7 [1] rfl rfl rfl ?_;exact⟨by rw[he],_,rfl⟩
 refine J.r hX g7 400 (λ_=>rfl) λb15=>?_;refine J.r hX g7 400 (λ_=>rfl) λb16=>?_;refine J.cond rfl (λk2=>?_) (λk2=>?_)
 ·refine J.r hX g7 400 (λ_=>rfl) λb17=>?_;refine J.store1 hX g7 1 rfl rfl rfl rfl rfl rfl rfl rfl rfl rfl rfl rfl rfl (by rw[hlen];omega) _ rfl rfl (λ_=>rfl) ⟨stq,?_⟩;refine J.r hX g7 400 (λ_=>rfl) λb18=>?_;refine J.r hX g7 400 (λ_=>rfl) λb19=>?_;refine J.rt hX g7 [1] rfl rfl rfl ?_;exact⟨by rw[he],_,rfl⟩
 refine J.r hX g7 400 (λ_=>rfl) λb20=>?_;refine J.r hX g7 400 (λ_=>rfl) λb21=>?_;refine J.cond rfl (λk3=>?_) (λk3=>?_)
 ·refine J.r hX g7 400 (λ_=>rfl) λb22=>?_;refine J.v (iI 0) rfl rfl (λhg aa w he hw=>i7 g7 rfl rfl he rfl rfl rfl (hw.get (i:=1) rfl) (by rw[show 0+3+f.x.toNat*4544+f.y.toNat*284+0=3+x*4544+y*284 from by omega];exact hnx)) ?_;refine J.r hX g7 2 (λ_=>rfl) λb23=>?_;rw[decide_eq_false (show¬f.z<0 by omega)];refine J.r hX g7 400 (λ_=>rfl) λb24=>?_;refine J.cF ?_;refine J.r hX g7 400 (λ_=>rfl) λb25=>?_;refine J.r hX g7 400 (λ_=>rfl) λb26=>?_;refine J.rt hX g7 [1] rfl rfl rfl ?_;exact⟨by rw[he],_,rfl⟩
 refine J.r hX g7 400 (λ_=>rfl) λb27=>?_;refine J.r hX g7 400 (λ_=>rfl) λb28=>?_;refine J.cond rfl (λk4=>?_) (λk4=>?_)
 ·refine J.r hX g7 400 (λ_=>rfl) λb29=>?_;refine J.plan (.of [0,4,8,13,16,20,24,31]) [6,7] [2] (by rw[hX.hP];kernel_rfl) (by kernel_rfl) ?_;refine J.r hX g7 400 (λ_=>rfl) λb30=>?_;refine J.store1 hX g7 1 rfl rfl rfl rfl rfl rfl rfl rfl rfl rfl rfl rfl rfl (by rw[hlen];omega) _ rfl rfl (λ_=>rfl) ⟨stq,?_⟩;refine J.r hX g7 400 (λ_=>rfl) λb31=>?_;refine J.r hX g7 400 (λ_=>rfl) λb32=>?_;refine J.rt hX g7 [1] rfl rfl rfl ?_;exact⟨by rw[he],_,rfl⟩
 refine J.r hX g7 400 (λ_=>rfl) λb33=>?_;refine J.r hX g7 400 (λ_=>rfl) λb34=>?_;refine J.cond rfl (λk5=>?_) (λk5=>?_)
 ·refine J.r hX g7 400 (λ_=>rfl) λb35=>?_;refine J.v (iI 0) rfl rfl (λhg aa w he hw=>i7 g7 rfl rfl he rfl rfl rfl (hw.get (i:=1) rfl) (by rw[show 0+3+f.x.toNat*4544+f.y.toNat*284+0=3+x*4544+y*284 from by omega];exact hnx)) ?_;refine J.r hX g7 2 (λ_=>rfl) λb36=>?_;rw[decide_eq_false (show¬f.z<0 by omega)];refine J.r hX g7 400 (λ_=>rfl) λb37=>?_;refine J.v (.bool true) rfl rfl (λhg aa w he hw=>by simp[G.on]at hg) ?_;refine J.r hX g7 400 (λ_=>rfl) λb38=>?_;refine J.r hX g7 400 (λ_=>rfl) λb39=>?_;refine J.cF ?_;refine J.r hX g7 400 (λ_=>rfl) λb40=>?_;refine J.v (iI 0) rfl rfl (λhg aa w he hw=>i7 g7 rfl rfl he rfl rfl rfl (hw.get (i:=1) rfl) (by rw[show 0+3+f.x.toNat*4544+f.y.toNat*284+0=3+x*4544+y*284 from by omega];exact hnx)) ?_;refine J.r hX g7 2 (λ_=>rfl) λb41=>?_;rw[decide_eq_false (show¬f.z<0 by omega)];refine J.r hX g7 400 (λ_=>rfl) λb42=>?_;refine J.v (.bool true) rfl rfl (λhg aa w he hw=>by simp[G.on]at hg) ?_;refine J.r hX g7 400 (λ_=>rfl) λb43=>?_;refine J.r hX g7 400 (λ_=>rfl) λb44=>?_;refine J.cF ?_;refine J.r hX g7 400 (λ_=>rfl) λb45=>?_;refine J.r hX g7 400 (λ_=>rfl) λb46=>?_;refine J.rt hX g7 [1] rfl rfl rfl ?_;exact⟨by rw[he],_,rfl⟩
 exfalso
 unfold erB at he;simp only[beq_eq_false_iff_ne,Bool.and_eq_true,decide_eq_true_eq]at k1 k2 k3 k4 k5 he;omega
theorem b0M (f:Fl):((Nand.new 4 9 3).fault f.kind f.x f.y f.z f.n f.xx).1=erB f:=by
 unfold erB
 by_cases hg:y7 4 9 3 f.x f.y f.z=true
 ·have hg':y7 (Nand.new 4 9 3).dies (Nand.new 4 9 3).blocks (Nand.new 4 9 3).pages f.x f.y f.z=true:=hg;rw[hg,Bool.true_and]
  by_cases h1:f.kind=1
  ·rw[h1,a9s hg'];rfl
  by_cases h2:f.kind=2
  ·rw[h2,a9r hg'];rfl
  by_cases h3:f.kind=3
  ·rw[h3,a6d hg'];rfl
  by_cases h4:f.kind=4
  ·rw[h4,a9q hg'];rfl
  by_cases h5:f.kind=5
  ·rw[h5,Z0 (b:=decide (f.n<0)||decide (f.n>=32)) hg' (by show(([]:List NCell)[f.z.toNat]?)=none;simp) rfl];cases(decide (f.n<0)||decide (f.n>=32))<;>rfl
  ·rw[a7x h1 h2 h3 h4 h5]
   by_cases h6:1<=f.kind
   ·rw[decide_eq_false (show¬f.kind<=5 by omega)];simp
   ·rw[decide_eq_false h6];rfl
 ·have hg2:y7 4 9 3 f.x f.y f.z=false:=by simpa using hg
  have hg':y7 (Nand.new 4 9 3).dies (Nand.new 4 9 3).blocks (Nand.new 4 9 3).pages f.x f.y f.z=false:=hg2;rw[hg2,Bool.false_and];unfold Nand.fault;rw[if_pos (by rw[hg'])]
theorem b5l (fn n:Int) (f:Fl):((Pv.new 4 9 3 []).step ⟨fn,0,zd,n,0,f⟩).2=⟨if 1<=fn/\fn<=7 then 0 else if fn=8/\erB f=true then 0 else 1,zd⟩:=by
 have hm:=a4M (Dv.Ok.new 4 9 3 (lgN 4 9 3) (by decide) 0 (by decide));have hz:(Pv.new 4 9 3 []).Z=some (Fv.of (Dv.new 4 9 3 (lgN 4 9 3))):=by
  show(if(u0 (Nand.new 4 9 3)).2=0 then some (Fv.of (u0 (Nand.new 4 9 3)).1)else none)=_;rw[hm];rfl
 have hD:Dev 4 9 3 (Fv.of (Dv.new 4 9 3 (lgN 4 9 3))) 200000 (λ_=>zeros16):=Dev.new (by decide) (by decide) (by decide) (by decide) (by decide) (by decide);have hnd:(Pv.new 4 9 3 []).nd=Nand.new 4 9 3:=by unfold Pv.nd;rw[hz];rfl
 have hrun:(Pv.new 4 9 3 []).run=⟨[],[],some (Fv.of (Dv.new 4 9 3 (lgN 4 9 3))),(Pv.new 4 9 3 []).M⟩:=by
  unfold Pv.run Pv.setN;rw[hz,hnd];rfl
 have hs:((Pv.new 4 9 3 []).step ⟨fn,0,zd,n,0,f⟩).2=((Pv.new 4 9 3 []).run.does ⟨fn,0,zd,n,0,f⟩).2:=rfl;rw[hs,hrun];unfold Pv.does;dsimp only;have h12:0<lgN 4 9 3:=by decide
 by_cases h1:fn=1
 ·rw[if_pos h1,if_pos (by omega),show(0:Int)=((0:Nat):Int)from rfl,hD.read h12];rfl
 rw[if_neg h1]
 by_cases h2:fn=2
 ·have:=(Dev.write (n:=199999) hD h12 (d:=zd) rfl).1;rw[if_pos h2,if_pos (by omega)];exact congrArg (λx=>(⟨x,zd⟩:Td)) this
 rw[if_neg h2]
 by_cases h3:fn=3
 ·have:=(Dev.trim (n:=199999) hD h12).1;rw[if_pos h3,if_pos (by omega)];exact congrArg (λx=>(⟨x,zd⟩:Td)) this
 rw[if_neg h3]
 by_cases h4:fn=4
 ·have:=(Dev.flush (n:=199800) hD).1;rw[if_pos h4,if_pos (by omega)];exact congrArg (λx=>(⟨x,zd⟩:Td)) this
 rw[if_neg h4]
 by_cases h5:fn=5
 ·have:=(Dev.tick (n:=199998) hD).1;rw[if_pos h5,if_pos (by omega)];exact congrArg (λx=>(⟨x,zd⟩:Td)) this
 rw[if_neg h5]
 by_cases h6:fn=6
 ·rw[if_pos h6,if_pos (by omega)]
 rw[if_neg h6]
 by_cases h7:fn=7
 ·rw[if_pos h7,if_pos (by omega)];have:=(Dev.again (n:=199597) hD).1;have e:(Pv.mounts ⟨[],[],some (Fv.of (Dv.new 4 9 3 (lgN 4 9 3))),(Pv.new 4 9 3 []).M⟩).2=0:=by
   unfold Pv.mounts Pv.nd;dsimp only;rw[if_neg (show¬((Fv.of (Dv.new 4 9 3 (lgN 4 9 3))).S.N.off=true)by decide)];rw[show((Fv.of (Dv.new 4 9 3 (lgN 4 9 3))).S.N.setCut (-1) 0).onN=(Fv.of (Dv.new 4 9 3 (lgN 4 9 3))).S.N.cyc from rfl,this];rfl
  rw[e]
 rw[if_neg h7,if_neg (show¬(1<=fn/\fn<=7)by omega)]
 by_cases h8:fn=8
 ·rw[if_pos h8];have:=b0M f;rw[show(Pv.nd ⟨[],[],some (Fv.of (Dv.new 4 9 3 (lgN 4 9 3))),(Pv.new 4 9 3 []).M⟩)=Nand.new 4 9 3 from rfl,this];cases hb:erB f with
  | true=>rw[if_pos rfl,if_pos ⟨h8,rfl⟩]
  | false=>rw[if_neg (by decide),if_neg (by simp)]
 ·rw[if_neg h8,if_neg (λh=>h8 h.1)]
theorem Fn.hp {P:Program} {f:FuncId} {args:List Value} {Pre:List Atom} {Q:Value->List Atom->Prop} (c:Fn P f args Pre Q):Fn P f args [.hp (HP.of Pre)] (λv As=>∃Bs,Q v Bs/\As=[.hp (HP.of Bs)]):=
 λF w s=>(c F w (Sep.unpack s)).mono λ_ _ ⟨v,As,h1,h2,h3,h4⟩=>⟨v,_,h1,⟨As,h2,rfl⟩,Sep.pack h3,h4⟩
theorem Sep.packTail {h:Hl} (L M:List Atom) (s:Sep (L++M) h):Sep (L++[.hp (HP.of M)]) h:=by
 obtain⟨own,hw⟩:=s;refine⟨λb=>min (own b) L.length,λi B hB=>?_⟩;rcases Nat.lt_or_ge i L.length with hi | hi
 ·rw[List.getElem?_append_left hi]at hB;refine Atom.up (λb o hb=>?_) (hw i B (by rw[List.getElem?_append_left hi];exact hB));rw[res_some]at hb ⊢;exact⟨by rw[hb.1];omega,hb.2⟩
 ·rw[List.getElem?_append_right hi]at hB;have he:i-L.length=0:=by
   rcases Nat.eq_zero_or_pos (i-L.length)with e | e
   ·exact e
   ·rw[List.getElem?_eq_none (by simp;omega)]at hB;cases hB
  rw[he]at hB;injection hB with hB;subst hB;refine⟨λb=>own b-L.length,λj B hB=>?_⟩;refine Atom.up (λb o hb=>?_) (hw (L.length+j) B (by rw[List.getElem?_append_right (by omega),Nat.add_sub_cancel_left];exact hB));rw[res_some]at hb ⊢;refine⟨by rw[hb.1];omega,?_⟩;rw[res_some];exact⟨by rw[hb.1];omega,hb.2⟩
theorem b5q (x d:List UInt8):decide (d=x)=(x==d):=by
 by_cases h:x=d
 ·rw[h];simp
 ·rw[decide_eq_false (λe=>h e.symm),beq_eq_false_iff_ne.2 h]
theorem b1j (a:Option Nat) (n c:Nat) (l:List (List UInt8)) (hl:l.length=n) (hn:n<=1000000) (d:List UInt8) (hd:d.length=16) (hs:∀x∈l,x.length=16):FP 150 [slv a n c,a7D d] [c9 30 16 a n c (x6 l)] (λv As=>v=iI (match l.findIdx? (λx=>x==d)with | some k=>(k:Int) | none=> -1)/\As=[c9 30 16 a n c (x6 l)]):=by
 refine FE [0,0] Tryz.func150 λX F hX=>?_;refine J.q λbb=>?_;refine J.l (α:=Nat) (λk=>k<=n/\∀j,j<k->∀x,l[j]? =some x->(x==d)=false) (λk=>[si 8 k,si 7 n,sv 0 (slv a n c),⟨3,pp (bb 0),3, .tt⟩]) [] (λk=>[]) (λk=>n-k) (0) (⟨Nat.zero_le _,λj hj=>absurd hj (Nat.not_lt_zero _)⟩) λk hI=>?_;obtain⟨hk,hno⟩:=hI;refine J.qd (λ_ h1=>?_) λ_ h1=>?_
 ·simp only[decide_eq_true_eq,Int.ofNat_lt]at h1;obtain⟨x,hx⟩:∃x,l[k]? =some x:=⟨_,List.getElem?_eq_getElem (by omega)⟩;refine J.know (λh' s=>i9 (c:=(a,c)) (by omega) (s.get (i:=1) rfl)) λhg=>?_;obtain⟨g,rfl⟩:=hg;refine J.pn 4 (.of [1,4,8,12,17,20]) [] [1,2] λ_ _=>?_;have hxl:=hs x (List.mem_of_getElem? hx);refine J.vT (a7D x) rfl rfl (λhg aa w he hC=>q9 tk rfl rfl he rfl rfl rfl (hC rfl _ (i6 (i:=1) rfl)) (by rw[show 0+(k:Int).toNat*16=k*16 from by omega];exact a0Y j8 16 (λ_=>rfl) l k x hx) rfl) ?_;refine J.vT (.bool (x==d)) rfl rfl (λhg aa w he hC=>(x5 (xs:=j8 d) (ys:=j8 x) rfl rfl rfl he rfl rfl E5 (B8 _) (B8 _) mkD gdD).trans (by rw[eqD _ _ hd hxl,b5q])) ?_;refine J.qd (λ_ h2=>?_) λ_ h2=>?_
  ·have hf:l.findIdx? (λx=>x==d)=some k:=by
    rw[List.findIdx?_eq_some_iff_getElem];obtain⟨g1,g2⟩:=List.getElem?_eq_some_iff.1 hx;refine⟨g1,by rw[g2];exact h2,λj hj=>?_⟩;have:=hno j hj _ (List.getElem?_eq_getElem (by omega));rw[this];exact Bool.false_ne_true
   refine J.qr [1] λ_=>?_;rw[hf];exact⟨rfl,rfl⟩
  ·refine J.q λ_=>?_;refine J.nS (k+1) (⟨by omega,λj hj y hy=>by
    rcases Nat.lt_or_ge j k with h | h
    ·exact hno j h y hy
    ·obtain rfl:j=k:=by omega
     rw[hx]at hy;injection hy with hy;rw[<- hy];exact h2⟩) (by omega) [0,1,2] rfl rfl
 simp only[decide_eq_false_iff_not,Int.ofNat_lt]at h1;have hf:l.findIdx? (λx=>x==d)=none:=by
  rw[List.findIdx?_eq_none_iff];intro x hx;obtain⟨j,hj⟩:=List.getElem?_of_mem hx;exact hno j (by have:=(List.getElem?_eq_some_iff.1 hj).1;omega) x hj
 refine J.qr [1] λ_=>?_;rw[hf];exact⟨rfl,rfl⟩
theorem b2W (l:List (List UInt8)) (d:List UInt8):decide ((match l.findIdx? (λx=>x==d)with | some k=>(k:Int) | none=> -1)>=0)=l.contains d:=by
 cases h:l.findIdx? (λx=>x==d)with
 | none=>
  rw[List.findIdx?_eq_none_iff]at h;have:l.contains d=false:=by
   rw[List.contains_eq_any_beq,List.any_eq_false];intro x hx e;have:=h x hx;rw[eq_of_beq e]at this;simp at this
  rw[this];rfl
 | some k=>
  rw[List.findIdx?_eq_some_iff_getElem]at h;obtain⟨h1,h2,_⟩:=h;have:l.contains d=true:=by
   rw[List.contains_eq_any_beq,List.any_eq_true];exact⟨_,List.getElem_mem h1,by rw[eq_of_beq h2];simp⟩
  rw[this,decide_eq_true (by dsimp only;omega)]
theorem b3T (a:Option Nat) (n c:Nat) (l:List (List UInt8)) (hl:l.length=n) (hn:n<=1000000) (d:List UInt8) (hd:d.length=16) (hs:∀x∈l,x.length=16):FP 98 [slv a n c,a7D d] [c9 30 16 a n c (x6 l)] (Ps (.bool (l.contains d)) [c9 30 16 a n c (x6 l)]):=by
 refine FE [0,0] Tryz.func98 λX F hX=>?_;refine J.qp (b1j a n c l hl hn d hd hs) [1] λ_=>?_;have hc:=b2W l d;refine J.qr [1] λ_=>?_;exact⟨by rw[<- hc],rfl⟩
theorem a5h {α:Type} (f:α->List Value) (w:Nat) (hw:∀x,(f x).length=w) (vs:List Value):∀{l:List α} {k:Nat} {x y:α},l[k]? =some x->vs.length<=w->vs++(f x).drop vs.length=f y->(l.flatMap f).take (k*w)++vs++(l.flatMap f).drop (k*w+vs.length)=(l.set k y).flatMap f
 | [],k,x,y,h,hj,e=>by simp at h
 | z::l,0,x,y,h,hj,e=>by
  simp only[List.getElem?_cons_zero,Option.some.injEq]at h;subst h;rw[Nat.zero_mul,Nat.zero_add,List.take_zero,List.nil_append,List.flatMap_cons,List.drop_append_of_le_length (by rw[hw];exact hj),<- List.append_assoc,e];rfl
 | z::l,k+1,x,y,h,hj,e=>by
  have ih:=a5h f w hw vs (l:=l) (k:=k) (x:=x) (y:=y) (by simpa using h) hj e;rw[List.flatMap_cons,show(k+1)*w=(f z).length+k*w from by rw[hw,Nat.succ_mul];omega,List.take_length_add_append,show(f z).length+k*w+vs.length=(f z).length+(k*w+vs.length)from by omega,List.drop_length_add_append,List.append_assoc,List.append_assoc,<- List.append_assoc (List.take _ _),ih];rfl
def MSl.Fine (z:MSl):Prop:=z.v.now.length=16/\(∀x∈z.v.may,x.length=16)/\(∀x∈z.v.ever,x.length=16)/\z.v.may.length<=1000/\z.v.ever.length<=1000
theorem a2T {α:Type} {l:List α} {k:Nat} {x:α} (h:l[k]? =some x):l.set k x=l:=by
 apply List.ext_getElem?;intro i;rw[List.getElem?_set];split
 ·rename_i e;subst e;split
  ·exact h.symm
  ·rename_i e2;rw[List.getElem?_eq_none (by omega)]
 ·rfl
theorem b3y (x d:List UInt8):decide (x=d)=(x==d):=by
 by_cases h:x=d
 ·rw[h];simp
 ·rw[decide_eq_false h,beq_eq_false_iff_ne.2 h]
theorem MSl.now_at {Z:List MSl} {k:Nat} {z:MSl} (hz:Z[k]? =some z):((Z.flatMap MSl.cells).drop (k*19+0)).take 16=j8 z.v.now:=by
 have h:=a0Y MSl.cells 19 (λ_=>rfl) Z k z hz;have h2:((Z.flatMap MSl.cells).drop (k*19)).take 16=(((Z.flatMap MSl.cells).drop (k*19)).take 19).take 16:=by rw[List.take_take];rfl
 rw[Nat.add_zero,h2,h];rfl
theorem a8k (q g:Nat) (Z:List MSl) (hn:Z.length<=65536) (hf:∀z∈Z,z.Fine) (i:Int) (d:List UInt8) (hd:d.length=16):FP 53 [pp q,iI i,a7D d] (a6t q g Z) (Ps (.bool (Mv.may (Z.map (·.v)) i d)) (a6t q g Z)):=by
 refine FE [2,0,0] Tryz.func53 λX F hX=>?_;refine J.qp (b5K q g Z.length hn i) [1] λ_=>?_
 by_cases hi:0<=i/\i<(Z.length:Int)
 ·have ha:Mv.adr Z.length g i=some ⟨g,i.toNat*19,none⟩:=by unfold Mv.adr;rw[if_pos hi]
  obtain⟨k,rfl⟩:=Int.eq_ofNat_of_zero_le hi.1;obtain⟨z,hz⟩:∃z,Z[k]? =some z:=⟨_,List.getElem?_eq_getElem (by omega)⟩;obtain⟨f1,f2,f3,f4,f5⟩:=hf z (List.mem_of_getElem? hz);have hin:Mv.inR (Z.map (·.v)) (k:Int)=true:=by unfold Mv.inR;rw[List.length_map,decide_eq_true hi.1,decide_eq_true hi.2];rfl
  have hpg:Mv.pg (Z.map (·.v)) (k:Int)=z.v:=by unfold Mv.pg;rw[Int.toNat_natCast,List.getD_eq_getElem?_getD,List.getElem?_map,hz];rfl
  have hmy:Mv.may (Z.map (·.v)) (k:Int) d=if z.v.op then z.v.may.contains d else z.v.now==d:=by unfold Mv.may;rw[hin,hpg,Bool.true_and]
  rw[ha,Int.toNat_natCast];refine J.qF λ_=>?_;have hcell:=λj hj=>T6 MSl.cells 19 MSl.cells_len hz j hj;refine J.qn 7 λ_=>?_;refine J.v (.bool z.v.op) rfl rfl (λhg aa w he hw=>i7 tk rfl rfl he rfl rfl rfl (hw.get (i:=2) rfl) (hcell 16 (by omega))) ?_;refine J.qd (λ_ h1=>?_) λ_ h1=>?_
  ·rw[if_pos h1]at hmy;refine J.openAt 3 k rfl rfl (by rw[List.getElem?_map,hz];rfl) rfl ?_;refine J.pn 3 (.of [0,4,8,13,17,23,24]) [5,6] [1,2,3,4,5,6] λ_ _=>?_;refine J.vT (slv z.a1 z.v.may.length z.c1) rfl rfl (λhg aa w he hC=>i7 tk rfl rfl he rfl rfl rfl (hC rfl _ (i6 (i:=2) rfl)) (hcell 17 (by omega))) ?_;refine J.qp (b3T z.a1 z.v.may.length z.c1 z.v.may rfl (by omega) d hd f2) [6] λ_=>?_;refine J.q λ_=>?_;refine J.closeAt (A:=z.m1) 3 6 k rfl rfl rfl ?_;have hsame:(Z.map MSl.m1).set k z.m1=Z.map MSl.m1:=a2T (by rw[List.getElem?_map,hz];rfl);rw[hsame];refine J.qr [1,2,3,4] λ_=>?_;rw[hmy];exact⟨rfl,rfl⟩
  ·rw[if_neg (by rw[h1];decide)]at hmy;refine J.pn 3 (.of [0,4,8,13,17,20,24]) [5,6] [1,2,3,4,5] λ_ _=>?_;refine J.vT (a7D z.v.now) rfl rfl (λhg aa w he hC=>j7 tk rfl rfl he rfl rfl rfl (hC rfl _ (i6 (i:=2) rfl)) (MSl.now_at hz) rfl) ?_;refine J.qn 1 λ_=>?_;refine J.vT (.bool (z.v.now==d)) rfl rfl (λhg aa w he hC=>(x5 (xs:=j8 z.v.now) (ys:=j8 d) rfl rfl rfl he rfl rfl E5 (B8 _) (B8 _) mkD gdD).trans (by rw[eqD _ _ f1 hd,b3y])) ?_;refine J.qr [1,2,3,4] λ_=>?_;rw[hmy];exact⟨rfl,rfl⟩
 ·have ha:Mv.adr Z.length g i=none:=by unfold Mv.adr;rw[if_neg hi]
  have hmy:Mv.may (Z.map (·.v)) i d=false:=by
   unfold Mv.may Mv.inR;rw[List.length_map];have:(decide (0<=i)&&decide (i<(Z.length:Int)))=false:=by simp;omega
   rw[this];rfl
  rw[ha];refine J.qT λ_=>?_;refine J.qr [1,2,3,4] λ_=>?_;rw[hmy];exact⟨rfl,rfl⟩

section
variable {P : Program} {ops : Array Oper}
theorem b1O {o:Oper} {x:Operand} (hx:o.op= .move x) {K:Act->World->Prop} {a:Act} {w:World} (h:sOp P ops o K a w):sOp P ops o (λa' w'=>K a' w'/\w'=w) a w:=by
 unfold sOp at*;split
 ·rename_i hw;rw[if_pos hw]at h;have e:execOp a.eval o=pure (.value (a.eval x)):=by unfold execOp;rw[hx]
  rw[e]at h ⊢;exact⟨h,rfl⟩
 ·rename_i hw;rw[if_neg hw]at h;exact⟨h,rfl⟩
theorem a1Q {lt mv:List Nat} (hmv:∀j∈mv,∀o,ops[j]? =some o->∃x,o.op= .move x) {C D:World->Prop} {K:Act->World->Prop} {i:Nat} {oi:Oper} {v:Value} (hi:ops[i]? =some oi) (hsel:∀(j:Nat) (o:Oper) cs b,ops[j]? =some o->o.op≠ .select cs b)
  (hD:(i∉lt/\(∀w,C w->D w)/\∀j∈lt,j∈mv\/R2 ops 3 j i=true)\/(i∈lt/\∀w,D w)):
  ∀(fuel:Nat) (listed:Array Bool) (a:Act) (w:World),Shut ops listed->
   (∀j oj,ops[j]? =some oj->j≠i->listed.getD j true=false->(∀e∈oj.after,Region.binds .any e=true->e.on≠i)->oi.apart ops oj=true)->
   i∈Region.ready .any ops listed->YldIn P ops D oi v a->D w->(i∉lt->C w)->
   sAny P ops lt C K fuel (listed.setIfInBounds i true) (a.put oi.dst v) w->sAny P ops lt C K (fuel+1) listed a w:=by
 intro fuel
 induction fuel with
 | zero=>
  intro listed a w _ _ hr hy hDw hC H;refine⟨λh=>(by rw[h]at hr;cases hr),λj hj=>?_⟩
  by_cases hji:j=i
  ·subst hji;exact⟨oi,hi,hy.sOp hDw ⟨hC,H⟩⟩
  ·have:=ready_mono hj hji;rw[H.1]at this;cases this
 | succ fuel ih=>
  intro listed a w hsh hfree hr hy hDw hC H;refine⟨λh=>(by rw[h]at hr;cases hr),λj hj=>?_⟩
  by_cases hji:j=i
  ·subst hji;exact⟨oi,hi,hy.sOp hDw ⟨hC,H⟩⟩
  ·obtain⟨oj,hoj,h1⟩:=H.2 j (ready_mono hj hji);obtain⟨hjun,oj',hoj',hall⟩:=mem_ready.1 hj;have:oj'=oj:=by rw[hoj]at hoj';injection hoj' with e;exact e.symm
   subst this;have hiun:listed.getD i false≠true:=λh1=>by
    have h0:=(mem_ready.1 hr).1;rcases Nat.lt_or_ge i listed.size with h' | h'
    ·simp[h']at h0 h1;rw[h0]at h1;cases h1
    ·simp[Array.getElem?_eq_none h']at h1
   have hnot:∀e∈oj'.after,Region.binds .any e=true->e.on≠i:=λe he hb heq=>hiun (heq▸hall e he hb);have h2:=a8S (hfree j oj' hoj hji hjun hnot) (λcs b=>hsel i oi cs b hi) (λcs b=>hsel j oj' cs b hoj) hy h1;have hfree':∀k ok,ops[k]? =some ok->k≠i->(listed.setIfInBounds j true).getD k true=false->
     (∀e∈ok.after,Region.binds .any e=true->e.on≠i)->oi.apart ops ok=true:=λk ok hk hki hun hno=>by
    refine hfree k ok hk hki ?_ hno
    by_cases hjk:j=k
    ·subst hjk;exact hjun
    ·rw[getD_set_ne true hjk]at hun;exact hun
   have h2':sOp P ops oj' (λa' w'=>(YldIn P ops D oi v a'/\(j∉lt->C w')/\sAny P ops lt C K fuel ((listed.setIfInBounds i true).setIfInBounds j true) (a'.put oi.dst v) w')/\(j∈mv->w'=w)) a w:=by
    by_cases hm:j∈mv
    ·obtain⟨x,hx⟩:=hmv j hm oj' hoj;exact(b1O hx h2).mono λ_ _ hh=>⟨hh.1,λ_=>hh.2⟩
    ·exact h2.mono λ_ _ hh=>⟨hh,λh=>absurd h hm⟩
   refine⟨oj',hoj,h2'.mono λa' w' ⟨⟨hy',hC',h3⟩,hww⟩=>⟨hC',?_⟩⟩;have hdc:D w'/\(i∉lt->C w'):=by
    rcases hD with⟨hil,hCD,hw⟩ | ⟨hil,hd⟩
    ·by_cases hm:j∈mv
     ·rw[hww hm];exact⟨hDw,hC⟩
     ·have hjl:j∉lt:=λh=>by
       rcases hw j h with h' | h'
       ·exact hm h'
       ·exact hiun (a0z hsh h' hj)
      exact⟨hCD _ (hC' hjl),λ_=>hC' hjl⟩
    ·exact⟨hd _,λh=>absurd hil h⟩
   refine ih (listed.setIfInBounds j true) a' w' (hsh.set hj) hfree' (ready_mono hr (Ne.symm hji)) hy' hdc.1 hdc.2 ?_;rw[Array.setIfInBounds_comm _ _ hji];exact h3
theorem PT.sound2 {lt mv:List Nat} {C:World->Prop} {K:Act->World->Prop} (hs:Region.noSelect ops=true) (hmv:∀j∈mv,∀o,ops[j]? =some o->∃x,o.op= .move x) (hlt:∀j∈lt,∀i,i<ops.size->i∉lt->j∈mv\/R2 ops 3 j i=true):∀(t:PT) (fl:Bool) (n:Nat) (listed:Array Bool) (a:Act) (w:World),Shut ops listed->t.ok ops lt fl n listed=true->(t.allLt lt=false->C w)->pT P ops C K t a w->
  (fl=false->sAny P ops lt C K n listed a w)/\(∀i∈t.heads,∃o,ops[i]? =some o/\∃m,n=m+1/\sOp P ops o (λa' w'=>(i∉lt->C w')/\sAny P ops lt C K m (listed.setIfInBounds i true) a' w') a w)
 | .done,fl,n,listed,a,w,hsh,h,hC,hp=>by
  cases fl with
  | true=>simp[PT.ok]at h
  | false=>exact⟨λ_=>a4B (by simpa[PT.ok]using h) hp n,by simp[PT.heads]⟩
 | .take p i t,fl,n,listed,a,w,hsh,h,hC,hp=>by
  cases fl with
  | true=>simp[PT.ok]at h
  | false=>
   cases n with
   | zero=>simp[PT.ok]at h
   | succ n=>
    simp only[PT.ok,Bool.and_eq_true]at h;obtain⟨⟨⟨hr,hf⟩,ht⟩,hp2⟩:=h;refine⟨λ_=>?_,by simp[PT.heads]⟩;obtain⟨o,v,hi,hy,hp⟩:=hp;have hisz:i<ops.size:=(Array.getElem?_eq_some_iff.1 hi).1
    by_cases hil:i∈lt
    ·have hpt:p=true:=by simpa[hil]using hp2
     subst hpt;refine a1Q hmv hi (Region.noSelect_spec hs) (.inr ⟨hil,λw h=>by cases h⟩) n listed a w hsh (Region.free_spec hi hf) (by simpa using hr) hy (λh=>by cases h) (λh=>absurd hil h) ((PT.sound2 hs hmv hlt t false n _ _ w (hsh.set (by simpa using hr)) ht (λhe=>hC ?_) hp).1 rfl);simp[PT.allLt,he]
    ·have hCw:C w:=hC (by simp[PT.allLt,hil]);exact a1Q hmv hi (Region.noSelect_spec hs) (.inl ⟨hil,λw h _=>h,λj hj=>hlt j hj i hisz hil⟩) n listed a w hsh (Region.free_spec hi hf) (by simpa using hr) hy (λ_=>hCw) (λ_=>hCw) ((PT.sound2 hs hmv hlt t false n _ _ w (hsh.set (by simpa using hr)) ht (λ_=>hCw) hp).1 rfl)
 | .alt l i t m,fl,n,listed,a,w,hsh,h,hC,hp=>by
  cases n with
  | zero=>simp[PT.ok]at h
  | succ n=>
   simp only[PT.ok,Bool.and_eq_true]at h;obtain⟨⟨⟨⟨⟨ht,hm⟩,hall⟩,hl⟩,hlate⟩,hrd⟩:=h;obtain⟨⟨o,hi,hp⟩,hpm⟩:=hp;have hl':l=true↔i∈lt:=by
    have:=eq_of_beq hl;rw[<- this];simp
   have hmm:=(PT.sound2 hs hmv hlt m true (n+1) listed a w hsh hm (λhe=>hC (by simp[PT.allLt,he])) hpm).2;have hheads:∀j∈PT.heads (.alt l i t m),∃o,ops[j]? =some o/\∃m,n+1=m+1/\sOp P ops o (λa' w'=>(j∉lt->C w')/\sAny P ops lt C K m (listed.setIfInBounds j true) a' w') a w:=by
    intro j hj;rcases List.mem_cons.1 hj with rfl | hj
    ·refine⟨o,hi,n,rfl,hp.mono λa' w' hh=>⟨λhn=>hh.1 ?_,(PT.sound2 hs hmv hlt t false n _ a' w' (hsh.set (by simpa using hrd)) ht (λhe=>hh.1 ?_) hh.2).1 rfl⟩⟩
     ·cases l with
      | false=>rfl
      | true=>exact absurd (hl'.1 rfl) hn
     ·cases l with
      | false=>rfl
      | true=>simp only[Bool.not_true,Bool.false_or]at hlate;rw[hlate]at he;cases he
    ·exact hmm j hj
   refine⟨λhfl=>?_,hheads⟩;subst hfl;simp only[Bool.false_or,Bool.and_eq_true,List.all_eq_true]at hall;refine⟨λh0=>absurd hall.1 (by simp[h0]),λj hj=>?_⟩;obtain⟨o,h1,m',h2,h3⟩:=hheads j (by simpa using hall.2 j hj);have:m'=n:=by omega
   subst this;exact⟨o,h1,h3⟩
 | .non,fl,n,listed,a,w,hsh,h,hC,hp=>by
  cases fl with
  | true=>exact⟨(λh=>by cases h),by simp[PT.heads]⟩
  | false=>simp[PT.ok]at h
end
def b2S (o:Oper):Bool:=match o.op with
 | .move _=>true
 | _=>false
def PT.good2 (ops:Array Oper) (lt mv:List Nat) (t:PT):Bool:=Region.noSelect ops&&(mv.all λj=>(ops[j]?.map b2S).getD true)&&lt.all (λj=>mv.contains j||(List.range ops.size).all λi=>lt.contains i||R2 ops 3 j i)&&t.ok ops lt false ops.size (Array.replicate ops.size false)
theorem a2m {P:Program} {id:Nat} {ops:Array Oper} {C:World->Prop} {Q:Exit->Act->World->Prop} {a:Act} {w:World} (hm:P.follows .mixedOrders=true) (t:PT) (lt mv:List Nat) (ht:t.good2 ops lt mv=true) (hC:C {w with drawn:=w.drawn+1})
  (h:pT P ops C (Q .normal) t a {w with drawn:=w.drawn+1}):(Code.region id ops true).wp P Q a w:=by
 simp only[PT.good2,Bool.and_eq_true,List.all_eq_true,List.mem_range]at ht;obtain⟨⟨⟨h1,h0⟩,h2⟩,h3⟩:=ht;refine wp_region_any hm (sAny.wpAny (λ_ _ h=>h) _ _ _ _ ((PT.sound2 h1 (lt:=lt) (mv:=mv) (λj hj o ho=>?_) (λj hj i hi hn=>?_) t false _ _ a _ (Shut.none _) h3 (λ_=>hC) h).1 rfl))
 ·have:=h0 j hj;rw[ho]at this;simp only[Option.map_some,Option.getD_some]at this;unfold b2S at this;split at this
  ·exact⟨_,by assumption⟩
  ·cases this
 ·have:=h2 j hj;rcases Bool.or_eq_true_iff.1 this with h | h
  ·exact .inl (by simpa using h)
  ·rw[List.all_eq_true]at h;have:=h i (List.mem_range.2 hi);exact .inr (by simpa[hn]using this)
theorem J.plan2 {X:Cx} {K:List KI} {E:Env} {L:List Atom} {id:Nat} {ops:Array Oper} (t:PT) (lt mv ro:List Nat) (hm:X.P.follows .mixedOrders=true) (ht:t.good2 ops lt mv=true) (h:J X (.reg ops (snap L ro) t::K) E L):J X (.code (.region id ops true)::K) E L:=
 λa w hx he hs=>a2m hm t lt mv ht (CAt.snap (w:={w with drawn:=w.drawn+1}) hs ro) (h a _ hx.drew he hs)
theorem I5 (l:List (List UInt8)) (d:List UInt8):x6 l++j8 d=x6 (l++[d]):=by unfold x6;rw[List.flatMap_append];simp
theorem MSl.put17 (d:List UInt8) (o:Bool) (A B:List (List UInt8)) (a1:Option Nat) (c1:Nat) (a2:Option Nat) (c2:Nat) (x:Option Nat×Nat):(MSl.cells ⟨⟨d,o,A,B⟩,a1,c1,a2,c2⟩).set 17 (slv x.1 (A.length+1) x.2)=MSl.cells ⟨⟨d,o,A++[d],B⟩,x.1,x.2,a2,c2⟩:=by
 unfold MSl.cells;dsimp only;rw[List.length_append];rfl
theorem MSl.put18 (d:List UInt8) (o:Bool) (A B:List (List UInt8)) (a1:Option Nat) (c1:Nat) (a2:Option Nat) (c2:Nat) (x:Option Nat×Nat):(MSl.cells ⟨⟨d,o,A,B⟩,a1,c1,a2,c2⟩).set 18 (slv x.1 (B.length+1) x.2)=MSl.cells ⟨⟨d,o,A,B++[d]⟩,a1,c1,x.1,x.2⟩:=by
 unfold MSl.cells;dsimp only;rw[List.length_append];rfl
theorem b2v (q g:Nat) (Z:List MSl) (hn:Z.length<=65536) (hf:∀z∈Z,z.Fine) (i:Int) (d:List UInt8) (hd:d.length=16):FP 48 [pp q,iI i,a7D d] (a6t q g Z) (λv As=>∃Z',v= .bool (Mv.inR (Z.map (·.v)) i)/\As=a6t q g Z'/\Z'.map (·.v)=Mv.write (Z.map (·.v)) i d):=by
 refine FE [2,0,0] Tryz.func48 λX F hX=>?_;refine J.qp (b5K q g Z.length hn i) [1] λ_=>?_
 by_cases hi:0<=i/\i<(Z.length:Int)
 ·have ha:Mv.adr Z.length g i=some ⟨g,i.toNat*19,none⟩:=by unfold Mv.adr;rw[if_pos hi]
  obtain⟨k,rfl⟩:=Int.eq_ofNat_of_zero_le hi.1;obtain⟨z,hz⟩:∃z,Z[k]? =some z:=⟨_,List.getElem?_eq_getElem (by omega)⟩;obtain⟨f1,f2,f3,f4,f5⟩:=hf z (List.mem_of_getElem? hz);have hin:Mv.inR (Z.map (·.v)) (k:Int)=true:=by unfold Mv.inR;rw[List.length_map,decide_eq_true hi.1,decide_eq_true hi.2];rfl
  rw[ha,Int.toNat_natCast];refine J.qF λ_=>?_;refine J.openAt 3 k rfl rfl (by rw[List.getElem?_map,hz];rfl) rfl ?_;refine J.openAt 4 k rfl rfl (by rw[List.getElem?_map,hz];rfl) rfl ?_;have hl1:k*19+19<=(Z.flatMap MSl.cells).length:=by rw[MSl.flat_len];omega
  have B2:∀y:MSl,(Z.set k y)[k]? =some y:=λy=>by rw[List.getElem?_set,if_pos rfl,if_pos (by omega)]
  refine J.qn 8 λ_=>?_;have hst:((Z.flatMap MSl.cells).take (k*19)++j8 d++(Z.flatMap MSl.cells).drop (k*19+(j8 d).length))=(Z.set k ⟨⟨d,z.v.op,z.v.may,z.v.ever⟩,z.a1,z.c1,z.a2,z.c2⟩).flatMap MSl.cells:=a5h MSl.cells 19 MSl.cells_len (j8 d) hz (by show 16<=19;omega) (y:=⟨⟨d,z.v.op,z.v.may,z.v.ever⟩,z.a1,z.c1,z.a2,z.c2⟩) rfl;refine J.sN (j8 d) 2 ((Z.set k ⟨⟨d,z.v.op,z.v.may,z.v.ever⟩,z.a1,z.c1,z.a2,z.c2⟩).flatMap MSl.cells) ?_ ?_ ?_
  ·show k*19+0+16<=_;omega
  ·rw[Nat.add_zero];exact hst
  refine J.qn 3 λ_=>?_;refine J.s1 2 ((Z.set k ⟨⟨d,false,z.v.may,z.v.ever⟩,z.a1,z.c1,z.a2,z.c2⟩).flatMap MSl.cells) ?_ ?_ ?_
  ·rw[MSl.flat_len,List.length_set,<- MSl.flat_len];omega
  ·exact(x7 MSl.cells 19 MSl.cells_len 16 (y:=⟨⟨d,false,z.v.may,z.v.ever⟩,z.a1,z.c1,z.a2,z.c2⟩) _ (B2 ⟨⟨d,z.v.op,z.v.may,z.v.ever⟩,z.a1,z.c1,z.a2,z.c2⟩) (by omega) rfl).trans (by rw[List.set_set];all_goals rfl)
  refine J.q λ_=>?_;refine J.plan2 (.take true 0 (.take true 1 (.take true 2 (.take true 3 (.take true 4 (.take false 5 (.take false 6 (.take true 9 (.take true 10 (.take true 11 (.take false 12 (.take false 13 (.alt false 7 ((.alt false 8 ((.of [58,62,64,68,75,76,80,87])) (.alt false 14 ((.of [34,62,64,68,75,76,80,87])) .non))) (.alt false 14 ((.of [30,34,62,64,68,75,76,80,87])) .non)))))))))))))) [1,16,17,18,19,20,21] [1] [1,2,3,4,5] (by rw[hX.hP];kernel_rfl) (by kernel_rfl) ?_;have hcell:=λj hj=>T6 MSl.cells 19 MSl.cells_len (B2 ⟨⟨d,false,z.v.may,z.v.ever⟩,z.a1,z.c1,z.a2,z.c2⟩) j hj;refine J.qn 6 λ_=>?_;refine J.vT (slv z.a1 z.v.may.length z.c1) rfl rfl (λhg aa w he hC=>i7 tk rfl rfl he rfl rfl rfl (hC rfl _ (i6 (i:=2) rfl)) (hcell 17 (by omega))) ?_;refine J.qn 4 λ_=>?_;refine J.vT (slv z.a2 z.v.ever.length z.c2) rfl rfl (λhg aa w he hC=>i7 tk rfl rfl he rfl rfl rfl (hC rfl _ (i6 (i:=2) rfl)) (hcell 18 (by omega))) ?_;refine J.qn 1 λ_=>?_;refine J.join (α:=(Option Nat×Nat)×(Option Nat×Nat)) (λ_=>[sv 6 (.bool false)]) (λx=>[.hp F, .pt q 168 [.slice (some ⟨g,0,none⟩) Z.length Z.length], .pt g 170 ((Z.set k ⟨⟨d,false,z.v.may++[d],z.v.ever++[d]⟩,x.1.1,x.1.2,x.2.1,x.2.2⟩).flatMap MSl.cells), .hp (HP.of ((Z.map MSl.m1).set k .emp)), .hp (HP.of ((Z.map MSl.m2).set k .emp)),c9 30 16 x.1.1 (z.v.may.length+1) x.1.2 (x6 (z.v.may++[d])),c9 30 16 x.2.1 (z.v.ever.length+1) x.2.2 (x6 (z.v.ever++[d]))]) (λhj=>?_) (λx=>?_)
  ·refine J.alts ?_ ?_
   ·skip
    refine J.qn 1 λbb=>?_;refine J.alts ?_ ?_
    ·skip
     refine J.ap 6 8 0 (I5 z.v.may d) λa3 c3=>?_;refine J.qn 1 λbc=>?_;refine J.ap 7 9 0 (I5 z.v.ever d) λa4 c4=>?_;refine J.qn 2 λ_=>?_;refine J.s1 2 ((Z.set k ⟨⟨d,false,z.v.may++[d],z.v.ever⟩,a3,c3,z.a2,z.c2⟩).flatMap MSl.cells) ?_ ?_ ?_
     ·rw[MSl.flat_len,List.length_set,<- MSl.flat_len];omega
     ·exact(x7 MSl.cells 19 MSl.cells_len 17 (y:=⟨⟨d,false,z.v.may++[d],z.v.ever⟩,a3,c3,z.a2,z.c2⟩) _ (B2 ⟨⟨d,false,z.v.may,z.v.ever⟩,z.a1,z.c1,z.a2,z.c2⟩) (by omega) (MSl.put17 _ _ _ _ _ _ _ _ (a3,c3))).trans (by rw[List.set_set];all_goals rfl)
     refine J.qn 2 λ_=>?_;refine J.s1 2 ((Z.set k ⟨⟨d,false,z.v.may++[d],z.v.ever++[d]⟩,a3,c3,a4,c4⟩).flatMap MSl.cells) ?_ ?_ ?_
     ·rw[MSl.flat_len,List.length_set,<- MSl.flat_len];omega
     ·exact(x7 MSl.cells 19 MSl.cells_len 18 (y:=⟨⟨d,false,z.v.may++[d],z.v.ever++[d]⟩,a3,c3,a4,c4⟩) _ (B2 ⟨⟨d,false,z.v.may++[d],z.v.ever⟩,a3,c3,z.a2,z.c2⟩) (by omega) (MSl.put18 _ _ _ _ _ _ _ _ (a4,c4))).trans (by rw[List.set_set];all_goals rfl)
     exact J.goto [0,1,2,3,4,6,7] (hj ((a3,c3),(a4,c4))) ⟨rfl,trivial⟩ rfl rfl
    ·skip
     refine J.qn 1 λbc=>?_;refine J.ap 6 8 0 (I5 z.v.may d) λa3 c3=>?_;refine J.ap 7 9 0 (I5 z.v.ever d) λa4 c4=>?_;refine J.qn 2 λ_=>?_;refine J.s1 2 ((Z.set k ⟨⟨d,false,z.v.may++[d],z.v.ever⟩,a3,c3,z.a2,z.c2⟩).flatMap MSl.cells) ?_ ?_ ?_
     ·rw[MSl.flat_len,List.length_set,<- MSl.flat_len];omega
     ·exact(x7 MSl.cells 19 MSl.cells_len 17 (y:=⟨⟨d,false,z.v.may++[d],z.v.ever⟩,a3,c3,z.a2,z.c2⟩) _ (B2 ⟨⟨d,false,z.v.may,z.v.ever⟩,z.a1,z.c1,z.a2,z.c2⟩) (by omega) (MSl.put17 _ _ _ _ _ _ _ _ (a3,c3))).trans (by rw[List.set_set];all_goals rfl)
     refine J.qn 2 λ_=>?_;refine J.s1 2 ((Z.set k ⟨⟨d,false,z.v.may++[d],z.v.ever++[d]⟩,a3,c3,a4,c4⟩).flatMap MSl.cells) ?_ ?_ ?_
     ·rw[MSl.flat_len,List.length_set,<- MSl.flat_len];omega
     ·exact(x7 MSl.cells 19 MSl.cells_len 18 (y:=⟨⟨d,false,z.v.may++[d],z.v.ever++[d]⟩,a3,c3,a4,c4⟩) _ (B2 ⟨⟨d,false,z.v.may++[d],z.v.ever⟩,a3,c3,z.a2,z.c2⟩) (by omega) (MSl.put18 _ _ _ _ _ _ _ _ (a4,c4))).trans (by rw[List.set_set];all_goals rfl)
     exact J.goto [0,1,2,3,4,6,7] (hj ((a3,c3),(a4,c4))) ⟨rfl,trivial⟩ rfl rfl
   ·skip
    refine J.qn 2 λbb=>?_;refine J.ap 6 9 0 (I5 z.v.may d) λa3 c3=>?_;refine J.ap 7 8 0 (I5 z.v.ever d) λa4 c4=>?_;refine J.qn 2 λ_=>?_;refine J.s1 2 ((Z.set k ⟨⟨d,false,z.v.may++[d],z.v.ever⟩,a3,c3,z.a2,z.c2⟩).flatMap MSl.cells) ?_ ?_ ?_
    ·rw[MSl.flat_len,List.length_set,<- MSl.flat_len];omega
    ·exact(x7 MSl.cells 19 MSl.cells_len 17 (y:=⟨⟨d,false,z.v.may++[d],z.v.ever⟩,a3,c3,z.a2,z.c2⟩) _ (B2 ⟨⟨d,false,z.v.may,z.v.ever⟩,z.a1,z.c1,z.a2,z.c2⟩) (by omega) (MSl.put17 _ _ _ _ _ _ _ _ (a3,c3))).trans (by rw[List.set_set];all_goals rfl)
    refine J.qn 2 λ_=>?_;refine J.s1 2 ((Z.set k ⟨⟨d,false,z.v.may++[d],z.v.ever++[d]⟩,a3,c3,a4,c4⟩).flatMap MSl.cells) ?_ ?_ ?_
    ·rw[MSl.flat_len,List.length_set,<- MSl.flat_len];omega
    ·exact(x7 MSl.cells 19 MSl.cells_len 18 (y:=⟨⟨d,false,z.v.may++[d],z.v.ever++[d]⟩,a3,c3,a4,c4⟩) _ (B2 ⟨⟨d,false,z.v.may++[d],z.v.ever⟩,a3,c3,z.a2,z.c2⟩) (by omega) (MSl.put18 _ _ _ _ _ _ _ _ (a4,c4))).trans (by rw[List.set_set];all_goals rfl)
    exact J.goto [0,1,2,3,4,6,7] (hj ((a3,c3),(a4,c4))) ⟨rfl,trivial⟩ rfl rfl
  obtain⟨⟨a3,c3⟩,a4,c4⟩:=x;dsimp only;obtain⟨y,hy⟩:∃y:MSl,y=⟨⟨d,false,z.v.may++[d],z.v.ever++[d]⟩,a3,c3,a4,c4⟩:=⟨_,rfl⟩;rw[<- hy,show c9 30 16 a3 (z.v.may.length+1) c3 (x6 (z.v.may++[d]))=y.m1 from by rw[hy];unfold MSl.m1;rw[List.length_append];rfl,show c9 30 16 a4 (z.v.ever.length+1) c4 (x6 (z.v.ever++[d]))=y.m2 from by rw[hy];unfold MSl.m2;rw[List.length_append];rfl];refine J.closeAt (A:=y.m1) 3 5 k rfl rfl rfl ?_;refine J.closeAt (A:=y.m2) 4 6 k rfl rfl rfl ?_;rw[<- List.map_set,<- List.map_set];refine J.qr [1,2,3,4] λ_=>?_;refine⟨Z.set k y,?_,?_,?_⟩
  ·rw[hin]
  ·unfold a6t;rw[List.length_set];rfl
  ·have hpg:Mv.pg (Z.map (·.v)) (k:Int)=z.v:=by unfold Mv.pg;rw[Int.toNat_natCast,List.getD_eq_getElem?_getD,List.getElem?_map,hz];rfl
   unfold Mv.write;rw[hin,if_pos rfl,hpg,List.map_set,Int.toNat_natCast,hy];rfl
 ·have ha:Mv.adr Z.length g i=none:=by unfold Mv.adr;rw[if_neg hi]
  have hin:Mv.inR (Z.map (·.v)) i=false:=by
   unfold Mv.inR;rw[List.length_map];simp;omega
  rw[ha];refine J.qT λ_=>?_;refine J.qr [1,2,3,4] λ_=>?_;exact⟨Z,by rw[hin],rfl,by unfold Mv.write;rw[hin];rfl⟩
end Go.Proofs.YtnffkcabeecopaaGreat
