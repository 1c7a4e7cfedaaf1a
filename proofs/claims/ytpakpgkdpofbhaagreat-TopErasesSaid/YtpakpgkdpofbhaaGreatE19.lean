/- Helpers. No condition. -/
import Derived.Test.YtpakpgkdpofbhaaGreatE20
import Derived.Test.YtpakpgkdpofbhaaGreatE00
import Derived.Test.YtpakpgkdpofbhaaGreatE04
import Derived.Test.YtpakpgkdpofbhaaGreatE11
import Derived.Test.YtpakpgkdpofbhaaGreatE12
import Derived.Test.YtpakpgkdpofbhaaGreatE14
import Derived.Test.YtpakpgkdpofbhaaGreatE15
import Derived.Test.YtpakpgkdpofbhaaGreatE16
import Derived.Test.YtpakpgkdpofbhaaGreatE18
import Derived.Test.YtpakpgkdpofbhaaGreatRows
import Derived.JoinedOf
set_option maxRecDepth 20000
set_option linter.all false
namespace Go.Proofs.YtpakpgkdpofbhaaGreat
open Go Go.RowKit
theorem b6f {T:Tb} {e:En} {b r s m:Int} {i:Int} {a:AtV} (h:Tb.look T.at_ i=some a):∃a',Tb.look (T.put e b r s m).at_ i=some a':=by
 unfold Tb.put;split
 ·show∃a',Tb.look (Tb.put1 T.at_ e.lpn _) i=some a';rw[Tb.look_put1];split
  ·exact⟨_,rfl⟩
  ·exact⟨a,h⟩
 ·exact⟨a,h⟩
theorem a8M {T:Tb} {b r m:Int} {es:List En} {i:Int} {a:AtV} (h:Tb.look T.at_ i=some a):∀n,∃a',Tb.look (Dv.puts T b r m es n).at_ i=some a'
 | 0=>⟨a,h⟩
 | n+1=>by
  obtain⟨a',h'⟩:=a8M h n;rw[Dv.puts_succ];exact b6f h'
namespace Dv
theorem write_keys {l:List En} {i:Int}:∀(f:Nat) (S:Dv) (a:AtV),S.t.Fit S.N->Tb.look S.T.at_ i=some a->∃a',Tb.look (write f S l).1.T.at_ i=some a'
 | 0,S,a,_,h=>⟨a,h⟩
 | f+1,S,a,hF,h=>by
  rw[write_succ];have ha:=at1_like S;have h1:Tb.look S.at1.T.at_ i=some a:=by rw[ha.2.1];exact h
  split
  ·exact⟨a,h⟩
  split
  ·exact⟨a,h⟩
  split
  ·exact⟨a,h1⟩
  split
  ·exact⟨a,h1⟩
  split
  ·exact a8M h1 _
  split
  ·exact⟨a,h1⟩
  ·have hF1:S.at1.t.Fit S.at1.N:=by
    unfold at1;split
    ·exact hF
    ·exact hF.clean _ _
   have ht:(S.at1.wrote l).t.Fit (S.at1.wrote l).N:=hF1.like (S.at1.wr_like l);obtain⟨e1,e2,_,_,_,e6,_⟩:=loses_same (S.at1.wrote l) (S.at1.wr l).2.1 ht;exact write_keys f _ a (by rw[e1];exact e6) (by rw[e2];exact h1)
theorem pen_keys {S:Dv} {l:List En} {i:Int} {a:AtV} (hF:S.t.Fit S.N) (h:Tb.look S.T.at_ i=some a):∃a',Tb.look (S.pen l).1.T.at_ i=some a':=write_keys fuel S a hF h
end Dv
theorem b4C (T:Tb) (b:Int):(T.ins b).Nodup:=by
 unfold Tb.ins;split
 ·exact a0X
 ·unfold Tb.inK;exact List.pairwise_map.2 ((List.nodup_range.filter _).imp λhne e=>hne (by omega))
structure Cls (P:Dv->Prop) (Q:List En->Prop):Prop where
 pen:∀(S:Dv) (l:List En) (k m:Nat),S.Ok (8*Dv.fuel+k) m->P S->Q l->P (S.pen l).1
 clear:∀(S:Dv) (k m:Nat),S.Ok (96+k) m->P S->P S.clear.1
 rds:∀(S:Dv) (I:List Int) (k m:Nat),S.Ok k m->P S->(∀i∈I,∃a,Tb.look S.T.at_ i=some a)->I.Nodup->(S.rds I).2=0->Q (S.rds I).1
 dat:∀l,Q l->∀s∈l,s.data.length=16
 sub:∀l l':List En,Q l->l'.Sublist l->Q l'
namespace Cls
variable {P : Dv → Prop} {Q : List En → Prop} {m : Nat}
theorem carryGo (c:Cls P Q):∀(f:Nat) (S:Dv) (I:List Int) (d:Int) (k:Nat),S.Ok (Dv.cost*f+k) m->P S->(∀i∈I,∃a,Tb.look S.T.at_ i=some a)->I.Nodup->P (Dv.carryGo f S I d).1
 | 0,S,I,d,k,_,h,_,_=>h
 | f+1,S,I,d,k,hO,h,hI,hn=>by
  rw[Dv.carryGo];dsimp only;have hs:S.Ok (8*Dv.fuel+(Dv.cost*f+k)) m:=hO.less (by unfold Dv.cost;rw[E9];omega);split
  ·exact h
  split
  ·exact h
  rename_i h0;have hq:=c.rds S (I.take (max S.slots 1).toNat) _ m hs h (λi hi=>hI i (D7 hi)) (hn.sublist (a2s _ _)) (Decidable.of_not_not h0);have hp:=c.pen S _ _ m hs h hq;have hk:=Dv.pen_keep hs (c.dat _ hq);split
  ·exact hp
  ·refine carryGo c f _ _ _ k hk.1 hp (λi hi=>?_) (hn.sublist (a6r _ _));obtain⟨a,ha⟩:=hI i (O1 hi);exact Dv.pen_keys hs.t ha
theorem carry (c:Cls P Q) {S:Dv} {k:Nat} (hO:S.Ok (Dv.costC+k) m) (h:P S) (b most:Int):P (S.carry b most).1:=by
 unfold Dv.carry;dsimp only;have h1:=Dv.ins_le hO b;have h2:=Dv.take_le (S.T.ins b) (max most 0).toNat
 have h3:Dv.cost*((S.T.ins b).take (max most 0).toNat).length<=Dv.costC:=x5 _ (by omega);refine c.carryGo _ S _ 0 k (hO.less (by omega)) h (λi hi=>?_) ((b4C _ _).sublist (a2s _ _));obtain⟨a,ha,_⟩:=b2B (D7 hi);exact⟨a,ha⟩
theorem roomGo (c:Cls P Q):∀(f:Nat) (S:Dv) (k:Nat),S.Ok (Dv.costR*f+k) m->P S->P (Dv.roomGo f S).1
 | 0,S,k,_,h=>h
 | f+1,S,k,hO,h=>by
  rw[Dv.roomGo];split
  ·exact h
  split
  ·exact h
  dsimp only;have hO1:S.Ok (Dv.costC+(96+(Dv.costR*f+k))) m:=hO.less (by unfold Dv.costR;rw[E9];omega);have hc:=Dv.carry_keep hO1 S.victim (S.T.count S.victim);have hp:=c.carry hO1 h S.victim (S.T.count S.victim);split
  ·exact hp
  have hd:=Dv.clear_keep hc.1;have hq:=c.clear _ _ m hc.1 hp;split
  ·exact hq
  ·exact roomGo c f _ k hd.1 hq
theorem room (c:Cls P Q) {S:Dv} {k:Nat} (hO:S.Ok (Dv.costM+k) m) (h:P S):P S.room.1:=by
 have hb:=hO.gd.ok.bd16;have htb:=hO.t.b;have hO1:S.Ok (96+(Dv.costR*16+k)) m:=hO.less (by unfold Dv.costM;omega);have hq:=c.clear S _ m hO1 h;have hd:=Dv.clear_keep hO1;unfold Dv.room;split
 ·exact hq
 ·have h1:Dv.costR*S.t.b<=Dv.costR*16:=x5 _ (by omega);exact c.roomGo _ _ k (hd.1.less (by omega)) hq
theorem writes (c:Cls P Q) {F:Fv} {k:Nat} (hO:F.S.Ok (Dv.costM+(8*Dv.fuel+k)) m) (h:P F.S) (hl:Q F.L):P F.writes.1.S:=by
 have hr:=Dv.room_keep hO;have hp:=c.room hO h;unfold Fv.writes;dsimp only;split
 ·exact hp
 ·exact c.pen _ F.L _ m hr.1 hp hl
theorem waits (c:Cls P Q) {F:Fv} {k:Nat} (hO:F.S.Ok (Dv.costM+(8*Dv.fuel+k)) m) (h:P F.S) (hl:Q F.L) (e:En):P (F.waits e).1.S:=by
 unfold Fv.waits;split
 ·exact h
 split
 ·exact h
 split
 ·dsimp only;have:=c.writes (F:=F.ask) hO h hl;split
  ·exact this
  ·exact this
 ·exact h
theorem writesL (F:Fv):F.writes.1.L.Sublist F.L:=by
 unfold Fv.writes;dsimp only;split
 ·exact a6s _
 ·show(Z6 F.L _).Sublist F.L;unfold Z6;exact a4h
theorem flushGo (c:Cls P Q):∀(f:Nat) (F:Fv) (k:Nat),F.S.Ok ((Dv.costM+8*Dv.fuel)*f+k) m->P F.S->Q F.L->P (Fv.flushGo f F).1.S
 | 0,F,k,_,h,_=>h
 | f+1,F,k,hO,h,hl=>by
  rw[Fv.flushGo];split
  ·exact h
  dsimp only;have hO1:F.S.Ok (Dv.costM+(8*Dv.fuel+((Dv.costM+8*Dv.fuel)*f+k))) m:=hO.less (by rw[E9];omega);have hw:=c.writes hO1 h hl;have hk:F.writes.1.S.Ok ((Dv.costM+8*Dv.fuel)*f+k) m:=by
   have hr:=Dv.room_keep hO1;unfold Fv.writes;dsimp only;split
   ·exact hr.1.less (by omega)
   ·exact(Dv.pen_keep hr.1 (c.dat _ hl)).1
  split
  ·exact hw
  ·exact flushGo c f _ k hk hw (c.sub _ _ hl (writesL F))
end Cls
def Nf (fd:Int) (S:Dv):Prop:=NoF S\/Ers fd S
def c1O (q:Int->AtV->Prop) (S:Dv):Prop:=∀i a,Tb.look S.T.at_ i=some a->q i a\/∃l,Full (-1) S.N a.block a.row a.mask l
theorem b1V {fd:Int} {S:Dv} {l:List En} (hI:Inv fd S) (hl:S.left=true) (hR:RowIs S.N S.op S.row S.mask (S.es l)) (hno:∀d:Nat,L.has S.mask (d:Nat)=true->S.N.failB S.op S.row d=false):Full (-1) (S.wrote l).N S.op S.row S.mask (S.es l):=by
 have ho:=hI.opn hl;have hrdy:RdyW S.N S.op S.row S.mask:=⟨hI.lit,λd hd ha=>(ho.cells d hd).2 ha⟩;have hq:=hrdy.rdy hR;have w:WroteR S.N (S.wrote l).N S.op S.row (R.job S.op S.row S.mask (S.es l)):=(a2v hrdy hR).2.2;have hpage:∀x∈R.job S.op S.row S.mask (S.es l),(S.wrote l).N.pageAt x.1 S.op S.row=some ⟨U9 x.2,false,false⟩:=λx hx=>by
  obtain⟨n1,n2,n3⟩:=hR.inn x hx;obtain⟨d,hd⟩:=i6 n1;have hf:=hno d (by rw[<- hd];exact n3);rw[<- hd]at hf;unfold Nand.failB at hf;rw[E8]at hf;have hc:=w.cells x hx;rw[hf.1,g7 (by decide),hf.2]at hc;have hlen:=hq.cells x hx hf.1;have hrow:=hR.row;unfold Nand.pageAt;rw[hc,B8 (by omega),show S.row.toNat-(S.N.blk x.1.toNat S.op.toNat).cells.length=0 from by omega];rfl
 exact⟨hR.like w.like,λx hx _=>⟨false,hpage x hx⟩,λx hx c hc=>by
  rw[hpage x hx]at hc;injection hc with hc;rw[<- hc];exact .inr (.inl rfl)⟩
namespace Nf
variable {fd : Int} {S : Dv} {k m : Nat} {l : List En}
theorem nofail (h:Nf fd S) (hI:Inv fd S) (hl:S.left=true) {d:Nat} (hd:L.has S.mask (d:Nat)=true):S.N.failB S.op S.row d=false:=by
 rcases h with h | h
 ·exact h.fails _ _ _
 ·exact h.nofail hI hl hd
theorem at1 (h:Nf fd S) (hI:Inv fd S) (hO:S.Ok k m) (h0:¬(S.left=false/\S.pick<0)):Nf fd S.at1:=by
 rcases h with h | h
 ·have hat:=Dv.at1_like S;exact .inl ⟨λi=>by rw[hat.1];exact h.dead i,by rw[hat.1];exact h.plan,λi j=>by rw[hat.1];exact h.met i j,λi j=>by rw[hat.1];exact h.fl i j⟩
 ·exact .inr (h.at1 hI hO h0)
theorem wrote (h:Nf fd S) (hI:Inv fd S) (hl:S.left=true) (hR:RowIs S.N S.op S.row S.mask (S.es l)) (T:Tb):Nf fd {S.wrote l with T:=T}:=by
 rcases h with h | h
 ·have ho:=hI.opn hl;have hrdy:RdyW S.N S.op S.row S.mask:=⟨hI.lit,λd hd ha=>(ho.cells d hd).2 ha⟩;have w:WroteR S.N (S.wrote l).N S.op S.row (R.job S.op S.row S.mask (S.es l)):=(a2v hrdy hR).2.2;exact .inl ⟨λi=>by show(S.wrote l).N.dead.getD i false=false;rw[w.dead];exact h.dead i,List.eq_nil_iff_forall_not_mem.2 λa ha=>(by have:=w.plan a ha;rw[h.plan]at this;cases this),λi j=>(w.flags i j).1.trans (h.met i j),λi j=>(w.flags i j).2.1.trans (h.fl i j)⟩
 ·exact .inr ((h.wrote hI hl hR).tab T)
theorem cleared (h:Nf fd S) (hI:Inv fd S) (hO:S.Ok k m):Nf fd S.clear.1:=by
 obtain⟨N',t',c1,c2⟩:=hI.clear_spec hO;rw[c1];rcases h with h | h
 ·have hn:=c2.nofl ⟨h.dead,h.fl⟩;exact .inl ⟨hn.1.1,List.eq_nil_iff_forall_not_mem.2 λa ha=>(by have:=c2.plan a ha;rw[h.plan]at this;cases this),λi j=>(hn.2 i j).trans (h.met i j),hn.1.2⟩
 ·exact .inr (h.cleared hI hO c1)
end Nf
structure Wf (fd:Int) (lg:Nat) (q:Int->AtV->Prop) (S:Dv):Prop where
 gi:∃W,GI fd W S
 nf:Nf fd S
 whl:c1O q S
 log:S.T.logical=(lg:Int)
def Ent (lg:Nat) (l:List En):Prop:=(∀e∈l,FitR e/\e.lpn<(lg:Int))/\(l.map (·.lpn)).Nodup
namespace Wf
variable {fd : Int} {lg k m : Nat} {q : Int → AtV → Prop} {S : Dv} {l : List En}
theorem pen (h:Wf fd lg q S) (hO:S.Ok (8*Dv.fuel+k) m) (hl:Ent lg l):Wf fd lg q (S.pen l).1:=by
 obtain⟨W,hG⟩:=h.gi;have hat:=Dv.at1_like S;unfold Dv.pen;show Wf fd lg q (Dv.write (159+1) S l).1;rw[Dv.write_succ];split
 ·exact h
 split
 ·exact h
 rename_i h0;have hG1:=hG.at1 hO h0;have hN1:=h.nf.at1 hG.inv hO h0;have hW1:c1O q S.at1:=λi a ha=>by rw[hat.1];rw[hat.2.1]at ha;exact h.whl i a ha
 have hlog1:S.at1.T.logical=(lg:Int):=by rw[hat.2.1];exact h.log
 split
 ·exact⟨⟨W,hG1⟩,hN1,hW1,hlog1⟩
 rename_i hn;have hO1:S.at1.Ok (8*Dv.fuel+k) m:=hO.at1;have hlf:=Dv.at1_left' hO h0;obtain⟨Q,hQ⟩:∃Q,S.at1=Q:=⟨_,rfl⟩;rw[hQ]at hG1 hN1 hW1 hlog1 hn hO1 hlf ⊢;have hf:∀e∈l,FitR e:=λe he=>(hl.1 e he).1;have hR:=hG1.inv.rowIs hO1 hlf hf hn;have ht:=hG1.inv.turn hO1 hlf hf hn;have hg:=hO1.gd.ok.bd16;have herr:(Q.wr l).2.1=0:=L.ext ht.set (by decide) λd hd=>by
  rw[L.has_zero];cases hh:L.has (Q.wr l).2.1 (d:Nat)with
  | false=>rfl
  | true=>
   obtain⟨e1,e2⟩:=ht.only _ hh;have e3:=ht.fail d (by rw[e1];exact e2);rw[hh,hN1.nofail hG1.inv hlf (by rw[e1];exact e2)]at e3;cases e3
 have h2:(Q.wr l).2.2=0:=by rw[ht.err,i3 herr]
 rw[g7 (by rw[h2];decide),i3 h2];have hL:Last fd Q l:=⟨hlf,herr,hn,ht⟩;have hlgQ:∀e∈l,e.lpn<Q.T.logical:=λe he=>by rw[hlog1];exact(hl.1 e he).2
 have hG2:=hG1.wrote hO1 hL hf hl.2 hlgQ;obtain⟨l1,l2⟩:=hL.look hG1.inv hO1 hf hlgQ hl.2;have hfull:=b1V hG1.inv hlf hR λd hd=>hN1.nofail hG1.inv hlf hd;have ho:=hG1.inv.opn hlf;have hrdy:RdyW Q.N Q.op Q.row Q.mask:=⟨hG1.inv.lit,λd hd ha=>(ho.cells d hd).2 ha⟩;have w:WroteR Q.N (Q.wrote l).N Q.op Q.row (R.job Q.op Q.row Q.mask (Q.es l)):=(a2v hrdy hR).2.2;show Wf fd lg q (M6 Q l);refine⟨⟨_,hG2⟩,hN1.wrote hG1.inv hlf hR _,λi a ha=>?_,?_⟩
 ·by_cases hex:∃j,j<Q.fit l/\(l.getD j En.zero).lpn=i
  ·obtain⟨j,hj,rfl⟩:=hex;rw[l1 j hj]at ha;injection ha with ha;rw[<- ha];exact .inr ⟨_,hfull⟩
  ·rw[l2 i λj hj e=>hex ⟨j,hj,e⟩]at ha;rcases hW1 i a ha with hq | ⟨l',g1⟩
   ·exact .inl hq
   have hst:=hG1.inv.st i a ha;exact .inr ⟨l',g1.keep w.like λx hx=>w.page (hrdy.rdy hR) (g1.is.inn x hx).1 g1.is.blk.1 g1.is.row.1 λe=>by have:=hst.below e;omega⟩
 ·show(Dv.puts Q.T Q.op Q.row Q.mask (Q.es l) (Q.fit l)).logical=_;rw[(Dv.puts_ok hO1.T hO1.sl Q.op Q.row Q.mask (Q.es l) (Q.fit l) (by have:=Dv.fit_le Q l;omega)).2.2];exact hlog1
theorem clear(h:Wf fd lg q S) (hO:S.Ok (96+k) m):Wf fd lg q S.clear.1:=by
 obtain⟨W,hG⟩:=h.gi;have hN:=h.nf.cleared hG.inv hO;obtain⟨V,c1,c2,_,_,c5,_⟩:=hG.clear hO;have he:ErsP S.N S.clear.1.N (y5 (C9 S.t S.T) S.op S.t.b):=a3t _ _ _;rw[c1]at hN he ⊢;refine⟨⟨W,c2⟩,hN,λi a ha=>?_,by dsimp only;rw[c5];exact h.log⟩;dsimp only at ha ⊢;rw[c5]at ha;rcases h.whl i a ha with hq | ⟨l',g1⟩
 ·exact .inl hq
 have hbk:=g1.is.blk;refine .inr ⟨l',g1.keep he.like λx hx=>?_⟩;unfold Nand.pageAt;rw[he.rest _ _ λy hy e=>?_];obtain⟨y1,y2,_,y4⟩:=mem_pkSome.1 hy;have e2:a.block=y:=by omega
 exact((hG.inv.spent_er hO hy).emp i a ha) e2
theorem rds (h:Wf fd lg q S) (hO:S.Ok k m) {I:List Int} (hI:∀i∈I,∃a,Tb.look S.T.at_ i=some a) (hn:I.Nodup):Ent lg (S.rds I).1:=by
 obtain⟨W,hG⟩:=h.gi;obtain⟨E,e1,e2,e3,e4,_⟩:=hG.hd.rds hG.wok I λi hi=>by
  obtain⟨a,ha⟩:=hI i hi;cases hw:Tb.look W i with
  | none=>rw[hG.hd.none hw]at ha;cases ha
  | some w=>rfl
 rw[e1];refine⟨λe he=>⟨e4 e he,?_⟩,by dsimp only;rw[e3];exact hn⟩;have:e.lpn∈I:=by rw[<- e3];exact M4 he
 obtain⟨a,ha⟩:=hI _ this;have:=(hO.T.rng _ (Tb.look_mem ha)).2;rw[<- h.log];exact this
theorem cls (fd:Int) (lg:Nat) (q:Int->AtV->Prop):Cls (Wf fd lg q) (Ent lg):=
 ⟨λ_ _ _ _ hO h hl=>h.pen hO hl,λ_ _ _ hO h=>h.clear hO,λ_ _ _ _ hO h hI hn _=>h.rds hO hI hn,λ_ h s hs=>(h.1 s hs).1.len,λ_ _ h hs=>⟨λe he=>h.1 e (hs.subset he),h.2.sublist (hs.map _)⟩⟩
end Wf
structure FG (fd:Int) (W:List (Int×En)) (lg:Nat) (F:Fv):Prop where
 fi:FI fd W lg F
 rmy:Rmy fd W F.S
 hot:Hot2 fd F.S 0
 rows:5*F.S.N.pages<=F.S.rows+1
 cap:2*lg<=(F.S.N.blocks-5)*(F.S.N.pages*(F.S.N.dies-2))+1
 gi:GI fd W F.S
namespace FG
variable {fd : Int} {W : List (Int × En)} {lg k m : Nat} {F : Fv}
theorem writes (h:FG fd W lg F) (hO:F.S.Ok (Dv.costM+(8*Dv.fuel+k)) m) (hnx:F.S.next<=1099511627775-30000000) (hl0:F.L.length≠0):
  ∃(F':Fv) (W':List (Int×En)),F.writes=(F',0)/\FG fd W' lg F'/\(∀i,cur W' F'.L i=cur W F.L i)/\F'.S.Ok k m/\F'.S.next<=F.S.next+7000/\F'.nx=F.nx/\F'.S.N.broken=F.S.N.broken/\F.S.N.Like F'.S.N/\F'.L.length<F.L.length/\F'.S.N.dead=F.S.N.dead:=by
 have hg:=hO.gd.ok.bd16;have htb:=hO.t.b;obtain⟨V,β',v1,v2,v3,v4,v5,v6,v7,v8,v9,v10,v11,v12,v13⟩:=h.rmy.room (k:=8*Dv.fuel+k) (hO.less (by
  have:Dv.costR*F.S.t.b<=Dv.costR*16:=x5 _ (by omega);unfold Dv.costM;omega)) h.hot (by have:=h.rows;omega) (by omega) (by omega)
 obtain rfl:β'=0:=by omega
 have hmany:=v2.many v3 v4;obtain⟨hg1,hg2⟩:=h.gi.room (k:=8*Dv.fuel+k) hO h.hot (by have:=h.fi.log;have:=h.fi.lg2;omega) (by omega);rw[v1]at hg1 hg2;have hg1:GI fd W V:=hg1;have hg2:Hot2 fd V 0:=hg2;have hp:=v11.pages;have hlog:=h.fi.log;have hcap:2*V.T.logical.toNat<=(V.N.blocks-5)*(V.N.pages*(V.N.dies-2))+1:=by
  have:=h.cap;rw[v12,hlog,v11.blocks,v11.pages,v11.dies];omega
 obtain⟨U,n,β2,u1,u2,u3,u4,u5,u6,u7,u8,u9,u10,u11,u12,u13,u14⟩:=v2.pens (E:=F.L) v3 v6 (by omega) (λe he=>(h.fi.des e he).1) hl0 h.fi.nd (λe he=>by rw[v12,hlog];exact(h.fi.des e he).2.2) hcap (by omega);obtain rfl:β2=0:=by omega
 have hgi:GI fd (a0Z W F.L n) U:=by
  rcases hg1.pen v3 hg2 (λe he=>(h.fi.des e he).1) hl0 h.fi.nd (λe he=>by rw[v12,hlog];exact(h.fi.des e he).2.2) (by omega)with⟨_,hr0⟩ | ⟨U2,n2,q1,_,_,q2,_⟩
  ·omega
  ·rw[u1]at q1;injection q1 with q3 q4;injection q4 with q4 _;have q4:n=n2:=by omega
   rw[q3,q4];exact q2
 obtain⟨w1,w2⟩:=b2S h.fi.wok h.fi.wr (λe he=>⟨(h.fi.des e he).1,(h.fi.des e he).2.1⟩) n u3;have hUno:Hot2 fd U 0:=u6;have hlk:F.S.N.Like U.N:=v11.trans u13;have hwr:F.writes=({F with S:=U,L:=F.L.drop n}.told 0,0):=by
  unfold Fv.writes;rw[v1];dsimp only;rw[g7 (by decide),u1];dsimp only;rw[j4,b4X h.fi.nd]
 refine⟨_,a0Z W F.L n,hwr,⟨⟨u4.inv,u4.hd,w1,w2,u14.trans (v12.trans hlog),?_,h.fi.lg2,λx hx=>h.fi.des x (O1 hx),?_,?_⟩,u4,hUno,?_,?_,hgi⟩,b7H h.fi.nd n u3,u5,?_,rfl,u12.trans v10,hlk,?_,u11.trans v9⟩
 ·have:=h.fi.lgn;unfold Fv.lg at this ⊢;show((lgN U.N.dies U.N.blocks U.N.pages:Nat):Int)=_;rw[hlk.dies,hlk.blocks,hlk.pages];exact this
 ·show((F.L.drop n).map (·.lpn)).Nodup;rw[List.map_drop];exact h.fi.nd.sublist (a6r _ _)
 ·show(F.off||(0:Int)==9)=false;rw[h.fi.off];rfl
 ·show 5*U.N.pages<=U.rows+1;rw[u13.pages];omega
 ·show 2*lg<=(U.N.blocks-5)*(U.N.pages*(U.N.dies-2))+1;rw[hlk.blocks,hlk.pages,hlk.dies];exact h.cap
 ·show U.next<=_;omega
 ·show(F.L.drop n).length<_;rw[B2];omega
theorem put (h:FG fd W lg F) {e:En} (he:FitR e/\e.role≠4/\e.lpn<(lg:Int)):FG fd W lg (F.put e)/\∀i,cur W (F.put e).L i=if i=e.lpn then e.data else cur W F.L i:=by
 obtain⟨h1,h2⟩:=h.fi.put he;exact⟨⟨h1,h.rmy,h.hot,h.rows,h.cap,h.gi⟩,h2⟩
theorem slots (h:FG fd W lg F) (hO:F.S.Ok k m):1<=F.S.slots:=by
 have hg:=hO.gd.ok.bd16;exact(h.fi.inv.slots_pos hO (by have:=h.rows;omega)).2
theorem waits (h:FG fd W lg F) (hO:F.S.Ok (Dv.costM+(8*Dv.fuel+k)) m) (hnx:F.S.next<=1099511627775-30000000) {e:En} (he:FitR e/\e.role≠4/\e.lpn<(lg:Int)):
  ∃(F':Fv) (W':List (Int×En)),F.waits e=(F',0)/\FG fd W' lg F'/\(∀i,cur W' F'.L i=if i=e.lpn then e.data else cur W F.L i)/\F'.S.Ok k m/\F'.S.next<=F.S.next+7000/\F'.S.N.broken=F.S.N.broken/\F.S.N.Like F'.S.N/\F'.S.N.dead=F.S.N.dead:=by
 have hlp:=he.1.lpn;unfold Fv.waits;rw[h.fi.ask,h.fi.off,g7 m6,h.fi.lgn,g7 (by omega)]
 by_cases hs:(F.L.length:Int)>=F.S.slots
 ·rw[i3 hs];have h1:=h.slots (hO.less (j7 _));obtain⟨G,W',w1,w2,w3,w4,w5,_,w6,w7,_,w8⟩:=h.writes hO hnx (by omega);rw[w1];dsimp only;rw[g7 (by decide)];obtain⟨p1,p2⟩:=w2.put he;exact⟨_,W',rfl,p1,λi=>by rw[p2,w3],w4,w5,w6,w7,w8⟩
 ·rw[g7 hs];obtain⟨p1,p2⟩:=h.put he;exact⟨_,W,rfl,p1,p2,hO.less (by omega),by show F.S.next<=_;omega,rfl,Nand.Like.refl _,rfl⟩
theorem flush_go:∀(f:Nat) (F:Fv) (W:List (Int×En)) (k:Nat),FG fd W lg F->F.S.Ok (FI.costW*f+k) m->F.L.length<=f->F.S.next+7000*(f:Int)<=1099511627775-30000000->
  ∃(F':Fv) (W':List (Int×En)),Fv.flushGo f F=(F',0)/\FG fd W' lg F'/\F'.S.Ok k m/\F'.S.next<=F.S.next+7000*(f:Int)/\F'.S.N.broken=F.S.N.broken/\F.S.N.Like F'.S.N/\F'.L=[]/\(∀i,cur W' F'.L i=cur W F.L i)/\F'.S.N.dead=F.S.N.dead
 | 0,F,W,k,h,hO,hL,_=>⟨F,W,rfl,h,hO.less (by omega),by omega,rfl,Nand.Like.refl _,l9 (by omega),λ_=>rfl,rfl⟩
 | f+1,F,W,k,h,hO,hL,hnx=>by
  rw[Fv.flushGo]
  by_cases hl0:F.L.length=0
  ·rw[i3 hl0];exact⟨F,W,rfl,h,hO.less (by omega),by omega,rfl,Nand.Like.refl _,l9 hl0,λ_=>rfl,rfl⟩
  ·rw[g7 hl0];rw[E9]at hO;obtain⟨G,W',w1,w2,w3,w4,w5,_,w6,w7,w8,w9⟩:=h.writes (k:=FI.costW*f+k) (hO.less (by unfold FI.costW;omega)) (by omega) hl0;rw[w1];dsimp only;rw[g7 (by decide)];obtain⟨F',W2,r1,r2,r3,r4,r5,r6,r7,r8,r9⟩:=flush_go f G W' k w2 w4 (by omega) (by omega);exact⟨F',W2,r1,r2,r3,by omega,r5.trans w6,w7.trans r6,r7,λi=>(r8 i).trans (w3 i),r9.trans w9⟩
theorem flush (h:FG fd W lg F) (hO:F.S.Ok (FI.costW*200+k) m) (hnx:F.S.next<=1099511627775-50000000):
  ∃(F':Fv) (W':List (Int×En)),F.flush=(F',0)/\FG fd W' lg F'/\F'.S.Ok k m/\F'.S.next<=F.S.next+1400000/\F'.S.N.broken=F.S.N.broken/\F.S.N.Like F'.S.N/\F'.L=[]/\(∀i,cur W' F'.L i=cur W F.L i)/\F'.S.N.dead=F.S.N.dead:=by
 unfold Fv.flush;rw[h.fi.ask,h.fi.off,g7 m6];have hl:=h.fi.len;have h2:=h.fi.lg2;have hm:FI.costW*F.L.length<=FI.costW*200:=x5 _ (by omega);obtain⟨F',W',r1,r2,r3,r4,r5⟩:=flush_go F.L.length F W k h (hO.less (by omega)) (j7 _) (by omega);exact⟨F',W',r1,r2,r3,by omega,r5⟩
end FG
theorem b0S {S:Dv} {N':Nand} (h:N'.pages=S.N.pages):({S with N:=N'}:Dv).rows=S.rows:=by
 unfold Dv.rows;show N'.pages*S.t.blanks+(if S.op>=0 then((N'.pages:Int)-S.row).toNat else 0)=_;rw[h]
def Wrs (fd:Nat) (N N':Nand):Prop:=∀(j r:Nat) (c:NCell),(N'.blk fd j).cells[r]? =some c->∃c0,(N.blk fd j).cells[r]? =some c0/\(∀s,a0L s c0->a0L s c)/\(c0.lost=true->c.lost=true)
theorem GI.changed {fd:Nat} {W:List (Int×En)} {S:Dv} {N':Nand} (h:GI (fd:Int) W S) (c:FdCh fd S.N N') (hw:Wrs fd S.N N'):GI (fd:Int) W {S with N:=N'}:=by
 obtain⟨k1,k2⟩:=h.inv.changed c;refine⟨k1,⟨h.hd.keys,λi e he=>?_⟩,h.wok,λi a ha=>by show Msk N'.dies (fd:Int) a.mask;rw[c.like.dies];exact h.msk i a ha,λb r hb hr=>?_⟩
 ·obtain⟨h1,a,h2,h3⟩:=h.hd.each i e he;exact⟨h1,a,h2,by rw[<- h3];exact(k2 i a (h.inv.st i a h2)).2⟩
 ·refine(h.dsc b r (by rw[<- c.like.blocks];exact hb) (by rw[<- c.like.pages];exact hr)).less c.like λd cc hcc=> .inr ?_;unfold Nand.pageAt at hcc ⊢
  by_cases hd:d.toNat=fd
  ·rw[hd]at hcc ⊢;exact hw _ _ _ hcc
  ·have e:N'.blk d.toNat (Int.toNat (b:Int))=S.N.blk d.toNat (Int.toNat (b:Int)):=c.blk _ _ hd;have hcc:(N'.blk d.toNat (Int.toNat (b:Int))).cells[Int.toNat (r:Int)]? =some cc:=hcc;rw[e]at hcc;exact⟨cc,hcc,λ_ h=>h,λh=>h⟩
theorem Nand.fault2_flags (N:Nand) (x y z n xx:Int):(N.fault 2 x y z n xx).2.dead=N.dead/\(N.fault 2 x y z n xx).2.plan=N.plan/\∀i j:Nat,((N.fault 2 x y z n xx).2.blk i j).cells=(N.blk i j).cells/\((N.fault 2 x y z n xx).2.blk i j).met=(N.blk i j).met/\((N.blk i j).fails=true->((N.fault 2 x y z n xx).2.blk i j).fails=true):=by
 unfold Nand.fault;split
 ·exact⟨rfl,rfl,λ_ _=>⟨rfl,rfl,λh=>h⟩⟩
 rw[g7 (by decide),i3 rfl];refine⟨rfl,rfl,λi j=>?_⟩
 by_cases e:i=x.toNat/\j=y.toNat
 ·have hb:(N.setBlk x.toNat y.toNat {N.blk x.toNat y.toNat with fails:=true}).blk i j={N.blk x.toNat y.toNat with fails:=true}:=i3 e;dsimp only;rw[hb,e.1,e.2];exact⟨rfl,rfl,λ_=>rfl⟩
 ·have hb:(N.setBlk x.toNat y.toNat {N.blk x.toNat y.toNat with fails:=true}).blk i j=N.blk i j:=g7 e;dsimp only;rw[hb];exact⟨rfl,rfl,λh=>h⟩
namespace Ers
variable {fd : Int} {S : Dv} {k m : Nat}
theorem same (h:Ers fd S) {N':Nand} (h1:N'.dead=S.N.dead) (h2:N'.plan=S.N.plan) (h3:∀i j:Nat,(N'.blk i j).cells=(S.N.blk i j).cells/\(N'.blk i j).met=(S.N.blk i j).met/\((S.N.blk i j).fails=true->(N'.blk i j).fails=true)):Ers fd {S with N:=N'}:=by
 refine⟨h.pos,λi=>by show N'.dead.getD i false=false;rw[h1];exact h.dead i,by show N'.plan=[];rw[h2];exact h.plan,λj hj=>?_,h.td,λb hb hbad=>?_,λb hb hu hne hm=>?_,λh0=>⟨(h.opn h0).1,λhm=>?_⟩⟩
 ·obtain⟨x1,x2,x3⟩:=h3 fd.toNat j;have hj:(N'.blk fd.toNat j).met=true:=hj;rw[x2]at hj;obtain⟨f1,f2⟩:=h.fl j hj;exact⟨x3 f1,by show(N'.blk fd.toNat j).cells≠[];rw[x1];exact f2⟩
 ·show(N'.blk fd.toNat b.toNat).met=true;rw[(h3 _ _).2.1];exact h.bad b hb hbad
 ·show(N'.blk fd.toNat b.toNat).cells≠[];rw[(h3 _ _).1];exact h.used b hb hu hne hm
 ·show(N'.blk fd.toNat S.op.toNat).met=false;rw[(h3 _ _).2.1];exact(h.opn h0).2 hm
theorem cyc (h:Ers fd S) (hl:S.N.Lit):Ers fd {S with N:=S.N.cyc}:=by
 obtain⟨c1,c2,c3,c4,c5,c6⟩:=S.N.cyc_same hl;exact h.same c3 c4 λi j=>by rw[c2];exact⟨rfl,rfl,λh=>h⟩
theorem mt0 (h:Ers fd S) (hI:Inv fd S) (hO:S.Ok k m) (hfd:fd<S.N.dies):Ers fd (Dv.mt0 S.N):=by
 have hg:=hO.gd.ok.bd16;have hpos:=h.pos;obtain⟨t1,t2,t3⟩:=Tl.of_spec hO.gd.ok;have hO0:(Dv.mt0 S.N).Ok k m:=Dv.Ok.mt0 hO.gd;have hno:∀e:Int,L.has (Tl.of S.N).dead e=false:=λe=>by
  rw[t2];unfold Nand.deadAt;rw[h.dead];simp
 have hlt:∀b:Int,(Dv.mt0 S.N).t.has b=true->∃j:Nat,b=(j:Int)/\j<S.N.blocks:=λb hb=>by
  have hb:=Tl.has_iff.1 hb;have hb2:=hO0.t.b;have hb3:(Dv.mt0 S.N).N.blocks=S.N.blocks:=rfl;obtain⟨j,rfl⟩:=i6 hb.1;exact⟨j,rfl,by omega⟩
 refine⟨h.pos,h.dead,h.plan,h.fl,hno fd,λb hb hbad=>?_,λb hb hu _ _=>?_,λh0=>absurd h0 (by show¬(-1:Int)>=0;decide)⟩
 ·obtain⟨j,rfl,hj⟩:=hlt b hb;have hbad:L.has ((Tl.of S.N).at_ (j:Int)).bad fd=true:=hbad;rw[(t3 j hj).1,L.has_zero]at hbad;cases hbad
 ·obtain⟨j,rfl,hj⟩:=hlt b hb;have hu:((Tl.of S.N).at_ (j:Int)).used=true:=hu;rw[(t3 j hj).2.2]at hu;unfold a4o at hu;obtain⟨d,hd,hc⟩:=List.any_eq_true.1 hu;have hd:=List.mem_range.1 hd;simp only[i4,d7]at hc;have hc:=hc.2;show(S.N.blk fd.toNat (j:Int).toNat).cells≠[];rw[j4];have hhas:S.t.has (j:Int)=true:=Tl.has_iff.2 (by have:=hO.t.b;omega)
  by_cases hdf:(d:Int)=fd
  ·rw[show fd.toNat=d from by omega];exact hc
  have hdl:=hO.t.d;obtain⟨_,hmk⟩:=R4 (t:=S.t) (b:=(j:Int)) (by omega) hhas hI.tdead.1 (hI.tbad _ hhas).1;have htd:∀e:Int,L.has S.t.dead e=false:=λe=>by
   cases hh:L.has S.t.dead e with
   | false=>rfl
   | true=>have:=hI.tdead.2 e hh;rw[this,h.td]at hh;cases hh
  have hdm:L.has (S.t.mask (j:Int)) (d:Nat)=true:=by
   rw[hmk,htd,i9 (by omega),i9 (by omega)];cases hh:L.has (S.t.at_ (j:Int)).bad (d:Nat)with
   | false=>rfl
   | true=>exact absurd ((hI.tbad _ hhas).2 _ hh) hdf
  cases hb:L.has (S.t.at_ (j:Int)).bad fd with
  | true=>
   have:=h.bad _ hhas hb;rw[j4]at this;exact(h.fl _ this).2
  | false=>
   have hfm:L.has (S.t.mask (j:Int)) fd=true:=by
    rw[hmk,htd,hb,i9 (by omega),i9 (by omega)];rfl
   cases hus:(S.t.at_ (j:Int)).used with
   | false=>
    have:=hI.blank _ hhas hus d hdm;rw[j4]at this;exact absurd this hc
   | true=>
    by_cases hop:(j:Int)=S.op
    ·have ho:=hI.op.resolve_left (by omega);have h1:=(h.opn (by omega)).1;rw[<- hop,hfm]at h1;have e1:=(ho.cells fd.toNat (by rw[M5 h.pos];exact h1)).2 (h.dead _);have e2:=(ho.cells d (ho.mask.all d hd hdf)).2 (h.dead _);rw[<- hop,j4]at e1 e2;intro hnil;rw[hnil]at e1;have:(S.N.blk d j).cells.length=0:=by
      have:(([]:List NCell).length:Int)=0:=rfl;omega
     exact hc (l9 this)
    ·have:=h.used _ hhas hus hop hfm;rw[j4]at this;exact this
theorem new (die D B P:Nat) (lg:Int):Ers (die:Int) (Dv.new D B P lg):=by
 have hn:∀b:Int,(Dv.new D B P lg).t.at_ b=Sb.zero:=λb=>b0v D B P b;refine⟨a0r _,(NoF.new D B P lg).dead,rfl,λj hj=>(by cases hj),L.has_zero _,λb _ hbad=>?_,λb _ hu=>?_,λh0=>absurd h0 (by show¬(-1:Int)>=0;decide)⟩
 ·rw[hn]at hbad;have hbad:L.has 0 (die:Int)=true:=hbad;rw[L.has_zero]at hbad;cases hbad
 ·rw[hn]at hu;cases hu
end Ers
structure DevE (die D B P:Nat) (F:Fv) (n m:Nat) (c:Nat->List UInt8):Prop where
 fg:∃W,FG (die:Int) W (lgN D B P) F/\∀i:Nat,i<lgN D B P->cur W F.L i=c i
 wf:Wf (die:Int) (lgN D B P) (λ_ _=>False) F.S
 ok:F.Ok (UN*n) m
 nx:F.S.next+8000*(n:Int)<=1099000000000
 br:F.S.N.broken=0
 geo:F.S.N.dies=D/\F.S.N.blocks=B/\F.S.N.pages=P
 le:n<=200000
 dl:die<D
namespace DevE
variable {die D B P n m : Nat} {F : Fv} {c : Nat → List UInt8}
theorem lg (h:DevE die D B P F n m c):F.lg=(lgN D B P:Int):=by
 obtain⟨W,hW,_⟩:=h.fg;exact hW.fi.lgn
theorem less (h:DevE die D B P F n m c) {k:Nat} (hk:k<=n):DevE die D B P F k m c:=
 ⟨h.fg,h.wf,h.ok.less (x5 _ hk),by have:=h.nx;omega,h.br,h.geo,by have:=h.le;omega,h.dl⟩
theorem congr (h:DevE die D B P F n m c) {c':Nat->List UInt8} (hc:∀i,i<lgN D B P->c i=c' i):DevE die D B P F n m c':=by
 obtain⟨W,hW,h2⟩:=h.fg;exact⟨⟨W,hW,λi hi=>(h2 i hi).trans (hc i hi)⟩,h.wf,h.ok,h.nx,h.br,h.geo,h.le,h.dl⟩
theorem all (h:DevE die D B P F n m c):F.all=(F,(List.range (lgN D B P)).map c,0):=by
 obtain⟨W,hW,hc⟩:=h.fg;exact Fv.all_of h.lg λj hj=>by rw[hW.fi.read,g7 (by omega),hc j hj]
theorem like (h:DevE die D B P F n m c) {G:Fv} (hl:F.S.N.Like G.S.N):G.S.N.dies=D/\G.S.N.blocks=B/\G.S.N.pages=P:=
 ⟨hl.dies.trans h.geo.1,hl.blocks.trans h.geo.2.1,hl.pages.trans h.geo.2.2⟩
theorem ent (h:DevE die D B P F n m c):Ent (lgN D B P) F.L:=by
 obtain⟨W,hW,_⟩:=h.fg;exact⟨λe he=>⟨(hW.fi.des e he).1,(hW.fi.des e he).2.2⟩,hW.fi.nd⟩
theorem put (h:DevE die D B P F (n+1) m c) {e:En} {u:Nat} (hu:e.lpn=(u:Int)) (he:FitR e/\e.role≠4/\e.lpn<(lgN D B P:Int)) (hk:(F.waits e).1.Ok (UN*n) m):
  (F.waits e).2=0/\DevE die D B P (F.waits e).1 n m (λj=>if j=u then e.data else c j):=by
 obtain⟨W,hW,hc⟩:=h.fg;have hU:UN*(n+1)=UN*n+UN:=E9 _ _;have hU2:=b7V;have hnx:=h.nx;have hO:F.S.Ok (Dv.costM+(8*Dv.fuel+UN*n)) m:=h.ok.dv.less (by omega);have hwf:=(Wf.cls (die:Int) (lgN D B P) (λ_ _=>False)).waits hO h.wf h.ent e;obtain⟨F',W',r1,r2,r3,_,r5,r6,r7,_⟩:=hW.waits (k:=UN*n) hO (by omega) he;rw[r1]at hk hwf ⊢;exact⟨rfl,⟨⟨W',r2,λi hi=>by
  rw[r3,hu,hc i hi]
  by_cases e:i=u
  ·rw[i3 e,i3 (by omega)]
  ·rw[g7 e,g7 (by omega)]⟩,hwf,hk,by dsimp only;omega,r6.trans h.br,h.like r7,by have:=h.le;omega,h.dl⟩⟩
theorem write (h:DevE die D B P F (n+1) m c) {i:Nat} (h1:i<lgN D B P) {d:List UInt8} (hd:d.length=16):
  (F.write i d).2=0/\DevE die D B P (F.write i d).1 n m (λj=>if j=i then d else c j):=by
 have h200:=(Fv.lg_bd (F:=F) h.ok.dv.gd.ok).2;rw[h.lg]at h200;have hU:UN*(n+1)=UN*n+UN:=E9 _ _;exact h.put (e:=⟨(i:Int),0,1,d⟩) (u:=i) rfl ⟨⟨⟨a0r i,by show(i:Int)<=65535;omega⟩, .inl rfl,hd⟩,by show(1:Int)≠4;decide,by show(i:Int)<_;omega⟩ (Fv.write_keep (k:=UN*n) (h.ok.less (by unfold UN at hU ⊢;omega)) i hd).1
theorem flush (h:DevE die D B P F (n+200) m c):F.flush.2=0/\DevE die D B P F.flush.1 n m c/\F.flush.1.L=[]:=by
 obtain⟨W,hW,hc⟩:=h.fg;have hU:UN*(n+200)=UN*n+UN*200:=a6q _ _ _;have hf:=b1T;have hf2:=b5g;have hnx:=h.nx;have hk:=(Fv.flush_keep (k:=UN*n) (m:=m) (h.ok.less (by omega))).1;have hO:F.S.Ok (FI.costW*200+UN*n) m:=h.ok.dv.less (by omega);have hlen:=hW.fi.len;have hl2:=hW.fi.lg2;have hmul:FI.costW*F.L.length<=FI.costW*200:=x5 _ (by omega);have hfe:F.flush=Fv.flushGo F.L.length F:=by
  unfold Fv.flush;rw[hW.fi.ask,hW.fi.off,g7 m6]
 have hwf:=(Wf.cls (die:Int) (lgN D B P) (λ_ _=>False)).flushGo F.L.length F (UN*n) (m:=m) (hO.less (by unfold FI.costW at hmul ⊢;omega)) h.wf h.ent;rw[<- hfe]at hwf;obtain⟨F',W',r1,r2,_,r4,r5,r6,r7,r8,_⟩:=hW.flush (k:=UN*n) hO (by omega);rw[r1]at hk hwf ⊢;exact⟨rfl,⟨⟨W',r2,λi hi=>(r8 i).trans (hc i hi)⟩,hwf,hk,by dsimp only;omega,r5.trans h.br,h.like r6,by have:=h.le;omega,h.dl⟩,r7⟩
theorem new {die D B P:Nat} (hD:3<=D/\D<=6) (hB:8<=B/\B<=16) (hP:2<=P/\P<=8) (hlg:lgN D B P<=200) (hcap:2*lgN D B P<=(B-5)*(P*(D-2))+1) (hgm:M7 (D:Int) B P=true) (hd:die<D):DevE die D B P (Fv.of (Dv.new D B P (lgN D B P))) 200000 0 (λ_=>zeros16):=by
 have hI:Inv (die:Int) (Dv.new D B P (lgN D B P)):=Inv.new _ _ _ _ _;have hR:Rmy (die:Int) [] (Dv.new D B P (lgN D B P)):=⟨hI,⟨rfl,λi e he=>(by cases he)⟩,λi e he=>(by cases he),λb _=>by
  show((Tl.new D B P).at_ b).held=false;rw[b0v];rfl,by simp⟩
 refine⟨⟨[],⟨FI.new _ hD hB hP hlg,hR, .ers (Ers.new die D B P _),?_,hcap,GI.new _ _ _ _ _⟩,λ_ _=>rfl⟩,⟨⟨[],GI.new _ _ _ _ _⟩, .inr (Ers.new die D B P _),λi a ha=>(by cases ha),(FI.new (die:Int) hD hB hP hlg).log⟩,Fv.of_ok (Dv.Ok.new D B P _ hgm _ (b7U (by decide))) (b7U (by decide)),by show(1:Int)+8000*((200000:Nat):Int)<=_;decide,rfl,⟨rfl,rfl,rfl⟩,j7 _,hd⟩;show 5*P<=(Dv.new D B P (lgN D B P)).rows+1;rw[b3X];have:P*8<=P*B:=x5 _ hB.1;omega
theorem fault (h:DevE die D B P F n m c) (hE:Ers (die:Int) F.S) (hL:F.L=[]) (y z nn xx:Int):DevE die D B P (F.setN (F.S.N.fault 2 (die:Int) y z nn xx).2) n (m+1) c/\Ers (die:Int) (F.setN (F.S.N.fault 2 (die:Int) y z nn xx).2).S:=by
 obtain⟨W,hW,hc⟩:=h.fg;have hch:=FdCh.fault (fd:=die) F.S.N 2 y z nn xx;have hG1:(F.S.N.fault 2 (die:Int) y z nn xx).2.Gd (UN*n) (m+1):=a4K h.ok.dv.gd [⟨0,2,die,y,z,nn,xx⟩];have hfl:=Nand.fault2_flags F.S.N (die:Int) y z nn xx;obtain⟨M,hM⟩:∃M,(F.S.N.fault 2 (die:Int) y z nn xx).2=M:=⟨_,rfl⟩;rw[hM]at hch hG1 hfl ⊢;obtain⟨f1,f2,f3⟩:=hfl;have hwr:Wrs die F.S.N M:=λj r c hcc=>⟨c,by rw[<- (f3 die j).1];exact hcc,λ_ h=>h,λh=>h⟩;have hG2:GI (die:Int) W {F.S with N:=M}:=hW.gi.changed hch hwr;have hE2:Ers (die:Int) {F.S with N:=M}:=hE.same f1 f2 f3;have hlgn:(F.setN M).lg=(lgN D B P:Int):=by
  have:=hW.fi.lgn;unfold Fv.lg at this ⊢;show((lgN M.dies M.blocks M.pages:Nat):Int)=_;rw[hch.like.dies,hch.like.blocks,hch.like.pages];exact this
 refine⟨⟨⟨W,⟨⟨hG2.inv,hG2.hd,hG2.wok,hW.fi.wr,hW.fi.log,hlgn,hW.fi.lg2,hW.fi.des,hW.fi.nd,hW.fi.off⟩,⟨hG2.inv,hG2.hd,hG2.wok,hW.rmy.held,?_⟩, .ers hE2,?_,?_,hG2⟩,hc⟩,⟨⟨W,hG2⟩, .inr hE2,λi a ha=>?_,h.wf.log⟩,h.ok.setN hch.like hG1,h.nx,hch.broken.trans h.br,⟨hch.like.dies.trans h.geo.1,hch.like.blocks.trans h.geo.2.1,hch.like.pages.trans h.geo.2.2⟩,h.le,h.dl⟩,hE2⟩
 ·have:=hW.rmy.cap;show 2*W.length<=(M.blocks-5)*(M.pages*(M.dies-2))+1;rw[hch.like.dies,hch.like.blocks,hch.like.pages];exact this
 ·have:=hW.rows;show 5*M.pages<=({F.S with N:=M}:Dv).rows+1;rw[b0S hch.like.pages,hch.like.pages];exact this
 ·have:=hW.cap;show 2*lgN D B P<=(M.blocks-5)*(M.pages*(M.dies-2))+1;rw[hch.like.dies,hch.like.blocks,hch.like.pages];exact this
 ·rcases h.wf.whl i a ha with hq | ⟨l,g1⟩
  ·exact .inl hq
  ·refine .inr ⟨l,g1.keep hch.like λx _=>?_⟩;show(M.blk _ _).cells[_]? =(F.S.N.blk _ _).cells[_]?;rw[(f3 _ _).1]
theorem again (h:DevE die D B P F (n+403) m c) (hn:n<=190000) (hL:F.L=[]):(M3 F.S.N.cyc).2=0/\F.S.N.cyc.Gd (Dv.costK+UN*n) m/\(Fv.of (M3 F.S.N.cyc).1).Ok (UN*n) m/\(Fv.of (M3 F.S.N.cyc).1).lg=(lgN D B P:Int)/\(Fv.of (M3 F.S.N.cyc).1).all=(Fv.of (M3 F.S.N.cyc).1,(List.range (lgN D B P)).map c,0)/\(M3 F.S.N.cyc).1.N.broken=0:=by
 obtain⟨W,hW,hc⟩:=h.fg;have hlit:=hW.fi.inv.lit;obtain⟨c1,c2,c3,c4,c5,c6⟩:=F.S.N.cyc_same hlit;obtain⟨g1,g2,g3⟩:=h.geo;have hU:UN*(n+403)=UN*n+UN*403:=a6q _ _ _;have hm:=b7T;have hg:=h.ok.dv.gd.ok.bd16;have hdl:=h.dl;have hGd:F.S.N.cyc.Gd (Dv.costK+UN*n) m:=((h.ok.dv.less (show Dv.costK+UN*n<=UN*(n+403)by omega)).gd.cut (-1) 0 (by decide) (by decide)).on;obtain⟨S,hS⟩:∃S:Dv,({F.S with N:=F.S.N.cyc}:Dv)=S:=⟨_,rfl⟩;have e1:S.N=F.S.N.cyc:=by rw[<- hS]
 have e2:S.T=F.S.T:=by rw[<- hS]
 have e3:S.t=F.S.t:=by rw[<- hS]
 have hGS:GI (die:Int) W S:=by rw[<- hS];exact FC.GI.cyc hW.gi
 have hRS:Rmy (die:Int) W S:=⟨hGS.inv,hGS.hd,hGS.wok,λb hb=>by rw[e3]at hb ⊢;exact hW.rmy.held b hb,by rw[e1,c1.dies,c1.blocks,c1.pages];exact hW.rmy.cap⟩;have hOS:S.Ok (Dv.costK+UN*n) m:=by rw[<- hS];exact⟨hGd,h.ok.dv.t.like c1,h.ok.dv.T,h.ok.dv.sl,h.ok.dv.row,h.ok.dv.next⟩
 obtain⟨d1,d2,d3⟩:S.N.dies=D/\S.N.blocks=B/\S.N.pages=P:=by rw[e1];exact⟨c1.dies.trans g1,c1.blocks.trans g2,c1.pages.trans g3⟩
 have hrw:S.rows=F.S.rows:=by rw[<- hS];exact b0S c1.pages
 have hrw2:=hW.rows;have hnx:S.next=F.S.next:=by rw[<- hS]
 have hnx2:=h.nx;have hdead:∀i:Nat,S.N.dead.getD i false=false:=λi=>by
  rw[e1,c3];rcases h.wf.nf with hf | hf
  ·exact hf.dead i
  ·exact hf.dead i
 have hhot:Hot2 (die:Int) (Dv.mt0 S.N) 0:=by
  rcases h.wf.nf with hf | hf
  ·exact .calm ⟨hdead,by show S.N.plan=[];rw[e1,c4];exact hf.plan,λi j=>by show(S.N.blk i j).met=false;rw[e1,c2];exact hf.met i j,λi j=>by show(S.N.blk i j).fails=false;rw[e1,c2];exact hf.fl i j⟩
  ·have hf2:=hf.cyc hlit;rw[hS]at hf2;exact .ers (hf2.mt0 hGS.inv hOS (by omega))
 obtain⟨V,W',v1,v2,v3,v4,v5,v6,v7,v8,v9,v10,v11,v12⟩:=hGS.mounted (k:=UN*n) (m:=m) hRS hOS (by rw[d1,d2,d3,e2];exact hW.fi.log) (λi a ha=>by
  rw[e2]at ha;obtain⟨l,w1⟩:=(h.wf.whl i a ha).resolve_left id;have w2:Full (-1) S.N a.block a.row a.mask l:=by
   rw[e1];exact w1.keep c1 λx _=>by unfold Nand.pageAt;rw[c2]
  exact w2.par_good hGS.inv.lit.off hdead) hhot (by rw[hrw,d3];rw[g3]at hrw2;omega) (by omega)
 rw[e1]at v1 v10 v11;rw[v1];have hlk:F.S.N.Like V.N:=c1.trans v11;have hlg:(Fv.of V).lg=(lgN D B P:Int):=by
  show((lgN V.N.dies V.N.blocks V.N.pages:Nat):Int)=_;rw[hlk.dies,hlk.blocks,hlk.pages,g1,g2,g3]
 have hFI:FI (die:Int) W' (lgN D B P) (Fv.of V):=⟨v3.inv,v3.hd,v3.wok,λi e he=>hW.fi.wr i e (by rw[<- v2];exact he),by show V.T.logical=_;rw[v12,e2];exact hW.fi.log,hlg,hW.fi.lg2,λe he=>(by cases he),a0X,rfl⟩;refine⟨rfl,hGd,Fv.of_ok v6 (b7U (by omega)),hlg,Fv.all_of hlg λj hj=>?_,v10.trans (c5.trans h.br)⟩;rw[hFI.read,g7 (by omega)];show(Fv.of V,cur W' [] j,0)=_;have:=hc j hj;rw[hL]at this;rw[<- this];unfold cur;rw[v2]
end DevE
theorem b5z (f p n t l d:Nat) {die D B P k m:Nat} {Z:Fv} {c0:Nat->List UInt8} (c:Int) (hc:0<=c/\c<=100000) (hm:m<=1000) (h:DevE die D B P Z (400+k) m c0):
  FP 69 [pp f,iI c] (FvP f p n t l d Z) (λv As=>∃Y,v= .bool true/\(DevE die D B P Y k m (λj=>a3K (c+j))/\Y.L=[])/\As=FvP f p n t l d Y):=by
 have hlg:=(Fv.lg_bd (F:=Z) h.ok.dv.gd.ok).2;rw[h.lg]at hlg;have hUN:UN=Fv.cW+1:=rfl;refine b8o f p n t l d Z c hc (lgN D B P) m (by omega) hm (λi Y=>DevE die D B P Y (200-i+200+k) m (λj=>if j<i then a3K (c+j)else c0 j)) (λY=>DevE die D B P Y k m (λj=>a3K (c+j))/\Y.L=[]) ?_ (λi Y hY=>⟨hY.lg,hY.ok.dv.gd.ok⟩) (λi Y hY hi=>?_) λY hY=>?_
 ·exact(h.less (by omega)).congr λi _=>by rw[g7 (by omega)]
 ·have hY:DevE die D B P Y ((200-(i+1)+200+k)+1) m _:=hY.less (by omega);have hok:=hY.ok.less (k':=UN) (by rw[E9];omega);obtain⟨w1,w2⟩:=hY.write hi (b5C (c+i));exact⟨hok,w1,w2.congr λj _=>by
   by_cases e:j=i
   ·rw[i3 e,i3 (by omega),e]
   ·rw[g7 e]
    by_cases e2:j<i
    ·rw[i3 e2,i3 (by omega)]
    ·rw[g7 e2,g7 (by omega)]⟩
 ·have hY:DevE die D B P Y (k+200) m _:=hY.less (by omega);have hok:=hY.ok.less (k':=Fv.cW*200+0) (by rw[a6q];have:=b1T;omega);obtain⟨w1,w2,w3⟩:=hY.flush;exact⟨hok,w1,w2.congr λj hj=>i3 hj,w3⟩
theorem b0Q (g0 g1 g2 dd:Int) (A:Atom) (ao:Option Addr) (no co:Nat) (xs:List Int) (hA:Rd A ao 1 no (xs.flatMap λx=>[Value.int .i64 x])) (hlo:xs.length=no) (hdo:∀x∈xs,-9223372036854775808<=x/\x<=9223372036854775807):
  FP 20 [.agg #[iI g0,iI g1,iI g2],iI dd, .slice ao no co] [A] (Ps (.bool true) [A]):=by
 rw[b1N]at hA;refine FE [0,0,0] Tryz.func20 λX F hX=>?_;refine J.qp (b5A) [] λ_=>?_;refine J.qF λ_=>?_;refine J.qc (b1Z g0 g1 g2) [] λ_=>?_;rintro v As ⟨D,B,P,n,f,p,t,l,d,Z,rfl,hD,hB,hP,hZ,rfl⟩;refine⟨_,rfl,trivial,?_⟩;have hgb:=b9d hD hB hP;have hgm:M7 D B P=true:=by simp[M7];omega
 refine J.qF λ_=>?_;refine J.qp (a1s n Z.S.N) [5] λ_=>?_;rw[show Z.S.N.dies=D from by rw[hZ];rfl,show Z.S.N.blocks=B from by rw[hZ];rfl,show Z.S.N.pages=P from by rw[hZ];rfl];refine J.qp (b0L dd D (by omega)) [] λ_=>?_;have hb:=a8B dd (k:=(D:Int)) (by omega);obtain⟨dn,hdn⟩:∃k:Nat,a1o dd D=(k:Int):=⟨(a1o dd D).toNat,by omega⟩;rw[hdn]at hb ⊢;have hZL:Z.L=[]:=by rw[hZ];rfl
 have hN0:DevE dn D B P (Z.setN Z.S.N) 200000 0 (λ_=>zeros16)/\Ers (dn:Int) (Z.setN Z.S.N).S:=by
  rw[show Z.setN Z.S.N=Z from rfl,hZ];exact⟨DevE.new hD hB hP hgb.2.1 hgb.2.2 hgm (by omega),Ers.new dn D B P _⟩
 refine J.q λ_=>?_;refine J.l (α:=(Nat×Nand)) (λz=>(z.1<=no/\z.1<=12)/\DevE dn D B P (Z.setN z.2) 200000 z.1 (λ_=>zeros16)/\Ers (dn:Int) (Z.setN z.2).S) (λz=>[si 10 z.1,si 1 dn,sv 2 (.slice ao no co),sp 8 n,sp 9 f]) [5] (λz=>[B1 n z.2]) (λz=>no-z.1) ((0,Z.S.N)) (⟨⟨l8 _,l8 _⟩,hN0⟩) λz hI=>?_;obtain⟨i,N⟩:=z;dsimp only at hI ⊢;obtain⟨⟨hi1,hi2⟩,hNP,hE⟩:=hI;have hOk:N.Ok:=hNP.ok.dv.gd.ok;obtain⟨hg1,hg2,hg3⟩:N.dies=D/\N.blocks=B/\N.pages=P:=hNP.geo;refine J.qd (λ_ h1=>?_) λ_ h1=>?_
 ·simp only[i4,d7,j3]at h1;obtain⟨h1,h2⟩:=h1;have h2:i<12:=by omega
  obtain⟨x,hx⟩:∃x,xs[i]? =some x:=⟨_,d6 (by omega)⟩;have hxd:=hdo x (p6 hx);refine J.know (p:=∃g o,ao=some ⟨g,o,none⟩) (λh' s=>Rd.addr (hA _ (s.get (i:=1) rfl)) (by omega)) λhk=>?_;obtain⟨gm,om,rfl⟩:=hk;have hs1:=a8B x (k:=(B:Int)) (by omega);obtain⟨hf1,hf2⟩:=hNP.fault hE hZL (a1o x B) 0 0 0;refine J.pn 6 (.of [0,4,8,12,16,21,24,30,32,38,40,44,50]) [] [1] λ_ _=>?_;refine J.vT (iI x) rfl rfl (λhg aa w he hC=>a6y tk rfl rfl he rfl rfl rfl (hA _ (hC rfl _ (B5 (i:=1) rfl))) (by omega) (j:=i) (by omega) (a4c hx)) ?_;refine J.qp (a1s n N) [5] λ_=>?_;rw[hg1,hg2,hg3];refine J.qp (b0L x B (by omega)) [] λ_=>?_;refine J.qp (a2y n N hOk 0 2 dn (a1o x B) 0 0 0) [5] λ_=>?_;refine J.q λ_=>?_;refine J.n ((i+1,(N.fault 2 dn (a1o x B) 0 0 0).2)) (⟨⟨by dsimp only;omega,by dsimp only;omega⟩,hf1,hf2⟩) (by dsimp only;omega) [0,1,2,3,4,5,6,7,8]
 clear h1;have hN2:=hNP;obtain⟨Z1,hZ1⟩:∃Z1,Z.setN N=Z1:=⟨_,rfl⟩;rw[hZ1]at hN2;refine J.turn1 [3,4,5,6,7,8] rfl (As:=FvP f p n t l d Z1) (λh s=>by rw[<- hZ1];exact s) rfl ?_;refine J.q λ_=>?_;refine J.l (α:=(Nat×Fv)) (λy=>y.1<=8/\DevE dn D B P y.2 (10000-400*y.1) i (λj=>if y.1=0 then zeros16 else a3K (100*((y.1:Int)-1)+j))/\(1<=y.1->y.2.L=[])) (λy=>[si 11 y.1,sp 8 n,sp 9 f]) [3,4,5,6,7,8] (λy=>FvP f p n t l d y.2) (λy=>8-y.1) ((0,Z1)) (⟨l8 _,(hN2.less (by dsimp only;omega)).congr λ_ _=>by rw[i3 rfl],λh=>absurd h (by dsimp only;omega)⟩) λy hI=>?_;obtain⟨j,Y⟩:=y;dsimp only at hI ⊢;obtain⟨hj,hY,hYL⟩:=hI;refine J.qd (λ_ h1=>?_) λ_ h1=>?_
 ·simp only[d7]at h1;refine J.qc (b5z f p n t l d (100*(j:Int)) (by omega) (by omega) (hY.less (k:=400+(10000-400*(j+1))) (by omega))) [3,4,5,6,7,8] λ_=>?_;rintro v As ⟨Y2,rfl,⟨hY2,hL2⟩,rfl⟩;refine⟨_,rfl,trivial,?_⟩;refine J.qp (b2U f p n t l d Y2 (100*(j:Int)) (by omega) (lgN D B P) (UN*(10000-400*(j+1))) i (by omega) hY2.ok hY2.lg hY2.all) [3,4,5,6,7,8] λ_=>?_;refine J.qF λ_=>?_;refine J.q λ_=>?_;refine J.n ((j+1,Y2)) (⟨by dsimp only;omega,hY2.congr λu _=>by rw[g7 (by omega),show 100*(((j+1:Nat):Int)-1)=100*(j:Int)from by omega],λ_=>hL2⟩) (by dsimp only;omega) [0,1,2,3,4,5,6,7,8]
 simp only[c9]at h1;obtain rfl:j=8:=by omega
 have hYL:=hYL (by decide);refine J.q λ_=>?_;obtain⟨w1,w2,w3,w4,w5,w6⟩:=(hY.less (k:=6000+403) (by decide)).again (by decide) hYL;refine J.qc (b5B n Y.S.N (UN*6000) i w2 (by omega) w1) [5] λ_=>?_;rintro v As ⟨f2,p2,t2,l2,d2,rfl,rfl⟩;refine⟨_,rfl,trivial,?_⟩;refine J.qF λ_=>?_;refine J.q λ_=>?_;refine J.ca hX (by kernel_rfl) (b2U f2 p2 n t2 l2 d2 _ 700 (by decide) (lgN D B P) (UN*6000) i (by omega) w3 w4 w5) [5,9,10,11,12,13] 0 rfl rfl rfl rfl rfl rfl (λ_=>rfl) ?_;refine cpq ⟨_,rfl,trivial,?_⟩;refine J.qp (a7p n (Fv.of (M3 Y.S.N.cyc).1).S.N) [10] λ_=>?_;rw[show(Fv.of (M3 Y.S.N.cyc).1).S.N.broken=0 from w6];exact J.qx [1]
theorem a0h {a b:Bool} (ha:a=true) (hb:b=true):(a&&b)=true:=by rw[ha,hb];rfl
theorem b4A {P:Program} {f:FuncId} {fn:Func} {s:ChangeSpec} {c:OpenClaim} (k0:(c.wf (OpenSpec.ofChange s))=true) (k1:(laidOutB P)=true) (k2:(mapsRowed P)=true) (k3:(fn.params.all (P.readableRec ·))=true) (k4:(namedTie P c.named s.vars)=true) (k5:(c.stops==[])=true) (k6:(P.stops==[])=true) (k7:(c.knobs==[])=true) (k8:(P.stopKnobs==[])=true) (k9:(c.inPlace==P.inPlace f)=true) (k10:(c.unfollowed==P.unfollowed f)=true) (k11:(c.recurses==P.recurses f)=true) (k12:(c.named==P.varsNamed f)=true) (k13:(c.maps==(fn.params.toList++s.plain.varTypes P).any (P.mapsRec ·))=true) (k14:(c.ifaces==(fn.params.toList++s.plain.varTypes P).any (P.ifacesRec ·))=true) (k15:(c.mapsOut==P.mapsAmong fn.resultTypes.toList)=true) (k16:(c.loops==(fn.params.toList++s.plain.varTypes P).any (P.loopsFrom ·))=true) (k17:(c.wideKeys==(fn.params.toList++s.plain.varTypes P++fn.resultTypes.toList).any (P.wideKeysFrom ·))=true) (k18:(s.vars.all (P.varReadable ·))=true) (k19:(fn.resultTypes.all (λt=>P.readableRec t&&decide (t<P.types.size)))=true) (k20:(c.ifacesOut==fn.resultTypes.toList.any (P.ifacesRec ·))=true) (k21:(c.loopsOut==fn.resultTypes.toList.any (P.loopsFrom ·))=true) (k22:(c.plainKeys==P.plainKeys)=true) (k23:(c.shortTexts.isNone)=true) (k24:(P.stopsHeard)=true) (k25:(P.mayEnter)=true) (k26:(c.lifted==P.liftsFinal)=true) (k27:(P.make==some c.make)=true) (k28a:c.domain.isEmpty=true) (k28:(c.kinds==[])=true) (k29:(c.pinned==c.pinnedBy)=true) (k30:(c.veiled==(fn.params.toList++s.plain.varTypes P++fn.resultTypes.toList).any (P.veiledRec ·))=true) (k31:(c.veiledFits P fn.params.toList (fn.params.toList++s.plain.varTypes P++fn.resultTypes.toList))=true):joinedFacts P f fn s c=true:=by
 unfold joinedFacts;rw[i3 k28a];exact(a0h (a0h (a0h (a0h (a0h (a0h (a0h (a0h (a0h (a0h (a0h (a0h (a0h (a0h (a0h (a0h (a0h (a0h (a0h (a0h (a0h (a0h (a0h (a0h (a0h (a0h (a0h (a0h (a0h (a0h (a0h k0 k1) k2) k3) k4) k5) k6) k7) k8) k9) k10) k11) k12) k13) k14) k15) k16) k17) k18) k19) k20) k21) k22) k23) k24) k25) k26) k27) k28) k29) k30) k31)
end Go.Proofs.YtpakpgkdpofbhaaGreat
