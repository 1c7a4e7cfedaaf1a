/- Helpers, proved here. No condition. -/
import Derived.Test.YtdocmcapegcoeaaGreatA06
import Derived.Test.YtdocmcapegcoeaaGreatA18
import Derived.Test.YtdocmcapegcoeaaGreatA29
import Derived.Test.YtdocmcapegcoeaaGreatA30
set_option maxRecDepth 20000
set_option linter.all false
namespace Go.Proofs.YtdocmcapegcoeaaGreat
open Go
def lostN (N:Nand) (d:Nat):Nand:=N.setCell (d:Nat) 0 0 λc=>{c with lost:=true}
theorem lost_blk (N:Nand) (d i j:Nat):(lostN N d).blk i j=if i=d/\j=0 then {N.blk i j with cells:=(N.blk i j).cells.modify 0 λc=>{c with lost:=true}}else N.blk i j:=by
 unfold lostN Nand.setCell Nand.setBlk;show(if i=(d:Int).toNat/\j=(0:Int).toNat then _ else _)=_;rw[Int.toNat_natCast,Int.toNat_zero];split
 ·rename_i h;rw[h.1,h.2]
 ·rfl
theorem lost_same (N:Nand) (d i j:Nat):((lostN N d).blk i j).met=(N.blk i j).met/\((lostN N d).blk i j).fails=(N.blk i j).fails/\((lostN N d).blk i j).cells.length=(N.blk i j).cells.length:=by
 rw[lost_blk];split
 ·exact⟨rfl,rfl,by rw[List.length_modify]⟩
 ·exact⟨rfl,rfl,rfl⟩
theorem lost_page (N:Nand) (d:Nat) {x:Int} (hx:0<=x):(lostN N d).pageAt x 0 0=(N.pageAt x 0 0).map λc=>{c with lost:=c.lost||decide (x=d)}:=by
 unfold Nand.pageAt;rw[lost_blk]
 by_cases e:x=d
 ·rw[if_pos ⟨by omega,rfl⟩];show((N.blk x.toNat 0).cells.modify 0 _)[0]? =_;rw[List.getElem?_modify];show _=Option.map _ ((N.blk x.toNat 0).cells[0]?);simp[e]
 ·rw[if_neg (λh=>e (by omega)),decide_eq_false e];simp
theorem own_die:∀D,D<7->3<=D->G.die (L.all (D:Nat)) 0 0 0=1/\L.has (L.all (D:Nat)) 1=true:=by decide+kernel
theorem okG_false {g:Nat->Bool} {n j k:Nat} (h0:g k=false) (hj:j<=n) (hne:j≠k) (hg:g j=false):okG g n k=false:=by
 unfold okG othG;rw[h0,Bool.false_or,<- Bool.not_eq_true,List.all_eq_true];intro hh;have:=hh j (List.mem_range.2 (by omega));rw[hg,Bool.or_false,beq_iff_eq]at this;exact hne this
theorem lost_read {N:Nand} {D a b:Nat} {l:List En} (h:Full (-1) N 0 0 (L.all (D:Nat)) l) (hN:N.dies=D) (hD:3<=D/\D<=6) (hoff:N.off=false) (hdead:∀i:Nat,N.dead.getD i false=false) (ha:a<D) (hb:b<D) (hl:0<l.length):
  R.read (lostN (lostN N a) b) 0 0 0 (L.all (D:Nat))=if a≠b/\(a=1\/b=1)then(En.zero,10)else(l.getD 0 En.zero,0):=by
 have hR:RowIs (lostN (lostN N a) b) 0 0 (L.all (D:Nat)) l:=h.is.like ⟨rfl,rfl,rfl⟩;have hpg:∀x∈R.job 0 0 (L.all (D:Nat)) l,∃t,(lostN (lostN N a) b).pageAt x.1 0 0=some ⟨putP x.2,decide (x.1=(a:Int))||decide (x.1=(b:Int)),t⟩:=λx hx=>by
  have hi:=h.is.inn x hx;obtain⟨t,ht⟩:=h.good x hx (by omega);refine⟨t,?_⟩;rw[lost_page _ _ hi.1,lost_page _ _ hi.1,ht];simp
 have hin:RowIn (lostN (lostN N a) b) 0 0 (L.all (D:Nat)) l:=λx hx c hc=>by
  obtain⟨t,ht⟩:=hpg x hx;rw[ht]at hc;injection hc with hc;exact .inr (.inl (by rw[<- hc]))
 obtain⟨g,hge⟩:∃g,gOf (lostN (lostN N a) b) 0 0 (L.all (D:Nat)) l=g:=⟨_,rfl⟩;have hjl:(R.job 0 0 (L.all (D:Nat)) l).length=l.length+1:=by simp[R.job]
 have hg:∀k x,(R.job 0 0 (L.all (D:Nat)) l)[k]? =some x->g k= !(decide (x.1=(a:Int))||decide (x.1=(b:Int))):=λk x hk=>by
  have hx:=List.mem_of_getElem? hk;obtain⟨t,ht⟩:=hpg x hx;obtain⟨n1,n2,n3⟩:=h.is.inn x hx;have hr:(lostN (lostN N a) b).refuses x.1 0 0=0:=by
   unfold Nand.refuses;rw[show(lostN (lostN N a) b).off=false from hoff,if_neg (by decide),show geoIn (lostN (lostN N a) b).dies (lostN (lostN N a) b).blocks (lostN (lostN N a) b).pages x.1 0 0=true from Nand.geoIn_of ⟨n1,n2⟩ h.is.blk h.is.row,if_neg (by decide),show(lostN (lostN N a) b).dead.getD x.1.toNat false=false from hdead _];rfl
  rw[<- hge];unfold gOf;rw[hk];show((M.look (lostN (lostN N a) b) x.1 0 0).2==1)=_;cases hlost:(decide (x.1=(a:Int))||decide (x.1=(b:Int)))with
  | false=>
   rw[hlost]at ht;rw[look_is (h.is.sh x hx).1 hr ht];rfl
  | true=>
   rw[hlost]at ht;rw[beq_eq_false_iff_ne.2]
   ·rfl
   ·refine look_err ?_;unfold Nand.readE;rw[if_neg (by rw[hr];decide),ht];exact(by decide:(6:Int)≠0)
 obtain⟨o1,o2⟩:=own_die D (by omega) hD.1;have h0:=job_at 0 0 (L.all (D:Nat)) l 0 hl;have h0:(R.job 0 0 (L.all (D:Nat)) l)[0]? =some (1,W.sh 0 0 (L.all (D:Nat)) (l.getD 0 En.zero)):=by
  rw[h0];rw[show G.die (L.all (D:Nat)) 0 0 ((0:Nat):Int)=1 from o1]
 have hall:∀c,c<D->∃k x,k<=l.length/\(R.job 0 0 (L.all (D:Nat)) l)[k]? =some x/\x.1=(c:Nat):=λc hc=>by
  obtain⟨x,hx,hxc⟩:=h.is.on (d:=c) (by rw[L.all_has D (by omega),decide_eq_true (by omega),decide_eq_true (by omega)];rfl);obtain⟨k,hk⟩:=List.getElem?_of_mem hx;exact⟨k,x,by have:=(List.getElem?_eq_some_iff.1 hk).1;omega,hk,hxc⟩
 have hnd:∀(i j:Nat) (x y:Int×Sh),(R.job 0 0 (L.all (D:Nat)) l)[i]? =some x->(R.job 0 0 (L.all (D:Nat)) l)[j]? =some y->x.1=y.1->i=j:=λi j x y hi hj e=>by
  have h1:((R.job 0 0 (L.all (D:Nat)) l).map (·.1))[i]? =((R.job 0 0 (L.all (D:Nat)) l).map (·.1))[j]?:=by rw[List.getElem?_map,List.getElem?_map,hi,hj];simp[e]
  exact(List.getElem?_inj (by rw[List.length_map];exact(List.getElem?_eq_some_iff.1 hi).1) h.is.nodup).1 h1
 have hr:=(hin.part hR).read hR (show(lostN (lostN N a) b).off=false from hoff) hl;rw[show((0:Nat):Int)=0 from rfl,hge]at hr;rw[hr];have hg0:=hg 0 _ h0;dsimp only at hg0;have hbad:∀c,c<D->c≠1->(c=a\/c=b)->g 0=false->okG g l.length 0=false:=λc hc hc1 hcc h00=>by
  obtain⟨k,x,k1,k2,k3⟩:=hall c hc;refine okG_false h00 k1 (λe=>?_) ?_
  ·subst e;rw[h0]at k2;injection k2 with k2;rw[<- k2]at k3;dsimp only at k3;omega
  ·rw[hg k x k2,k3];rcases hcc with e | e
   ·rw[e,decide_eq_true rfl];rfl
   ·rw[e,decide_eq_true (p:=((b:Nat):Int)=(b:Int)) rfl,Bool.or_true];rfl
 by_cases e1:a=1
 ·have h00:g 0=false:=by rw[hg0,decide_eq_true (show(1:Int)=(a:Int)by omega)];rfl
  by_cases e2:b=1
  ·have hok:okG g l.length 0=true:=by
    unfold okG othG;rw[Bool.or_eq_true];right;rw[List.all_eq_true];intro k hk;have hk:=List.mem_range.1 hk;obtain⟨x,hx⟩:∃x,(R.job 0 0 (L.all (D:Nat)) l)[k]? =some x:=⟨_,List.getElem?_eq_getElem (by omega)⟩
    by_cases e:k=0
    ·simp[e]
    ·have hx1:x.1≠1:=λe3=>e (hnd k 0 x _ hx h0 e3);rw[hg k x hx,decide_eq_false (show¬x.1=(a:Int)by omega),decide_eq_false (show¬x.1=(b:Int)by omega)];simp
   rw[hok,if_pos rfl,if_neg (by omega)]
  ·rw[hbad b hb e2 (.inr rfl) h00,if_neg (by decide),if_pos ⟨by omega, .inl e1⟩]
 ·by_cases e2:b=1
  ·have h00:g 0=false:=by rw[hg0,decide_eq_true (show(1:Int)=(b:Int)by omega),Bool.or_true];rfl
   rw[hbad a ha e1 (.inl rfl) h00,if_neg (by decide),if_pos ⟨by omega, .inr e2⟩]
  ·have hok:okG g l.length 0=true:=by
    unfold okG;rw[hg0,decide_eq_false (show¬(1:Int)=(a:Int)by omega),decide_eq_false (show¬(1:Int)=(b:Int)by omega)];rfl
   rw[hok,if_pos rfl,if_neg (by omega)]
def T3 (m ro:Int):Tb:=⟨50,[(3,⟨0,0,0,m,1,ro⟩)],[(0,1)],2⟩
theorem T3_ins (m ro:Int):(T3 m ro).ins 0=[3]:=rfl
def lsE (a b:Nat) (e:En):En:=if a≠b/\(a=1\/b=1)then⟨3,0,4,zeros16⟩else {e with seq:=1}
theorem lost_carry {D B P a b k:Nat} {e:En} (hgm:geoMay D B P=true) (hO:(Dv.new D B P 50).Ok (8*Dv.fuel+(8*Dv.fuel+k)) 0) (hfe:FitR e) (hl:e.lpn=3) (hr:e.role=1\/e.role=2) (ha:a<D) (hb:b<D):
  ∃S1 V,(Dv.new D B P 50).pen [e]=(S1,(1:Int),(0:Int))/\S1.Ok (8*Dv.fuel+k) 0/\S1.N.dies=D/\S1.N.blocks=B/\S1.N.pages=P/\({S1 with N:=lostN (lostN S1.N a) b}:Dv).Ok (8*Dv.fuel+k) 0/\
   ({S1 with N:=lostN (lostN S1.N a) b}:Dv).carry 0 9=(V,(1:Int),(0:Int))/\V.N.off=false/\V.T.Ok/\Tb.look V.T.at_ 3=some ⟨0,1,0,L.all (D:Nat),2,(lsE a b e).role⟩/\R.read V.N 0 1 0 (L.all (D:Nat))=({lsE a b e with seq:=2},0)/\V.N.Gd k 0:=by
 have hg:=hO.gd.ok.bd16;have hg:(3<=D/\D<=6)/\(8<=B/\B<=16)/\(2<=P/\P<=8):=hg;have hS:=SeqI.new D B P 50;have hf:∀x∈[e],FitR x:=λx hx=>by simp at hx;rw[hx];exact hfe
 obtain⟨p1,p2,p3,p4,p5,p6,p7⟩:=hS.pen (l:=[e]) hO (q:=0) (r:=0) (by omega) (by omega) (by omega) hf (by simp) (by show(1:Int)<=_;omega);obtain⟨a1,a2,a3,a4,a5⟩:=hS.at1 hO (q:=0) (r:=0) (by omega) (by omega) (by omega);have hf1:(Dv.new D B P 50).at1.fit [e]=1:=by rw[p2];simp;omega
 have hseq:=(p6.seqs p7 (i:=0) (by omega)).2.1;have hat:=Dv.at1_like (Dv.new D B P 50);have hT:(wroteP (Dv.new D B P 50).at1 [e]).T=T3 (L.all D) e.role:=by
  show Dv.puts _ _ _ _ _ ((Dv.new D B P 50).at1.fit [e])=_;rw[hf1,Dv.puts_succ,hseq,a1,a2,a3,hat.2.1,hat.2.2];obtain⟨el,es,er,ed⟩:=e;dsimp only at hl hr;subst hl;rcases hr with rfl | rfl<;>rfl
 have hfull:=p6.turn.full;rw[a1,a2,a3]at hfull;have heslen:0<((Dv.new D B P 50).at1.es [e]).length:=(p6.seqs p7 (i:=0) (by omega)).2.2;have hmask1:(wroteP (Dv.new D B P 50).at1 [e]).mask=L.all (D:Nat):=a3;have hop1:(wroteP (Dv.new D B P 50).at1 [e]).op=0:=a1;have hrow1:(wroteP (Dv.new D B P 50).at1 [e]).row=1:=by show(Dv.new D B P 50).at1.row+1=1;rw[a2];rfl
 have hnext1:(wroteP (Dv.new D B P 50).at1 [e]).next=2:=by show(Dv.new D B P 50).at1.next+((Dv.new D B P 50).at1.fit [e]:Int)=2;rw[hf1,hat.2.2];rfl
 have hN1:Full (-1) (wroteP (Dv.new D B P 50).at1 [e]).N 0 0 (L.all (D:Nat)) ((Dv.new D B P 50).at1.es [e]):=hfull;rw[hf1]at p1;generalize wroteP (Dv.new D B P 50).at1 [e]=S1 at p1 p3 p4 hT hmask1 hop1 hrow1 hnext1 hN1;generalize(Dv.new D B P 50).at1.es [e]=l1 at hN1 heslen hseq;have hslots:G.slots (L.all (D:Nat))=(D:Int)-1:=(slots_all D (by omega) hg.1.1).1;have hgeo:∀d:Nat,d<D->geoIn S1.N.dies S1.N.blocks S1.N.pages (d:Nat) 0 0=true:=λd hd=>by
  rw[p3.dies,p3.blocks,p3.pages];unfold geoIn;simp;omega
 have hgd2:(lostN (lostN S1.N a) b).Gd (8*Dv.fuel+k) 0:=by
  have h1:=p4.gd.fault0 3 (a:Nat) 0 0 0 0 (by decide);rw[fault_3 (hgeo a ha)]at h1;have h2:=Nand.Gd.fault0 (N:=lostN S1.N a) h1 3 (b:Nat) 0 0 0 0 (by decide);rw[fault_3 (N:=lostN S1.N a) (hgeo b hb)]at h2;exact h2
 have hlike:S1.N.Like (lostN (lostN S1.N a) b):=⟨rfl,rfl,rfl⟩;have hsame:∀i j,((lostN (lostN S1.N a) b).blk i j).met=(S1.N.blk i j).met/\((lostN (lostN S1.N a) b).blk i j).fails=(S1.N.blk i j).fails/\((lostN (lostN S1.N a) b).blk i j).cells.length=(S1.N.blk i j).cells.length:=λi j=>by
  have h1:=lost_same (lostN S1.N a) b i j;have h2:=lost_same S1.N a i j;exact⟨h1.1.trans h2.1,h1.2.1.trans h2.2.1,h1.2.2.trans h2.2.2⟩
 have hO2:({S1 with N:=lostN (lostN S1.N a) b}:Dv).Ok (8*Dv.fuel+k) 0:=⟨hgd2,p4.t.like hlike,p4.T,p4.sl,p4.row,p4.next⟩;obtain⟨N2,hN2⟩:∃N2,lostN (lostN S1.N a) b=N2:=⟨_,rfl⟩;have hrd:=lost_read hN1 p3.dies hg.1 p3.inv.lit.off p3.no.dead ha hb heslen;have hoff2:N2.off=false:=by rw[<- hN2];exact p3.inv.lit.off
 have hcuts2:N2.cuts=false:=by rw[<- hN2];exact p3.inv.lit.cuts
 have hdead2:N2.dead=S1.N.dead:=by rw[<- hN2];rfl
 have hplan2:N2.plan=S1.N.plan:=by rw[<- hN2];rfl
 refine⟨S1,?_⟩;rw[hN2]at hgd2 hlike hsame hO2 hrd ⊢
 --the table laid aside
 have hOe:({S1 with N:=N2,T:=Tb.new 50}:Dv).Ok (8*Dv.fuel+k) 0:=⟨hgd2,hO2.t,Tb.Ok.new 50,λx hx=>(by cases hx),hO2.row,hO2.next⟩;have hIe:Inv (-1) ({S1 with N:=N2,T:=Tb.new 50}:Dv):=by
  refine⟨⟨hoff2,hcuts2⟩,λi _=>by show N2.dead.getD i false=false;rw[hdead2];exact p3.no.dead i,λx hx=>?_,λi j hi=>?_,p3.inv.tdead,p3.inv.tbad,?_,λx hx hu d hd=>?_,λi x hx=>(by cases hx)⟩
  ·have hx:x∈N2.plan:=hx;rw[hplan2]at hx;exact p3.inv.plan x hx
  ·have h1:=hsame i j;have h2:=p3.inv.flags i j hi;exact⟨h1.1.trans h2.1,h1.2.1.trans h2.2⟩
  ·rcases p3.inv.op with h | h
   ·exact .inl h
   ·refine .inr ⟨by have:=h.blk;rw[hlike.blocks];exact this,h.used,by have:=h.row;rw[hlike.pages];exact this,by have:=h.mask;rw[hlike.dies];exact this,λd hd=>?_⟩;have h1:=(hsame d S1.op.toNat).2.2;have h2:=h.cells d hd;show((N2.blk d S1.op.toNat).cells.length:Int)<=S1.row/\(N2.dead.getD d false=false->((N2.blk d S1.op.toNat).cells.length:Int)=S1.row);rw[h1,hdead2];exact h2
  ·have h1:=p3.inv.blank x hx hu d hd;have h2:=(hsame d x.toNat).2.2;rw[h1]at h2;exact List.eq_nil_of_length_eq_zero h2
 have hNo:NoF ({S1 with N:=N2,T:=Tb.new 50}:Dv):=⟨λi=>by show N2.dead.getD i false=false;rw[hdead2];exact p3.no.dead i,by show N2.plan=[];rw[hplan2];exact p3.no.plan,λi j=>(hsame i j).1.trans (p3.no.met i j)⟩;have hleft:∀T:Tb,({S1 with N:=N2,T:=T}:Dv).left=true:=λT=>by
  unfold Dv.left;show(decide (S1.op>=0)&&decide (S1.row<(N2.pages:Int))&&decide (G.slots S1.mask>0))=true;rw[hop1,hrow1,hmask1,hslots,hlike.pages,p3.pages,decide_eq_true (by omega),decide_eq_true (by omega),decide_eq_true (by omega)];rfl
 have hat1:∀T:Tb,({S1 with N:=N2,T:=T}:Dv).at1={S1 with N:=N2,T:=T}:=λT=>by unfold Dv.at1;rw[hleft T];rfl
 have hrows:0<({S1 with N:=N2,T:=Tb.new 50}:Dv).rows:=by
  unfold Dv.rows;show 0<N2.pages*S1.t.blanks+(if S1.op>=0 then((N2.pages:Int)-S1.row).toNat else 0);rw[hop1,hrow1,hlike.pages,p3.pages,if_pos (by omega)];omega
 --what is read
 obtain⟨E,hE⟩:∃E,lsE a b e=E:=⟨_,rfl⟩;have hEl:E.lpn=3/\FitR E/\(E.role=1\/E.role=2\/E.role=4):=by
  rw[<- hE];unfold lsE;split
  ·exact⟨rfl,⟨by decide, .inr ⟨.inr rfl,rfl⟩,rfl⟩, .inr (.inr rfl)⟩
  ·exact⟨hl,⟨hfe.lpn,hfe.role,hfe.len⟩,by rcases hr with h | h;exact .inl h;exact .inr (.inl h)⟩
 have hlk1:Tb.look S1.T.at_ 3=some ⟨0,0,0,L.all (D:Nat),1,e.role⟩:=by rw[hT];rfl
 have hrdE:({S1 with N:=N2}:Dv).rd 3=(E,0):=by
  have hlk2:Tb.look ({S1 with N:=N2}:Dv).T.at_ 3=some ⟨0,0,0,L.all (D:Nat),1,e.role⟩:=hlk1;unfold Dv.rd;rw[hlk2];dsimp only;rw[Option.getD_some];dsimp only;rw[hrd,<- hE];unfold lsE;split
  ·rfl
  ·rw[hseq];dsimp only;rw[if_neg (by decide),if_neg,hat.2.2]
   ·rfl
   ·rintro(x | x | x)
    ·exact x rfl
    ·exact x hl
    ·rw[hat.2.2]at x;exact x rfl
 have hfE:∀x∈[E],FitR x:=λx hx=>by simp at hx;rw[hx];exact hEl.2.1
 obtain⟨q1,_,q3,q4⟩:=hIe.pen_calm hOe hNo hrows hfE (by simp) (by show S1.next<=_;rw[hnext1];omega);rw[hat1]at q1 q3 q4;have hfit2:({S1 with N:=N2,T:=Tb.new 50}:Dv).fit [E]=1:=by
  unfold Dv.fit;show min 1 (G.slots S1.mask).toNat=1;rw[hmask1,hslots];omega
 have hfit3:({S1 with N:=N2}:Dv).fit [E]=1:=hfit2;have herr:=q4.turn.err;rw[if_pos q4.err]at herr;have herr:(({S1 with N:=N2}:Dv).wr [E]).2.2=0:=herr;have hpen:({S1 with N:=N2}:Dv).pen [E]=(wroteP {S1 with N:=N2} [E],(1:Int),(0:Int)):=by
  show Dv.write (159+1) _ [E]=_;rw[Dv.write_succ];have h1:({S1 with N:=N2}:Dv).at1={S1 with N:=N2}:=hat1 S1.T;have h2:({S1 with N:=N2}:Dv).left=true:=hleft S1.T;rw[h1,h2,if_neg (by simp),if_neg (by simp),hfit3,if_neg (by show¬S1.next>_;rw[hnext1];omega),if_neg (by rw[herr];decide),if_pos herr];unfold wroteP;rw[hfit3];rfl
 have hcarry:({S1 with N:=N2}:Dv).carry 0 9=(wroteP {S1 with N:=N2} [E],(1:Int),(0:Int)):=by
  have hins:({S1 with N:=N2}:Dv).T.ins 0=[3]:=by show S1.T.ins 0=[3];rw[hT,T3_ins]
  unfold Dv.carry;rw[hins];show Dv.carryGo 1 {S1 with N:=N2} [3] 0=_;rw[Dv.carryGo,if_neg (by decide)];dsimp only;obtain⟨c,hc⟩:∃c,(max ({S1 with N:=N2}:Dv).slots 1).toNat=c+1:=⟨(max ({S1 with N:=N2}:Dv).slots 1).toNat-1,by omega⟩;rw[hc];have hrds:({S1 with N:=N2}:Dv).rds (List.take (c+1) [3])=([E],0):=by
   rw[List.take_of_length_le (show[(3:Int)].length<=c+1 by show 1<=c+1;omega)];rw[Dv.rds,hrdE,if_neg (by simp)];rfl
  rw[hrds];dsimp only;rw[if_neg (by decide),hpen];dsimp only;rw[if_neg (by decide)];rfl
 have hputs:=puts_look (T:=S1.T) (b:=S1.op) (r:=S1.row) (mk:=S1.mask) (es:=({S1 with N:=N2}:Dv).es [E]) 1 (λj hj=>?_) (λj hj x hx=>?_) (λi j hij hj=>by omega)
 ·have hs2:=(q4.seqs q3 (i:=0) (by omega)).2.1;have hs2:(({S1 with N:=N2}:Dv).es [E]).getD 0 En.zero={E with seq:=2}:=by
   have:(({S1 with N:=N2}:Dv).es [E]).getD 0 En.zero={E with seq:=S1.next+0}:=hs2;rw[this,hnext1];rfl
  have hk2:=Dv.pen_keep hO2 (λx hx=>(hfE x hx).len);rw[hpen]at hk2;refine⟨wroteP {S1 with N:=N2} [E],p1,p4,p3.dies,p3.blocks,p3.pages,hO2,hcarry,q4.turn.inv.lit.off,hk2.1.T,?_,?_,hk2.1.gd⟩
  ·have h3:=hputs.1 0 (by omega);rw[hs2]at h3;have h4:Tb.look (wroteP {S1 with N:=N2} [E]).T.at_ 3=some ⟨S1.op,S1.row,0,S1.mask,2,E.role⟩:=by
    unfold wroteP;rw[hfit3];have:({E with seq:=2}:En).lpn=3:=hEl.1;rw[this]at h3;exact h3
   rw[h4,hop1,hrow1,hmask1,hE]
  ·have h3:=q4.reads hIe q3 (j:=0) (by omega);have h4:R.read (wroteP {S1 with N:=N2} [E]).N S1.op S1.row ((0:Nat):Int) S1.mask=({E with seq:=S1.next+((0:Nat):Int)},0):=h3;obtain⟨z1,hz1⟩:∃z,(wroteP {S1 with N:=N2} [E]).N=z:=⟨_,rfl⟩;rw[hz1]at h4 ⊢;rw[hop1,hrow1,hmask1,hnext1]at h4;rw[hE];exact h4
 ·obtain rfl:j=0:=by omega
  have hs2:=(q4.seqs q3 (i:=0) (by omega)).2.1;have hs2:(({S1 with N:=N2}:Dv).es [E]).getD 0 En.zero={E with seq:=S1.next+((0:Nat):Int)}:=hs2;rw[hs2,hT];unfold Tb.ok;show(!(decide (E.lpn<0)||decide (E.lpn>=50)||(E.role !=1&&E.role !=2&&E.role !=4)))=true;rw[hEl.1];rcases hEl.2.2 with h | h | h<;>rw[h]<;>rfl
 ·obtain rfl:j=0:=by omega
  have hs2:=(q4.seqs q3 (i:=0) (by omega)).2.1;have hs2:(({S1 with N:=N2}:Dv).es [E]).getD 0 En.zero={E with seq:=S1.next+((0:Nat):Int)}:=hs2;rw[hs2]at hx ⊢;have hx:Tb.look S1.T.at_ E.lpn=some x:=hx;rw[hEl.1,hlk1]at hx;injection hx with hx;rw[<- hx];show(1:Int)<=S1.next+((0:Nat):Int);rw[hnext1];omega
end Go.Proofs.YtdocmcapegcoeaaGreat
namespace Go.Proofs.YtdocmcapegcoeaaGreat
open Go Go.RowKit
theorem l18_Die9 (a b c:Int):Fn Tryz.prog 32 [.agg #[.int .i64 a, .int .i64 b, .int .i64 c]] [] (λv As=>v= .int .i64 1/\As=[]):=by
 refine Fn.enter [0] Tryz.func32 rfl rfl rfl λX F hX=>?_;refine J.q hX λ_=>?_;exact J.ru hX [] ⟨rfl,rfl⟩
theorem s_SweepLost (g0 g1 g2 ai bi:Int) (tr:Bool) (A:Atom):
  Fn Tryz.prog 7 [.agg #[.int .i64 g0, .int .i64 g1, .int .i64 g2], .int .i64 ai, .int .i64 bi, .bool tr] [A] (λv As=>v= .bool true/\As=[A]):=by
 refine Fn.enter [0,0,0,0] Tryz.func7 rfl rfl rfl λX F hX=>?_;refine J.q hX λbb=>?_;refine J.cb hX (l18_begun) [] ?_;refine cpq ⟨_,rfl,trivial,?_⟩;refine J.q hX λ_=>?_;refine J.cF ?_;refine J.q hX λ_=>?_;refine J.cb hX (l6_Geo g0 g1 g2) [] ?_;rintro v As ⟨D,B,P,rfl,hD,hB,hP,rfl⟩;refine⟨_,rfl,trivial,?_⟩;have hgm:geoMay D B P=true:=by simp[geoMay];omega
 refine J.q hX λ_=>?_;refine J.cb hX (l18_bench D B P hgm 50) [] ?_;rintro v As ⟨n,t,l,q,rfl,rfl⟩;refine⟨_,rfl,trivial,?_⟩;have hO0:(Dv.new D B P 50).Ok (8*Dv.fuel+(8*Dv.fuel+Dv.costC)) 0:=Dv.Ok.new D B P 50 hgm _ (by decide);refine J.q hX λ_=>?_;refine J.cb hX (l18_entry 3 5) [] ?_;refine cpq ⟨_,rfl,trivial,?_⟩;refine J.q hX λbe=>?_;refine J.join (α:={e:En//FitR e/\e.lpn=3/\(e.role=1\/e.role=2)}) (λ_=>[⟨14, .pointer (some ⟨be 0,0,none⟩),8, .tt⟩,⟨1, .int .i64 ai,0, .tt⟩,⟨2, .int .i64 bi,0, .tt⟩,⟨4, .pointer (some ⟨bb 0,0,none⟩),3, .tt⟩,⟨10, .pointer (some ⟨n,0,none⟩),0, .tt⟩,⟨12, .pointer (some ⟨l,0,none⟩),0, .tt⟩,⟨13, .pointer (some ⟨q,0,none⟩),0, .tt⟩]) (λx=>[.hp F,A, .pt (bb 0) 23 [.int .i64 D, .int .i64 B, .int .i64 P],PenA q n t l (Dv.new D B P 50),NandA n (Dv.new D B P 50).N,TlA t (Dv.new D B P 50).t,TbA l (Dv.new D B P 50).T, .pt (be 0) 38 (enL x.1)]) (λhj=>?_) (λx=>?_)
 ·cases tr with
  | true=>
   refine J.q hX λ_=>?_;refine J.cT ?_;refine J.qn hX 3 λ_=>?_;exact J.goto [0,1,2,3,4,5,6,7] (hj ⟨⟨3,5,2,zeros16⟩,⟨by decide, .inr ⟨.inl rfl,rfl⟩,rfl⟩,rfl, .inr rfl⟩) ⟨rfl,rfl,rfl,rfl,rfl,rfl,rfl,trivial⟩ rfl rfl
  | false=>
   refine J.q hX λ_=>?_;refine J.cF ?_;refine J.qn hX 1 λ_=>?_;exact J.goto [0,1,2,3,4,5,6,7] (hj ⟨e18 3 5,e18_fit (by decide),rfl, .inl rfl⟩) ⟨rfl,rfl,rfl,rfl,rfl,rfl,rfl,trivial⟩ rfl rfl
 obtain⟨e,he,hel,her⟩:=x;dsimp only;have ha1:=tm_bd ai D (by omega);have ha2:=tm_2 ai D (by omega);have hb1:=tm_bd bi D (by omega);have hb2:=tm_2 bi D (by omega);obtain⟨a,hae⟩:=Int.eq_ofNat_of_zero_le ha2.1;obtain⟨b,hbe⟩:=Int.eq_ofNat_of_zero_le hb2.1;rw[hae]at ha2;rw[hbe]at hb2;have haD:a<D:=by omega
 have hbD:b<D:=by omega
 obtain⟨S1,V,v1,v2,v3,v4,v5,v6,v7,v8,v9,v10,v11,v12⟩:=lost_carry hgm hO0 he hel her haD hbD;have hdt:∀x∈[e],x.data.length=16:=λx hx=>by simp at hx;rw[hx];exact he.len
 refine J.q hX λbz=>?_;refine J.ca hX (by kernel_rfl) (pn_Write q n t l (Dv.new D B P 50) _ 0 hO0 (.pt (bz 0) 38 (cellsE [e])) (some ⟨bz 0,0,none⟩) 1 1 [e] (pt_rd _ _ _ _ _ rfl) rfl (by decide) hdt) [3,4,5,6,8] 0 rfl rfl rfl rfl rfl rfl (λ_=>rfl) ?_;refine cpq ⟨_,rfl,trivial,?_⟩;rw[v1];dsimp only;refine J.q hX λ_=>?_;refine J.cF ?_;have hgeo:∀(N:Nand) (d:Nat),N.dies=D->N.blocks=B->N.pages=P->d<D->N.fault 3 d 0 0 0 0=(true,lostN N d):=λN d h1 h2 h3 hd=>by
  rw[fault_3 (by rw[h1,h2,h3];unfold geoIn;simp;omega)];rfl
 refine J.q hX λ_=>?_;refine J.plan (.of [0,4,9,12,16,21,24,28,33,36,40,44,49,52,56,61,64,68,73,76,80,84]) [21] [2] (by rw[hX.hP];kernel_rfl) (by kernel_rfl) ?_;refine J.q hX λ_=>?_;rw[hae,hbe];refine J.q hX λ_=>?_;refine J.cb hX (n_Fault n S1.N v2.gd.ok 0 3 a 0 0 0 0) [4] ?_;refine cpq ⟨_,rfl,trivial,?_⟩;rw[hgeo S1.N a v3 v4 v5 haD];dsimp only;have hok1:(lostN S1.N a).Ok:=by
  have h1:=v2.gd.fault0 3 (a:Nat) 0 0 0 0 (by decide);rw[hgeo S1.N a v3 v4 v5 haD]at h1;exact h1.ok
 refine J.q hX λ_=>?_;refine J.cb hX (n_Fault n (lostN S1.N a) hok1 0 3 b 0 0 0 0) [4] ?_;refine cpq ⟨_,rfl,trivial,?_⟩;rw[hgeo (lostN S1.N a) b v3 v4 v5 hbD];dsimp only;refine J.q hX λ_=>?_;refine J.cb hX (l18_Die9 D B P) [] ?_;refine cpq ⟨_,rfl,trivial,?_⟩;refine J.qn hX 8 λ_=>?_;obtain⟨x0,hx0⟩:∃x,((a:Int) !=(b:Int))=x:=⟨_,rfl⟩;obtain⟨x1,hx1⟩:∃x,((a:Int)==1)=x:=⟨_,rfl⟩;obtain⟨x2,hx2⟩:∃x,((b:Int)==1)=x:=⟨_,rfl⟩;rw[hx0];refine J.join (α:=Unit) (λ_=>[⟨18, .bool (x0&&(x1||x2)),0, .tt⟩,⟨14, .pointer (some ⟨be 0,0,none⟩),7, .tt⟩,⟨10, .pointer (some ⟨n,0,none⟩),0, .tt⟩,⟨12, .pointer (some ⟨l,0,none⟩),0, .tt⟩,⟨13, .pointer (some ⟨q,0,none⟩),0, .tt⟩]) (λ_=>[.hp F,A,PenA q n t l S1,NandA n (lostN (lostN S1.N a) b),TlA t S1.t,TbA l S1.T, .pt (be 0) 38 (enL e)]) (λhj=>?_) (λ_=>?_)
 ·cases x0 with
  | false=>
   refine J.qn hX 11 λ_=>?_;exact J.goto [0,1,3,4,5,6,7] (hj ()) ⟨rfl,rfl,rfl,rfl,rfl,trivial⟩ rfl rfl
  | true=>
   refine J.qn hX 3 λ_=>?_;rw[hx1];cases x1 with
   | true=>
    refine J.qn hX 8 λ_=>?_;exact J.goto [0,1,3,4,5,6,7] (hj ()) ⟨rfl,rfl,rfl,rfl,rfl,trivial⟩ rfl rfl
   | false=>
    refine J.qn hX 4 λ_=>?_;rw[hx2];refine J.qn hX 4 λ_=>?_;exact J.goto [0,1,3,4,5,6,7] (hj ()) ⟨rfl,rfl,rfl,rfl,rfl,trivial⟩ rfl rfl
 have hx:(x0&&(x1||x2))=decide (a≠b/\(a=1\/b=1)):=by
  rw[<- hx0,<- hx1,<- hx2,Bool.eq_iff_iff];simp only[Bool.and_eq_true,Bool.or_eq_true,bne_iff_ne,beq_iff_eq,decide_eq_true_eq,ne_eq];omega
 rw[hx];obtain⟨E,hE⟩:∃E,lsE a b e=E:=⟨_,rfl⟩;rw[hE]at v10 v11;obtain⟨S2,hS2⟩:∃S2:Dv,S2={S1 with N:=lostN (lostN S1.N a) b}:=⟨_,rfl⟩;rw[<- hS2]at v6 v7;have e1:PenA q n t l S1=PenA q n t l S2:=by rw[hS2];rfl
 have e2:NandA n (lostN (lostN S1.N a) b)=NandA n S2.N:=by rw[hS2]
 have e3:TlA t S1.t=TlA t S2.t:=by rw[hS2]
 have e4:TbA l S1.T=TbA l S2.T:=by rw[hS2]
 rw[e1,e2,e3,e4];refine J.q hX λ_=>?_;refine J.cb hX (sw_Carry n t l q S2 _ 0 (v6.less (Nat.le_add_left _ (8*Dv.fuel)):S2.Ok (Dv.costC+0) 0) 0 9) [2,3,4,5] ?_;refine cpq ⟨_,rfl,trivial,?_⟩;rw[v7];dsimp only;refine J.q hX λ_=>?_;refine J.cb hX (tb_Get l V.T 3) [5] ?_;refine cpq ⟨_,rfl,trivial,?_⟩;rw[v10,Option.getD_some,Option.isSome_some];refine J.q hX λ_=>?_;refine J.cF ?_;refine J.q hX λ_=>?_;refine J.cb hX (f9_Read n V.N v12.ok v12.room v8 0 1 0 (L.all (D:Nat))) [3] ?_;refine cpq ⟨_,rfl,trivial,?_⟩;rw[v11];dsimp only;refine J.q hX λ_=>?_
 by_cases hL:a≠b/\(a=1\/b=1)
 ·have hEe:E=⟨3,0,4,zeros16⟩:=by rw[<- hE];unfold lsE;rw[if_pos hL]
  subst hEe;rw[decide_eq_true hL];refine J.q hX λ_=>?_;refine J.cT ?_;refine J.q hX λ_=>?_;refine J.val hX (.bool true) 0 rfl rfl (λhg x w he hw=>(eqAgg_run (xs:=enL ⟨3,2,4,zeros16⟩) (ys:=enL ⟨3,2,4,zeros16⟩) rfl rfl rfl he hg rfl leavesEn (fitsEn _) (fitsEn _) mkEn gdEn).trans (by rw[(eqEn _ _ rfl rfl).2 rfl])) rfl trivial ?_;refine J.q hX λ_=>?_;exact J.ru hX [1] ⟨rfl,rfl⟩
 ·have hEe:E={e with seq:=1}:=by rw[<- hE];unfold lsE;rw[if_neg hL]
  subst hEe;rw[decide_eq_false hL];obtain⟨el,es,er,ed⟩:=e;refine J.q hX λ_=>?_;refine J.cF ?_;refine J.q hX λ_=>?_;refine J.cb hX (l18_alike el 2 es er ed he.len) [] ?_;refine cpq ⟨_,rfl,trivial,?_⟩;refine J.q hX λ_=>?_;exact J.ru hX [1] ⟨rfl,rfl⟩
end Go.Proofs.YtdocmcapegcoeaaGreat
