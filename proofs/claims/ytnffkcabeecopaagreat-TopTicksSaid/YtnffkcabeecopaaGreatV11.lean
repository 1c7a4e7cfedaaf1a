/- Helpers. No condition. -/
import Derived.Test.YtnffkcabeecopaaGreatV03
import Derived.Test.YtnffkcabeecopaaGreatV04
import Derived.Test.YtnffkcabeecopaaGreatV05
import Derived.Test.YtnffkcabeecopaaGreatV06
import Derived.Test.YtnffkcabeecopaaGreatV07
import Derived.Test.YtnffkcabeecopaaGreatV08
import Derived.Test.YtnffkcabeecopaaGreatV09
import Derived.Test.YtnffkcabeecopaaGreatV10
set_option maxRecDepth 20000
set_option linter.all false
namespace Go.Proofs.YtnffkcabeecopaaGreat
open Go Go.RowKit
structure TlMore (fd:Int) (t t':Tl):Prop where
 has:∀b,t'.has b=t.has b
 d:t'.d=t.d
 used:∀b,t.has b=true->(t'.at_ b).used=(t.at_ b).used
 held:∀b,t.has b=true->(t'.at_ b).held=(t.at_ b).held
 tdead:L.set t'.dead=true/\∀d:Int,L.has t'.dead d=true->d=fd
 tbad:∀b,t.has b=true->L.set (t'.at_ b).bad=true/\∀d:Int,L.has (t'.at_ b).bad d=true->d=fd
 mask:∀b,t.has b=true->∀e:Int,L.has (t'.mask b) e=true->L.has (t.mask b) e=true
 td:∀e:Int,L.has t.dead e=true->L.has t'.dead e=true
theorem TlMore.refl {fd:Int} {t:Tl} (h1:L.set t.dead=true/\∀d:Int,L.has t.dead d=true->d=fd) (h2:∀b,t.has b=true->L.set (t.at_ b).bad=true/\∀d:Int,L.has (t.at_ b).bad d=true->d=fd):TlMore fd t t:=
 ⟨λ_=>rfl,rfl,λ_ _=>rfl,λ_ _=>rfl,h1,h2,λ_ _ _ h=>h,λ_ h=>h⟩
theorem TlMore.trans {fd:Int} {a b c:Tl} (h:TlMore fd a b) (g:TlMore fd b c):TlMore fd a c:=
 ⟨λx=>(g.has x).trans (h.has x),g.d.trans h.d,λx hx=>(g.used x (by rw[h.has];exact hx)).trans (h.used x hx),λx hx=>(g.held x (by rw[h.has];exact hx)).trans (h.held x hx),g.tdead,λx hx=>g.tbad x (by rw[h.has];exact hx),λx hx e he=>h.mask x hx e (g.mask x (by rw[h.has];exact hx) e he),λe he=>g.td e (h.td e he)⟩
theorem b2D {fd:Int} {t:Tl} (h8:t.d<=8) (h1:L.set t.dead=true/\∀d:Int,L.has t.dead d=true->d=fd) (h2:∀b,t.has b=true->L.set (t.at_ b).bad=true/\∀d:Int,L.has (t.at_ b).bad d=true->d=fd) {d:Nat} (hd:d<8) (hfd:(d:Int)=fd):TlMore fd t (t.die d)/\(d<t.d->∀b,t.has b=true->L.has ((t.die d).mask b) fd=false):=by
 unfold Tl.die;split
 ·have hw:=L.set_with h1.1 (d:=(d:Int)) (by omega);have hwh:=L.with_has h1.1 (d:=(d:Int)) (by omega);have hmk:∀b,t.has b=true->∀e:Int,L.has (Tl.mask ⟨t.d,t.b,t.p,t.l,L.with_ t.dead d⟩ b) e=((decide (0<=e)&&decide (e<t.d))&& !L.has (L.with_ t.dead (d:Int)) e&& !L.has (t.at_ b).bad e):=λb hb e=>(A5 (t:=⟨t.d,t.b,t.p,t.l,L.with_ t.dead d⟩) (b:=b) h8 hb hw (h2 b hb).1).2 e;refine⟨⟨λb=>rfl,rfl,λb hb=>rfl,λb hb=>rfl,⟨hw,λe he=>?_⟩,h2,λb hb e he=>?_,λe he=>?_⟩,λ_ b hb=>?_⟩
  ·have he:L.has (L.with_ t.dead (d:Int)) e=true:=he;rw[hwh]at he;rcases Bool.or_eq_true _ _▸he with he | he
   ·exact h1.2 e he
   ·simp only[decide_eq_true_eq]at he;omega
  ·rw[hmk b hb,hwh]at he;rw[(A5 h8 hb h1.1 (h2 b hb).1).2];simp only[Bool.and_eq_true,Bool.not_eq_true',Bool.or_eq_false_iff]at he ⊢;exact⟨⟨he.1.1,he.1.2.1⟩,he.2⟩
  ·show L.has (L.with_ t.dead (d:Int)) e=true;rw[hwh,he];rfl
  ·rw[hmk b hb,hwh,decide_eq_true hfd.symm];simp
 ·rename_i hh;refine⟨TlMore.refl h1 h2,λhlt=>?_⟩;simp only[Tl.hasDie,Bool.and_eq_true,decide_eq_true_eq]at hh;omega
theorem a7o {fd:Int} {t:Tl} (hl:t.l.length=t.b) (h8:t.d<=8) (h1:L.set t.dead=true/\∀d:Int,L.has t.dead d=true->d=fd) (h2:∀b,t.has b=true->L.set (t.at_ b).bad=true/\∀d:Int,L.has (t.at_ b).bad d=true->d=fd) {d:Nat} (hd:d<8) (hfd:(d:Int)=fd) (k:Int):TlMore fd t (t.bad d k)/\(d<t.d->t.has k=true->L.has ((t.bad d k).mask k) fd=false):=by
 unfold Tl.bad;split
 ·cases hop:t.has k with
  | false=>
   rw[Tl.set_no _ hop];exact⟨TlMore.refl h1 h2,λ_ h=>by cases h⟩
  | true=>
   have hb0:=h2 k hop;have hw:=L.set_with hb0.1 (d:=(d:Int)) (by omega);have hwh:=L.with_has hb0.1 (d:=(d:Int)) (by omega);have hat:∀b,t.has b=true->(t.set k {t.at_ k with bad:=L.with_ (t.at_ k).bad d}).at_ b=if b=k then {t.at_ k with bad:=L.with_ (t.at_ k).bad d}else t.at_ b:=λb hb=>Tl.at_set hl _ hop hb
   have hbad:∀b,t.has b=true->L.set ((t.set k {t.at_ k with bad:=L.with_ (t.at_ k).bad d}).at_ b).bad=true/\(∀e:Int,L.has ((t.set k {t.at_ k with bad:=L.with_ (t.at_ k).bad d}).at_ b).bad e=true->e=fd)/\(∀e:Int,L.has (t.at_ b).bad e=true->L.has ((t.set k {t.at_ k with bad:=L.with_ (t.at_ k).bad d}).at_ b).bad e=true):=λb hb=>by
    rw[hat b hb];split
    ·rename_i e;subst e;dsimp only;refine⟨hw,λe he=>?_,λe he=>?_⟩
     ·rw[hwh]at he;rcases Bool.or_eq_true _ _▸he with he | he
      ·exact hb0.2 e he
      ·simp only[decide_eq_true_eq]at he;omega
     ·rw[hwh,he];rfl
    ·exact⟨(h2 b hb).1,(h2 b hb).2,λe he=>he⟩
   have hmk:∀b,t.has b=true->∀e:Int,L.has ((t.set k {t.at_ k with bad:=L.with_ (t.at_ k).bad d}).mask b) e=((decide (0<=e)&&decide (e<t.d))&& !L.has t.dead e&& !L.has ((t.set k {t.at_ k with bad:=L.with_ (t.at_ k).bad d}).at_ b).bad e):=λb hb e=>by
    have:=(A5 (t:=t.set k {t.at_ k with bad:=L.with_ (t.at_ k).bad d}) (b:=b) (by rw[Tl.set_d];exact h8) (by rw[Tl.has_set];exact hb) (by rw[Tl.set_dead];exact h1.1) (hbad b hb).1).2 e
    rwa [Tl.set_d,Tl.set_dead]at this
   refine⟨⟨λb=>Tl.has_set _ _ _ _,Tl.set_d _ _ _,λb hb=>?_,λb hb=>?_,by rw[Tl.set_dead];exact h1,λb hb=>⟨(hbad b hb).1,(hbad b hb).2.1⟩,λb hb e he=>?_,λe he=>by rw[Tl.set_dead];exact he⟩,λ_ _=>?_⟩
   ·rw[hat b hb];split
    ·rename_i e;rw[e]
    ·rfl
   ·rw[hat b hb];split
    ·rename_i e;rw[e]
    ·rfl
   ·rw[hmk b hb]at he;rw[(A5 h8 hb h1.1 (h2 b hb).1).2];simp only[Bool.and_eq_true,Bool.not_eq_true']at he ⊢;refine⟨he.1,?_⟩;cases hx:L.has (t.at_ b).bad e with
    | false=>rfl
    | true=>rw[(hbad b hb).2.2 e hx]at he;exact absurd he.2 (by decide)
   ·rw[hmk k hop,hat k hop,if_pos rfl,hwh,decide_eq_true hfd.symm];simp
 ·rename_i hh;refine⟨TlMore.refl h1 h2,λhlt=>?_⟩;simp only[Tl.hasDie,Bool.and_eq_true,decide_eq_true_eq]at hh;omega
theorem a3R {α:Type} {p q:α->Bool}:∀{K:List α},(∀x∈K,p x=true->q x=true)->∀{x:α},x∈K->p x=false->q x=true->K.countP p+1<=K.countP q
 | [],_,x,hx,_,_=>by cases hx
 | y::K,h,x,hx,hp,hq=>by
  rw[List.countP_cons,List.countP_cons];rcases List.mem_cons.1 hx with rfl | hx
  ·rw[hp,hq];have:=List.countP_mono_left (p:=p) (q:=q) (l:=K) λz hz=>h z (by simp[hz]);simp only[Bool.false_eq_true,if_false,if_true];omega
  ·have ih:=a3R (K:=K) (λz hz=>h z (by simp[hz])) hx hp hq;have hy:=h y (by simp);cases h1:p y with
   | false=>simp only[Bool.false_eq_true,if_false];omega
   | true=>rw[hy h1];simp only[if_true];omega
theorem b4X {t:Tl} (hl:t.l.length=t.b) (k:Int) (s:Sb) (hs:t.has k=true->s.bad=(t.at_ k).bad) (j:Int):(t.set k s).mask j=t.mask j:=by
 cases hk:t.has k with
 | false=>rw[Tl.set_no _ hk]
 | true=>
  unfold Tl.mask Tl.alive;rw[Tl.has_set,Tl.set_d,Tl.set_dead];split
  ·rename_i hj;congr 1;rw[Tl.at_set hl _ hk hj];split
   ·rename_i e;rw[hs hk,e]
   ·rfl
  ·rfl
theorem a3F (b r:Int):∀(q:List (Int×Sh)) (N:Nand) (f:Int),RdyR N b r q->N.plan.Nodup->∀x∈q,N.dead.getD x.1.toNat false=false->(x.1,b,r)∉(R.go b r q N f).1.plan
 | [],_,_,_,_,x,hx,_=>by cases hx
 | (d,s)::q,N,f,h,hp,x,hx,hxd=>by
  have hxi:=h.inn (d,s) (by simp);have hc:=h.cells (d,s) (by simp);dsimp only at hxi hc;have hr:=h.lit.refuses hxi h.blk h.row;have hnd:=List.nodup_cons.1 h.nodup;have hne:∀x∈q,x.1≠d:=λx hxq e=>hnd.1 (List.mem_map.2 ⟨x,hxq,e⟩);have hne2:∀x∈q,x.1.toNat≠d.toNat:=λx hxq e=>by
   have:=h.inn x (by simp[hxq]);exact hne x hxq (by omega)
  by_cases hdd:N.dead.getD d.toNat false=true
  ·rw[hdd,if_pos rfl]at hr;have e1:N.progE d b r=8:=by unfold Nand.progE;rw[if_pos (by rw[hr];decide),hr]
   have e2:N.progN d b r (B8 s)=N:=by unfold Nand.progN;rw[if_pos (by rw[hr];decide)]
   have eg:R.go b r ((d,s)::q) N f=R.go b r q N (L.with_ f d):=by rw[R.go,if_neg (by rw[e1];decide),if_neg (by rw[e1];decide),e2]
   rw[eg];rcases List.mem_cons.1 hx with rfl | hx
   ·dsimp only at hxd;rw[hdd]at hxd;cases hxd
   ·exact a3F b r q N (L.with_ f d) ⟨h.lit,hnd.2,λx hxq=>h.inn x (by simp[hxq]),h.blk,h.row,λx hxq=>h.cells x (by simp[hxq])⟩ hp x hx hxd
  ·have hdd:N.dead.getD d.toNat false=false:=by simpa using hdd
   have hc:=hc hdd;rw[hdd,if_neg (by decide)]at hr;have e1:=a0J hr hc.symm h.lit.cutB;have e2:=a0I (pg:=B8 s) hr hc.symm h.lit.cutB;obtain⟨N1,hN1⟩:∃N1,N.progN d b r (B8 s)=N1:=⟨_,rfl⟩;rw[hN1]at e2;have hb:∀i j,N1.blk i j=if i=d.toNat/\j=b.toNat then {N.blk d.toNat b.toNat with cells:=(N.blk d.toNat b.toNat).cells++[⟨B8 s,N.fails d b r,false⟩]}else N.blk i j:=λi j=>by rw[e2];rfl
   have hlike:N.Like N1:=by rw[e2];exact⟨rfl,rfl,rfl⟩
   have hlit:N1.Lit:=by rw[<- hN1];exact h.lit.prog _ _ _ _
   have hdead:N1.dead=N.dead:=by rw[e2];rfl
   have hplan:N1.plan=N.plan.erase (d,b,r):=by rw[e2];rfl
   have hq:∀x∈q,N1.blk x.1.toNat b.toNat=N.blk x.1.toNat b.toNat:=λx hxq=>by rw[hb,if_neg (by have:=hne2 x hxq;omega)]
   obtain⟨f1,hf1⟩:∃f1,(if N.fails d b r then L.with_ f d else f)=f1:=⟨_,rfl⟩;have eg:R.go b r ((d,s)::q) N f=R.go b r q N1 f1:=by
    rw[R.go,e1,hN1,<- hf1];cases N.fails d b r with
    | true=>rw[if_pos rfl,if_neg (by decide),if_neg (by decide),if_pos rfl]
    | false=>rw[if_neg Bool.false_ne_true,if_pos rfl,if_neg Bool.false_ne_true]
   have hR1:RdyR N1 b r q:=⟨hlit,hnd.2,λx hxq=>by rw[hlike.dies];exact h.inn x (by simp[hxq]),by rw[hlike.blocks];exact h.blk,by rw[hlike.pages];exact h.row,λx hxq hd=>by rw[hq x hxq];exact h.cells x (by simp[hxq]) (by rw[<- hdead];exact hd)⟩;rw[eg];rcases List.mem_cons.1 hx with rfl | hx
   ·intro hm;have:=(b5g b r q N1 f1 hR1).2.2.plan _ hm;rw[hplan]at this;exact(hp.mem_erase_iff.1 this).1 rfl
   ·exact a3F b r q N1 f1 hR1 (by rw[hplan];exact hp.erase _) x hx (by rw[hdead];exact hxd)
theorem a6J {N:Nand} {b r m:Int} {l:List En} (h:RdyW N b r m) (hR:RowIs N b r m l) (hp:N.plan.Nodup) {d:Nat} (hd:L.has m (d:Nat)=true) (ha:N.dead.getD d false=false):((d:Int),b,r)∉(R.write N b r m l).1.plan:=by
 obtain⟨x,hx,hxd⟩:=hR.on hd;have:=a3F b r _ N 0 (h.rdy hR) hp x hx (by rw[hxd,Int.toNat_natCast];exact ha);rw[hxd]at this;unfold R.write;rw[hR.par,if_pos rfl];exact this
def a2Z (N:Nand) (fd b:Int):Bool:=N.plan.any λa=>a.1==fd&&a.2.1==b
theorem planB_iff {N:Nand} {fd b:Int}:a2Z N fd b=true↔∃a∈N.plan,a.1=fd/\a.2.1=b:=by
 unfold a2Z;simp only[List.any_eq_true,Bool.and_eq_true,beq_iff_eq]
theorem O3 {N N':Nand} (h:∀a∈N'.plan,a∈N.plan) {fd b:Int} (hb:a2Z N' fd b=true):a2Z N fd b=true:=by
 obtain⟨a,h1,h2⟩:=planB_iff.1 hb;exact planB_iff.2 ⟨a,h a h1,h2⟩
def a1z (fd:Int) (S:Dv) (b:Nat):Bool:=a2Z S.N fd (b:Int)&&L.has (S.t.mask (b:Int)) fd
def a2q (fd:Int) (S:Dv):Nat:=(List.range S.t.b).countP (a1z fd S)
structure Brn (fd:Int) (S:Dv) (β:Nat):Prop where
 pos:0<=fd
 dead:∀i:Nat,S.N.dead.getD i false=false
 met:∀i j:Nat,(S.N.blk i j).met=false
 fl:∀i j:Nat,(S.N.blk i j).fails=false
 rng:∀a∈S.N.plan,0<=a.2.2/\a.2.2<S.N.pages
 cnt:a2q fd S<=β
 at_:∀b:Int,S.t.has b=true->L.has (S.t.mask b) fd=true->a2Z S.N fd b=true->b=S.op\/(S.t.at_ b).used=false
 opn:S.op>=0->L.has S.mask fd=L.has (S.t.mask S.op) fd/\(L.has S.mask fd=true->∀a∈S.N.plan,a.1=fd->a.2.1=S.op->S.row<=a.2.2)
theorem a1y {fd:Int} {S V:Dv} (hb:V.t.b=S.t.b) (hp:∀a∈V.N.plan,a∈S.N.plan) (hm:∀b:Int,S.t.has b=true->L.has (V.t.mask b) fd=true->L.has (S.t.mask b) fd=true):a2q fd V<=a2q fd S:=by
 unfold a2q;rw[hb];refine List.countP_mono_left λb hbm h=>?_;unfold a1z at h ⊢;rw[Bool.and_eq_true]at h ⊢;exact⟨O3 hp h.1,hm _ (Tl.has_iff.2 (by have:=List.mem_range.1 hbm;omega)) h.2⟩
theorem a7u {f:Int} {d:Nat}:∀(q:List Nat) (S:Dv),q.Nodup->(∀e∈q,e≠d->L.has f (e:Nat)=false)->q.foldl (Dv.lose f) S=if d∈q then Dv.lose f S d else S
 | [],S,_,_=>rfl
 | e::q,S,hnd,h=>by
  have hn:=List.nodup_cons.1 hnd;rw[List.foldl_cons,a7u q _ hn.2 λx hx=>h x (by simp[hx])]
  by_cases he:e=d
  ·subst he;rw[if_neg hn.1,if_pos (by simp)]
  ·have h1:Dv.lose f S e=S:=by unfold Dv.lose;rw[h e (by simp) he,if_neg Bool.false_ne_true]
   rw[h1]
   by_cases hq:d∈q
   ·rw[if_pos hq,if_pos (by simp[hq])]
   ·rw[if_neg hq,if_neg (by simp[hq];exactλe2=>he e2.symm)]
theorem a4Y {fd:Int} {S:Dv} {k m:Nat} {l:List En} (hi:Inv fd S) (hO:S.Ok (8+k) m) (hl:S.left=true) (hf:∀e∈l,FitR e) (hn:¬S.next>1099511627775-(S.fit l:Int)+1) (hb:(S.wr l).2.1≠0):∃d:Nat,fd=(d:Int)/\d<S.N.dies/\(S.wrote l).loses (S.wr l).2.1=Dv.lose (S.wr l).2.1 (S.wrote l) d/\L.has (S.wr l).2.1 (d:Nat)=true:=by
 have ht:=hi.turn hO hl hf hn;obtain⟨_,b2,b3,b4,b5,b6,b7⟩:=hi.burn hO hl hf hn hb;obtain⟨d,hd,_⟩:=L.has_rng b3;have hdD:d<S.N.dies:=by have:=(hi.opn hl).mask.lt _ b3;omega
 refine⟨d,hd,hdD,?_,by rw[ht.fail d (by rw[<- hd];exact b3),<- hd];exact b6⟩;unfold Dv.loses;rw[a7u (d:=d) _ _ List.nodup_range λe _ he=>?_,if_pos (List.mem_range.2 (by rw[ht.like.dies];exact hdD))];cases hh:L.has (S.wr l).2.1 (e:Nat)with
 | false=>rfl
 | true=>have:=(ht.only _ hh).1;omega
theorem b0A {fd:Int} {S:Dv} {k m:Nat} {l:List En} (hi:Inv fd S) (hO:S.Ok (8+k) m) (hl:S.left=true) (hf:∀e∈l,FitR e) (hn:¬S.next>1099511627775-(S.fit l:Int)+1) (hb:(S.wr l).2.1≠0) (hdd:S.N.dead.getD fd.toNat false=true):L.has ((S.wrote l).loses (S.wr l).2.1).t.dead fd=true:=by
 have hg:=hO.gd.ok.bd16;have ht:=hi.turn hO hl hf hn;obtain⟨d,rfl,hd,e,hh⟩:=a4Y hi hO hl hf hn hb;rw[Int.toNat_natCast]at hdd;rw[e];unfold Dv.lose;rw[if_pos hh];have h1:(S.wrote l).N.deadAt (d:Nat)=true:=by
  unfold Nand.deadAt;rw[Int.toNat_natCast,ht.dead,hdd,ht.like.dies,decide_eq_true (by omega),decide_eq_true (by omega)];rfl
 have h2:(S.wrote l).t.hasDie (d:Nat)=true:=by
  have:=hO.t.d;show S.t.hasDie (d:Nat)=true;simp only[Tl.hasDie,Bool.and_eq_true,decide_eq_true_eq];omega
 dsimp only;rw[if_pos h1];unfold Tl.die;rw[if_pos h2];show L.has (L.with_ S.t.dead (d:Nat)) (d:Nat)=true;rw[L.with_has hi.tdead.1 (by omega),decide_eq_true rfl,Bool.or_true]
namespace Brn
variable {fd : Int} {S : Dv} {β k m : Nat} {l : List En}
theorem tab (h:Brn fd S β) (T:Tb):Brn fd {S with T:=T} β:=⟨h.pos,h.dead,h.met,h.fl,h.rng,h.cnt,h.at_,h.opn⟩
theorem opened (h:Brn fd S β) (hi:Inv fd S) (hO:S.Ok k m) (hl:S.left=false) (hp:¬S.pick<0):Brn fd S.opened β:=by
 have hg:=hO.gd.ok.bd16;have hlen:=hO.t.len;rcases S.pick_spec with e | ⟨p1,p2,p3,p4⟩
 ·omega
 have hhas:S.t.has S.pick=true:=Tl.has_iff.2 ⟨p1,p2⟩;have hmk:∀j,S.opened.t.mask j=S.t.mask j:=λj=>Dv.mask_clean hlen _ _ _;have hat:∀b,S.t.has b=true->(S.opened.t.at_ b)=if b=S.pick then {S.t.at_ S.pick with used:=true}else S.t.at_ b:=λb hb=>Tl.at_set hlen _ hhas hb
 have hhs:∀b,S.opened.t.has b=S.t.has b:=λb=>Tl.has_set _ _ _ _;have hrow0:S.op>=0->S.N.pages<=S.row:=λh0=>by
  rcases hi.op with e | e
  ·omega
  ·have hps:=(e.mask.pos hg.1).1;cases hh:decide (S.row<S.N.pages)with
   | false=>have:=of_decide_eq_false hh;omega
   | true=>
    have:S.left=true:=by
     unfold Dv.left;rw[decide_eq_true h0,hh,decide_eq_true (by omega)];rfl
    rw[hl]at this;cases this
 refine⟨h.pos,h.dead,h.met,h.fl,h.rng,Nat.le_trans (a1y (S:=S) (V:=S.opened) (by show(S.t.clean S.pick false).b=S.t.b;exact Tl.set_b _ _ _) (λa ha=>ha) λb _ hb=>by rw[<- hmk];exact hb) h.cnt,λb hb hm hpb=>?_,λ_=>⟨?_,λ_ a ha _ _=>(h.rng a ha).1⟩⟩
 ·rw[hhs]at hb;rw[hmk]at hm;rcases h.at_ b hb hm hpb with e | e
  ·have h0:=(Tl.has_iff.1 hb).1;have hop:=h.opn (by omega);obtain⟨a,a1,a2,a3⟩:=planB_iff.1 hpb;have h1:=hop.2 (by rw[hop.1,<- e];exact hm) a a1 a2 (a3.trans e);have h2:=(h.rng a a1).2;have h3:=hrow0 (by omega);omega
  ·by_cases e2:b=S.pick
   ·exact .inl e2
   ·rw[hat b hb,if_neg e2];exact .inr e
 ·show L.has ((S.t.clean S.pick false).mask S.pick) fd=L.has (S.opened.t.mask S.pick) fd;rfl
theorem wrote (h:Brn fd S β) (hi:Inv fd S) (hO:S.Ok k m) (hl:S.left=true) (hf:∀e∈l,FitR e) (hn:¬S.next>1099511627775-(S.fit l:Int)+1):Brn fd (S.wrote l) β:=by
 have ht:=hi.turn hO hl hf hn;have ho:=hi.opn hl;have hR:=hi.rowIs hO hl hf hn;have hrdy:RdyW S.N S.op S.row S.mask:=⟨hi.lit,λd hd ha=>(ho.cells d hd).2 ha⟩;refine⟨h.pos,λi=>by rw[ht.dead];exact h.dead i,λi j=>by rw[(ht.flags i j).1];exact h.met i j,λi j=>by rw[(ht.flags i j).2.1];exact h.fl i j,λa ha=>by rw[ht.like.pages];exact h.rng a (ht.plan a ha),Nat.le_trans (a1y (S:=S) (V:=S.wrote l) rfl ht.plan λb _ hb=>hb) h.cnt,λb hb hm hp=>h.at_ b hb hm (O3 ht.plan hp),λh0=>?_⟩;have hop:=h.opn h0;refine⟨hop.1,λhm a ha a1 a2=>?_⟩;have hm:L.has S.mask fd=true:=hm;have h1:=hop.2 hm a (ht.plan a ha) a1 a2;have h2:a≠(fd,S.op,S.row):=λe=>by
  obtain⟨d,hd⟩:=Int.eq_ofNat_of_zero_le h.pos;have:=a6J (d:=d) hrdy hR hO.gd.nodup (by rw[<- hd];exact hm) (h.dead d);rw[<- hd,<- e]at this;exact this ha
 show S.row+1<=a.2.2;have:a.2.2≠S.row:=λe=>h2 (by
  obtain⟨x,y,z⟩:=a;have a2:y=S.op:=a2;dsimp only at a1 e;rw[a1,a2,e])
 omega
theorem burnt (h:Brn fd S β) (hi:Inv fd S) (hO:S.Ok (8+k) m) (hl:S.left=true) (hf:∀e∈l,FitR e) (hn:¬S.next>1099511627775-(S.fit l:Int)+1) (hb:(S.wr l).2.1≠0):1<=β/\Brn fd ((S.wrote l).loses (S.wr l).2.1) (β-1):=by
 have hg:=hO.gd.ok.bd16;have hs:=Dv.left_spec hl;have ht:=hi.turn hO hl hf hn;have hw:=h.wrote hi hO hl hf hn;obtain⟨_,b2,b3,b4,b5,b6,b7⟩:=hi.burn hO hl hf hn hb;obtain⟨d,hd,hdD,hone,hfb⟩:=a4Y hi hO hl hf hn hb;have hlose:Dv.lose (S.wr l).2.1 (S.wrote l) d={S.wrote l with t:=S.t.bad d S.op,mask:=L.without S.mask d}:=by
  unfold Dv.lose;rw[if_pos hfb,if_neg]
  ·rfl
  ·unfold Nand.deadAt;rw[Int.toNat_natCast,hw.dead];simp
 have hlen:=hO.t.len;have hhas:S.t.has S.op=true:=Tl.has_iff.2 ⟨hs.1,by have:=(hi.opn hl).blk;have:=hO.t.b;omega⟩;obtain⟨m1,m2⟩:=a7o (fd:=fd) hlen (by have:=hO.t.d;omega) hi.tdead hi.tbad (d:=d) (by omega) hd.symm S.op;have m2:=m2 (by have:=hO.t.d;omega) hhas;have hmsk:L.has (L.without S.mask (d:Int)) fd=false:=by
  rw[L.without_has (hi.opn hl).mask.set (by omega),hd];simp
 rw[hone,hlose];have hplan:a2Z S.N fd S.op=true:=by
  unfold Nand.failB Nand.fails at b6;rw[hd,Int.toNat_natCast,h.dead,h.met,Bool.false_or,Bool.or_false,decide_eq_true_eq]at b6;exact planB_iff.2 ⟨_,b6,hd.symm,rfl⟩
 have hbt:(S.t.bad d S.op).b=S.t.b:=by unfold Tl.bad;split;(· exact Tl.set_b _ _ _);rfl
 have hcnt:a2q fd {S.wrote l with t:=S.t.bad d S.op,mask:=L.without S.mask d}+1<=a2q fd S:=by
  unfold a2q;show List.countP _ (List.range (S.t.bad d S.op).b)+1<=_;rw[hbt];refine a3R (x:=S.op.toNat) (λb hbm hh=>?_) (List.mem_range.2 (by have:=(Tl.has_iff.1 hhas).2;omega)) ?_ ?_
  ·unfold a1z at hh ⊢;rw[Bool.and_eq_true]at hh ⊢;exact⟨O3 ht.plan hh.1,m1.mask _ (Tl.has_iff.2 (by have:=List.mem_range.1 hbm;omega)) _ hh.2⟩
  ·unfold a1z;rw[show((S.op.toNat:Nat):Int)=S.op from by omega];show(_&&L.has ((S.t.bad d S.op).mask S.op) fd)=false;rw[m2];simp
  ·unfold a1z;rw[show((S.op.toNat:Nat):Int)=S.op from by omega,hplan,<- (h.opn hs.1).1,b3];rfl
 have hcnt0:=h.cnt;refine⟨by omega,⟨h.pos,hw.dead,hw.met,hw.fl,hw.rng,by omega,λb hb2 hm hp=>?_,λh0=>⟨?_,λhm=>?_⟩⟩⟩
 ·have hb2:(S.t.bad d S.op).has b=true:=hb2;rw[m1.has]at hb2;have hm:L.has ((S.t.bad d S.op).mask b) fd=true:=hm;rcases h.at_ b hb2 (m1.mask b hb2 _ hm) (O3 ht.plan hp)with e | e
  ·exact .inl e
  ·right;show((S.t.bad d S.op).at_ b).used=false;rw[m1.used b hb2];exact e
 ·show L.has (L.without S.mask (d:Int)) fd=L.has ((S.t.bad d S.op).mask S.op) fd;rw[hmsk,m2]
 ·have hm:L.has (L.without S.mask (d:Int)) fd=true:=hm;rw[hmsk]at hm;cases hm
end Brn
theorem Went.refl {fd:Int} {S:Dv} (h:Inv fd S):Went fd S S 0:=
 ⟨h,rfl,by omega,rfl,rfl,Nand.Like.refl _,λ_ h=>h,λ_ _=>⟨rfl,rfl,rfl⟩,rfl,λ_ _ _=>rfl,λ_ _ h=>h,λ_ _=>⟨rfl,rfl,λh=>h⟩,λ_ h=>h⟩
theorem Went.trans {fd:Int} {S Q P:Dv} {β γ:Nat} (h:Went fd S Q β) (hh:∀b,Q.t.has b=S.t.has b) (g:Went fd Q P γ):Went fd S P (β+γ):=by
 have h1:=h.next;have h2:=g.next;have h3:=h.rows;have h4:=g.rows;refine⟨g.inv,g.T.trans h.T,by omega,g.dead.trans h.dead,g.broken.trans h.broken,h.like.trans g.like,λa ha=>h.plan a (g.plan a ha),λi j=>?_,by omega,λi a ha=>(g.reads i a (h.stay i a ha)).trans (h.reads i a ha),λi a ha=>g.stay i a (h.stay i a ha),λb hb=>?_,λd hd=>g.td d (h.td d hd)⟩
 ·have a1:=h.flags i j;have a2:=g.flags i j;exact⟨a2.1.trans a1.1,a2.2.1.trans a1.2.1,a2.2.2.trans a1.2.2⟩
 ·have a1:=h.sb b hb;have a2:=g.sb b (by rw[hh];exact hb);exact⟨a2.1.trans a1.1,a2.2.1.trans a1.2.1,λhu=>a2.2.2 (a1.2.2 hu)⟩
inductive Hot (fd:Int) (S:Dv):Nat->Prop
 | calm:NoF S->Hot fd S 0
 | cold:L.has S.t.dead fd=true->L.has S.mask fd=false->Hot fd S 0
 | there:S.left=true->L.has S.mask fd=false->Hot fd S 0
 | once:L.has S.t.dead fd=true->Hot fd S 1
 | burnt:L.has S.mask fd=false->Hot fd S 1
 | any:Hot fd S 2
 | brn {β:Nat}:Brn fd S β->Hot fd S β
 | dead:S.N.dead.getD fd.toNat false=true->Hot fd S 1
structure Last (fd:Int) (Q:Dv) (l:List En):Prop where
 left:Q.left=true
 err:(Q.wr l).2.1=0
 bd:¬Q.next>1099511627775-(Q.fit l:Int)+1
 turn:Inv.Turn fd Q l
def u0 (Q:Dv) (l:List En):Dv:={Q.wrote l with T:=Dv.puts Q.T Q.op Q.row Q.mask (Q.es l) (Q.fit l)}
namespace Inv
variable {fd : Int} {S : Dv} {k m : Nat} {l : List En}
theorem has_same {Q:Dv} (hO:S.t.Fit S.N) (hQ:Q.t.Fit Q.N) (hl:S.N.Like Q.N) (b:Int):Q.t.has b=S.t.has b:=by
 unfold Tl.has;rw[show Q.t.b=S.t.b from by rw[hQ.b,hO.b,hl.blocks]]
theorem rows_pos (h:Inv fd S) (hO:S.Ok k m) (hr:0<S.rows):S.left=true\/¬S.pick<0:=by
 have hg:=hO.gd.ok.bd16
 by_cases hb:S.t.blanks=0
 ·left;unfold Dv.rows at hr;rw[hb,Nat.mul_zero,Nat.zero_add]at hr;split at hr
  ·rename_i h0;rcases h.op with e | e
   ·omega
   ·have:=(e.mask.pos hg.1).1;unfold Dv.left;rw[decide_eq_true h0,decide_eq_true (by omega),decide_eq_true (by omega)];rfl
  ·omega
 ·right;obtain⟨s,hs,hu⟩:=List.countP_pos_iff.1 (show 0<S.t.l.countP λs=>!s.used by unfold Tl.blanks at hb;omega);obtain⟨j,hj,rfl⟩:=List.mem_iff_getElem.1 hs;have hlen:=hO.t.len;have hhas:S.t.has (j:Nat)=true:=Tl.has_iff.2 (by omega);have hat:S.t.at_ (j:Nat)=S.t.l[j]:=by unfold Tl.at_;rw[Int.toNat_natCast,List.getD_eq_getElem?_getD,List.getElem?_eq_getElem hj,Option.getD_some]
  have hunu:(S.t.at_ (j:Nat)).used=false:=by rw[hat];simpa using hu
  have hcnt:S.T.count (j:Nat)=0:=by
   rw[hO.T.cnt];unfold Tb.cntB;congr 1;rw[List.countP_eq_zero];intro x hx hxb;simp only[beq_iff_eq]at hxb;have hlk:Tb.look S.T.at_ x.1=some x.2:=by
    cases hh:Tb.look S.T.at_ x.1 with
    | none=>rw[Tb.look_none]at hh;exact absurd (List.mem_map.2 ⟨x,hx,rfl⟩) hh
    | some a=>
     have hm:=Tb.look_mem hh;have hn:=hO.T.keys;obtain⟨i1,g1,e1⟩:=List.mem_iff_getElem.1 hm;obtain⟨i2,g2,e2⟩:=List.mem_iff_getElem.1 hx;have:i1=i2:=(List.getElem?_inj (by rw[List.length_map];exact g1) hn).1 (by rw[List.getElem?_map,List.getElem?_map,List.getElem?_eq_getElem g1,List.getElem?_eq_getElem g2,e1,e2];rfl);subst this;rw[e1]at e2;rw[<- e2]
   have:=(h.st _ _ hlk).used;rw[hxb,hunu]at this;cases this
  have hop:(j:Int)≠S.op:=λe=>by
   rcases h.op with e2 | e2
   ·omega
   ·have:=e2.used;rw[<- e,hunu]at this;cases this
  have hmem:((j:Nat):Int)∈f7 (y9 S.t S.T) S.op S.t.b:=mem_pkSome.2 ⟨by omega,by omega,hop,by
   unfold y9;rw[h.usable hO hhas,hcnt];simp only[Tl.blank,hhas,hunu];rfl⟩
  intro hp;rcases a4N (λx y=>y6 (S.t.wear x) (S.t.wear y)) (y9 S.t S.T) S.op S.t.b with e | e
  ·rw[e.2]at hmem;cases hmem
  ·have:=e.2;unfold Dv.pick at hp;omega
theorem write_go:∀(β f:Nat) (S:Dv) (k:Nat),Inv fd S->S.Ok (8*(f+β+1)+k) m->Hot fd S β->β<S.rows->(∀e∈l,FitR e)->l.length≠0->S.next+7*(β:Int)<=1099511627775-7->
  ∃γ Q,γ<=β/\Went fd S Q γ/\Q.Ok (8+k) m/\Last fd Q l/\Dv.write (f+β+1) S l=(u0 Q l,(Q.fit l:Int),(0:Int))/\(NoF S->Q=S.at1/\γ=0)/\(0<γ->L.has S.t.dead fd=true->L.has Q.mask fd=false)/\(∀d:Int,L.has S.t.dead d=true->L.has S.mask d=false->L.has Q.mask d=false)/\(γ=0->Q=S.at1)/\(∀β2,Brn fd S β2->γ<=β2/\Brn fd Q (β2-γ))/\(0<γ->S.N.dead.getD fd.toNat false=true->L.has Q.t.dead fd=true/\L.has Q.mask fd=false)
 | β,f,S,k,h,hO,hH,hr,hf,hl0,hnx=>by
  have hg:=hO.gd.ok.bd16;have h8:S.t.d<=8:=by have:=hO.t.d;omega
  have hd:∀s∈l,s.data.length=16:=λe he=>(hf e he).len;have hns:¬(S.left=false/\S.pick<0):=λe=>by
   rcases h.rows_pos hO (by omega)with e2 | e2
   ·rw[e.1]at e2;cases e2
   ·exact e2 e.2
  --the one that is written
  obtain⟨Q,hQ⟩:∃Q,S.at1=Q:=⟨_,rfl⟩;have hW:Went fd S Q 0/\Q.left=true/\((Q=S)\/(Q=S.opened/\Q.mask=S.t.mask S.pick/\S.t.has S.pick=true))/\∀β2,Brn fd S β2->Brn fd Q β2:=by
   cases hl:S.left with
   | true=>
    have:S.at1=S:=by unfold Dv.at1;rw[hl,if_pos rfl]
    rw[<- hQ,this];exact⟨Went.refl h,hl, .inl rfl,λ_ hb=>hb⟩
   | false=>
    have hp:¬S.pick<0:=λe=>hns ⟨hl,e⟩;have e1:S.at1=S.opened:=by unfold Dv.at1;rw[hl,if_neg Bool.false_ne_true]
    have:=h.opens hO hl hp;rw[<- hQ,e1];rcases S.pick_spec with e | ⟨p1,p2,_,_⟩
    ·omega
    ·exact⟨this.1,this.2.1, .inr ⟨rfl,this.2.2,Tl.has_iff.2 ⟨p1,p2⟩⟩,λ_ hb=>hb.opened h hO hl hp⟩
  obtain⟨w1,w2,w3,w4⟩:=hW;have hQO:Q.Ok (8*(f+β+1)+k) m:=by rw[<- hQ];exact hO.at1
  have hfit:=Dv.fit_le Q l;have hn:¬Q.next>1099511627775-(Q.fit l:Int)+1:=by have:=w1.next;omega
  have ht:=w1.inv.turn hQO w2 hf hn;have hmaskd:∀d:Int,L.has S.t.dead d=true->L.has S.mask d=false->L.has Q.mask d=false:=λd h1 h2=>by
   rcases w3 with e | ⟨e,e2,e3⟩
   ·rw[e];exact h2
   ·rw[e2];have:=(A5 h8 e3 h.tdead.1 (h.tbad _ e3).1).2 d;rw[this,h1];simp
  have hmaskd2:Q≠S->∀d:Int,L.has S.t.dead d=true->L.has Q.mask d=false:=λhne d h1=>by
   rcases w3 with e | ⟨e,e2,e3⟩
   ·exact absurd e hne
   ·rw[e2];have:=(A5 h8 e3 h.tdead.1 (h.tbad _ e3).1).2 d;rw[this,h1];simp
  by_cases he:(Q.wr l).2.1=0
  ·refine⟨0,Q,by omega,w1,hQO.less (by omega),⟨w2,he,hn,ht⟩,?_,λ_=>⟨hQ.symm,rfl⟩,λh0=>by omega,hmaskd,λ_=>hQ.symm,λb2 hb2=>⟨Nat.zero_le _,w4 b2 hb2⟩,λh0=>by omega⟩;have herr:=ht.err;rw[if_pos he]at herr;rw[Dv.write_succ,if_neg hl0,if_neg hns,hQ,if_neg hn,if_neg (by rw[herr];decide),if_pos herr];rfl
  ·have herr:=ht.err;rw[if_neg he]at herr;have hQO8:Q.Ok (8+(8*(f+β)+k)) m:=hQO.less (by omega);obtain⟨b1,b2,b3,b4,b5,b6,b7⟩:=w1.inv.burn hQO8 w2 hf hn he;have hWO:=(hQO8.wrote hd (Dv.left_spec w2).2.1 hn).loses (Q.wr l).2.1;have hwr:Dv.write (f+β+1) S l=Dv.write (f+β) ((Q.wrote l).loses (Q.wr l).2.1) l:=by
    rw[Dv.write_succ,if_neg hl0,if_neg hns,hQ,if_neg hn,if_neg (by rw[herr];decide),if_neg (by rw[herr];decide),if_neg (by rw[herr];decide)]
   have hnof:¬NoF S:=λhno=>by
    have:NoF Q:=⟨λi=>by rw[w1.dead];exact hno.dead i,List.eq_nil_iff_forall_not_mem.2 λa ha=>(by have:=w1.plan a ha;rw[hno.plan]at this;cases this),λi j=>by rw[(w1.flags i j).1];exact hno.met i j⟩;have hfl:=this.fails Q.op Q.row fd.toNat
    obtain⟨x,hx,_⟩:=L.has_rng b3;rw[hx,Int.toNat_natCast]at hfl;rw[hx,hfl]at b6;cases b6
   have hBS:∀β2,Brn fd S β2->1<=β2/\Brn fd ((Q.wrote l).loses (Q.wr l).2.1) (β2-1):=λb2 hb2=>(w4 b2 hb2).burnt w1.inv hQO8 w2 hf hn he;have hDS:S.N.dead.getD fd.toNat false=true->L.has ((Q.wrote l).loses (Q.wr l).2.1).t.dead fd=true:=λhdd=>b0A w1.inv hQO8 w2 hf hn he (by rw[w1.dead];exact hdd);generalize hS2:(Q.wrote l).loses (Q.wr l).2.1=S2 at b1 b2 b4 b5 b7 hWO hwr hBS hDS;have hW2:Went fd S S2 1:=by
    have:=w1.trans (has_same hO.t hQO.t w1.like) b1
    rwa [Nat.zero_add]at this
   obtain⟨β',hβ,hH'⟩:∃β',β=β'+1/\Hot fd S2 β':=by
    cases hH with
    | calm hno=>exact absurd hno hnof
    | cold h1 h2=>rw[hmaskd fd h1 h2]at b3;cases b3
    | there h1 h2=>
     rcases w3 with e | ⟨e,_⟩
     ·rw[e,h2]at b3;cases b3
     ·have:S.at1=S:=by unfold Dv.at1;rw[h1,if_pos rfl]
      rw[<- hQ,this,h2]at b3;cases b3
    | once h1=>exact⟨0,rfl, .cold (hW2.td fd h1) b2⟩
    | burnt h1=>
     refine⟨0,rfl, .there ?_ b2⟩;rcases w3 with e | ⟨e,_⟩
     ·rw[e,h1]at b3;cases b3
     ·have hi:=b1.inv;have hQop:=(w1.inv.opn w2).blk;have e0:Q.row=0:=by rw[e];rfl
      have hpg:S2.N.pages=Q.N.pages:=b1.like.pages;have hpg2:Q.N.pages=S.N.pages:=w1.like.pages;have hop2:Opn fd S2:=by
       rcases hi.op with e2 | e2
       ·omega
       ·exact e2
      have:=(hop2.mask.pos (hWO.gd.ok.bd16.1)).1;unfold Dv.left;rw[decide_eq_true (by omega),decide_eq_true (by omega),decide_eq_true (by omega)];rfl
    | any=>exact⟨1,rfl, .burnt b2⟩
    | brn hb=>
     obtain⟨x1,x2⟩:=hBS _ hb;exact⟨β-1,by omega, .brn x2⟩
    | dead hdd=>exact⟨0,rfl, .cold (hDS hdd) b2⟩
   subst hβ;have hrows:=hW2.rows;have hnx2:=hW2.next;obtain⟨γ,P,c1,c2,c3,c4,c5,c6,c7,c8,_,c10,_⟩:=write_go β' f S2 k hW2.inv (by rw[show f+β'+1=f+(β'+1)from by omega];exact hWO) hH' (by omega) hf hl0 (by omega);refine⟨1+γ,P,by omega,hW2.trans (has_same hO.t hWO.t hW2.like) c2,c3,c4,?_,λhno=>absurd hno hnof,λ_ hdd=>c8 fd (hW2.td fd hdd) b2,λd h1 h2=>c8 d (hW2.td d h1) ?_,λe=>absurd e (by omega),λb3 hb3=>?_,λ_ hdd=>⟨c2.td fd (hDS hdd),c8 fd (hDS hdd) b2⟩⟩
   ·rw[hwr,show f+(β'+1)=f+β'+1 from by omega,c5]
   ·cases hh:L.has S2.mask d with
    | false=>rfl
    | true=>have:=b7 d hh;rw[hmaskd d h1 h2]at this;cases this
   ·obtain⟨x1,x2⟩:=hBS b3 hb3;obtain⟨y1,y2⟩:=c10 _ x2;exact⟨by omega,by rw[show b3-(1+γ)=b3-1-γ from by omega];exact y2⟩
end Inv
theorem a6d {T:Tb} (h:T.Ok) {x:Int×AtV} (hx:x∈T.at_):Tb.look T.at_ x.1=some x.2:=by
 cases hh:Tb.look T.at_ x.1 with
 | none=>rw[Tb.look_none]at hh;exact absurd (List.mem_map.2 ⟨x,hx,rfl⟩) hh
 | some a=>
  have hm:=Tb.look_mem hh;obtain⟨i1,g1,e1⟩:=List.mem_iff_getElem.1 hm;obtain⟨i2,g2,e2⟩:=List.mem_iff_getElem.1 hx;have:i1=i2:=(List.getElem?_inj (by rw[List.length_map];exact g1) h.keys).1 (by rw[List.getElem?_map,List.getElem?_map,List.getElem?_eq_getElem g1,List.getElem?_eq_getElem g2,e1,e2];rfl);subst this;rw[e1]at e2;rw[<- e2]
theorem a1r {T:Tb} {b r mk:Int} {es:List En}:∀n:Nat,(∀j,j<n->Tb.ok T (es.getD j En.zero)=true)->(∀j,j<n->∀a,Tb.look T.at_ (es.getD j En.zero).lpn=some a->a.seq<=(es.getD j En.zero).seq)->(∀i j,i<j->j<n->(es.getD i En.zero).lpn≠(es.getD j En.zero).lpn)->
  (∀j,j<n->Tb.look (Dv.puts T b r mk es n).at_ (es.getD j En.zero).lpn=some ⟨b,r,j,mk,(es.getD j En.zero).seq,(es.getD j En.zero).role⟩)/\(∀i,(∀j,j<n->(es.getD j En.zero).lpn≠i)->Tb.look (Dv.puts T b r mk es n).at_ i=Tb.look T.at_ i)
 | 0,_,_,_=>⟨λj hj=>by omega,λi _=>rfl⟩
 | n+1,h1,h2,h3=>by
  obtain⟨i1,i2⟩:=a1r n (λj hj=>h1 j (by omega)) (λj hj=>h2 j (by omega)) (λi j hij hj=>h3 i j hij (by omega));have hlog:(Dv.puts T b r mk es n).logical=T.logical:=by
   clear i1 i2 h1 h2 h3
   induction n with
   | zero=>rfl
   | succ n ih=>rw[Dv.puts_succ,Tb.put_logical];exact ih
  have hlk:Tb.look (Dv.puts T b r mk es n).at_ (es.getD n En.zero).lpn=Tb.look T.at_ (es.getD n En.zero).lpn:=i2 _ λj hj=>h3 j n hj (by omega);have hp:Tb.putB (Dv.puts T b r mk es n) (es.getD n En.zero)=true:=by
   unfold Tb.putB;have e1:Tb.ok (Dv.puts T b r mk es n) (es.getD n En.zero)=Tb.ok T (es.getD n En.zero):=by unfold Tb.ok;rw[hlog]
   have e2:Tb.elder (Dv.puts T b r mk es n) (es.getD n En.zero)=false:=by
    unfold Tb.elder;rw[hlk];cases hh:Tb.look T.at_ (es.getD n En.zero).lpn with
    | none=>rfl
    | some a=>have:=h2 n (by omega) a hh;exact decide_eq_false (by omega)
   rw[e1,e2,h1 n (by omega)];rfl
  rw[Dv.puts_succ];refine⟨λj hj=>?_,λi hi=>?_⟩
  ·rw[V.look_put]
   by_cases e:j=n
   ·subst e;rw[if_pos ⟨hp,rfl⟩]
   ·rw[if_neg (λhh=>h3 j n (by omega) (by omega) hh.2)];exact i1 j (by omega)
  ·rw[V.look_put,if_neg (λhh=>hi n (by omega) hh.2.symm)];exact i2 i λj hj=>hi j (by omega)
namespace Last
variable {fd : Int} {Q : Dv} {l : List En} {k m : Nat}
theorem opn (h:Last fd Q l) (hQ:Inv fd Q):Opn fd Q:=hQ.opn h.left
theorem seqs (_h:Last fd Q l) (hO:Q.Ok k m) {i:Nat} (hi:i<Q.fit l):i<l.length/\(Q.es l).getD i En.zero={l.getD i En.zero with seq:=Q.next+i}/\i<(Q.es l).length:=by
 have:=Dv.fit_le Q l;have hs:=Dv.slots_le Q.mask;have hi2:i<(G.slots Q.mask).toNat:=by omega
 refine⟨by omega,?_,by rw[Dv.es_len];exact hi2⟩;unfold Dv.es;rw[b4P hi2];unfold Dv.numAt;rw[if_pos (by omega)]
theorem inv (h:Last fd Q l) (hQ:Inv fd Q) (hO:Q.Ok k m):Inv fd (u0 Q l):=by
 have ho:=h.opn hQ;have hnx:=hO.next;have hf:=Dv.fit_le Q l;have he:=Dv.es_len Q l;have:=h.turn.inv.puts h.turn.full (show((Q.wrote l).t.at_ Q.op).used=true from ho.used) (λ_=>by show Q.row<Q.row+1;omega) Q.T rfl (Q.fit l) (by omega) (λi hi=>by
  obtain⟨_,e2,_⟩:=h.seqs hO hi;rw[e2];show 1<=Q.next+(i:Int)/\Q.next+(i:Int)<Q.next+(Q.fit l:Int);omega)
 exact this
theorem look (h:Last fd Q l) (hQ:Inv fd Q) (hO:Q.Ok k m) (hf:∀e∈l,FitR e) (hlg:∀e∈l,e.lpn<Q.T.logical) (hnd:(l.map (·.lpn)).Nodup):
  (∀j,j<Q.fit l->Tb.look (u0 Q l).T.at_ (l.getD j En.zero).lpn=some ⟨Q.op,Q.row,j,Q.mask,Q.next+j,(l.getD j En.zero).role⟩)/\(∀i,(∀j,j<Q.fit l->(l.getD j En.zero).lpn≠i)->Tb.look (u0 Q l).T.at_ i=Tb.look Q.T.at_ i):=by
 have hes:=λj (hj:j<Q.fit l)=>h.seqs hO hj;have hmem:∀j,j<Q.fit l->l.getD j En.zero∈l:=λj hj=>I7 (hes j hj).1;obtain⟨a1,a2⟩:=a1r (T:=Q.T) (b:=Q.op) (r:=Q.row) (mk:=Q.mask) (es:=Q.es l) (Q.fit l) (λj hj=>by
   rw[(hes j hj).2.1];have hfe:=hf _ (hmem j hj);have:=hlg _ (hmem j hj);unfold Tb.ok;have e1:decide (({l.getD j En.zero with seq:=Q.next+(j:Int)}:En).lpn<0)=false:=decide_eq_false (by have:=hfe.lpn;show¬(l.getD j En.zero).lpn<0;omega);have e2:decide (({l.getD j En.zero with seq:=Q.next+(j:Int)}:En).lpn>=Q.T.logical)=false:=decide_eq_false (by show¬(l.getD j En.zero).lpn>=Q.T.logical;omega);rw[e1,e2];show(!(false||false||((l.getD j En.zero).role !=1&&(l.getD j En.zero).role !=2&&(l.getD j En.zero).role !=4)))=true;rcases hfe.role with e | ⟨e | e,_⟩<;>rw[e]<;>rfl)
  (λj hj a ha=>by
   rw[(hes j hj).2.1]at ha ⊢;have:=(hQ.st _ a ha).seq;show a.seq<=Q.next+(j:Int);omega)
  (λi j hij hj=>by
   rw[(hes j hj).2.1,(hes i (by omega)).2.1];show(l.getD i En.zero).lpn≠(l.getD j En.zero).lpn;intro e;have g1:=(hes j hj).1;have g2:=(hes i (by omega)).1;have:(l.map (·.lpn))[i]? =(l.map (·.lpn))[j]?:=by
    rw[List.getElem?_map,List.getElem?_map,List.getElem?_eq_getElem g1,List.getElem?_eq_getElem g2];rw[List.getD_eq_getElem?_getD,List.getD_eq_getElem?_getD,List.getElem?_eq_getElem g1,List.getElem?_eq_getElem g2]at e;exact congrArg some e
   have:=(List.getElem?_inj (by rw[List.length_map];exact g2) hnd).1 this;omega)
 refine⟨λj hj=>?_,λi hi=>?_⟩
 ·have:=a1 j hj;rw[(hes j hj).2.1]at this;exact this
 ·refine a2 i λj hj=>?_;rw[(hes j hj).2.1];exact hi j hj
theorem stay (h:Last fd Q l) (hQ:Inv fd Q) (hO:Q.Ok k m) (hf:∀e∈l,FitR e) {i:Int} {a:AtV} (ha:Std fd Q i a):R.read (u0 Q l).N a.block a.row a.slot a.mask=R.read Q.N a.block a.row a.slot a.mask:=
 (hQ.turn_std h.turn hO h.left hf h.bd ha).2
theorem reads (h:Last fd Q l) (hQ:Inv fd Q) (hO:Q.Ok k m) {j:Nat} (hj:j<Q.fit l):R.read (u0 Q l).N Q.op Q.row j Q.mask=({l.getD j En.zero with seq:=Q.next+j},0):=by
 obtain⟨_,e2,e3⟩:=h.seqs hO hj;rw[<- e2];exact h.turn.full.read h.turn.inv.lit.off h.turn.inv.dead e3
theorem rows (h:Last fd Q l) (hQ:Inv fd Q):(u0 Q l).rows+1=Q.rows:=by
 have ho:=h.opn hQ;have hs:=Dv.left_spec h.left;unfold Dv.rows;have e1:(u0 Q l).N.pages=Q.N.pages:=h.turn.like.pages;have e2:(u0 Q l).t=Q.t:=rfl;have e3:(u0 Q l).op=Q.op:=rfl;have e4:(u0 Q l).row=Q.row+1:=rfl;rw[e1,e2,e3,e4,if_pos (by omega),if_pos (by omega)];have:=ho.row;omega
end Last
theorem NoF.went {fd:Int} {S Q:Dv} {β:Nat} (h:NoF S) (w:Went fd S Q β):NoF Q:=
 ⟨λi=>by rw[w.dead];exact h.dead i,List.eq_nil_iff_forall_not_mem.2 λa ha=>(by have:=w.plan a ha;rw[h.plan]at this;cases this),λi j=>by rw[(w.flags i j).1];exact h.met i j⟩
theorem NoF.wrote {fd:Int} {Q:Dv} {l:List En} (h:NoF Q) (w:Last fd Q l):NoF (u0 Q l):=
 ⟨λi=>by show(Q.wrote l).N.dead.getD i false=false;rw[w.turn.dead];exact h.dead i,List.eq_nil_iff_forall_not_mem.2 λa ha=>(by have:=w.turn.plan a ha;rw[h.plan]at this;cases this),λi j=>by show((Q.wrote l).N.blk i j).met=false;rw[(w.turn.flags i j).1];exact h.met i j⟩
theorem NoF.new (d b p:Nat) (lg:Int):NoF (Dv.mk (Nand.new d b p) (Tl.new d b p) (Tb.new lg) (-1) 0 0 1):=
 ⟨λi=>by
  show(List.replicate d false).getD i false=false;rw[List.getD_eq_getElem?_getD,List.getElem?_replicate];split<;>rfl,rfl,λ_ _=>rfl⟩
theorem Inv.new (fd:Int) (d b p:Nat) (lg:Int):Inv fd (Dv.mk (Nand.new d b p) (Tl.new d b p) (Tb.new lg) (-1) 0 0 1):=by
 refine⟨Nand.Lit.new d b p,λi _=>(NoF.new d b p lg).dead i,λa ha=>(by cases ha),λ_ _ _=>⟨rfl,rfl⟩,⟨by show L.set 0=true;decide,λd hd=>(by have:L.has 0 d=true:=hd;rw[L.has_zero]at this;cases this)⟩,λbb hb=>?_, .inl rfl,λbb hb hu e he=>rfl,λi a ha=>(by cases ha)⟩;have:(Tl.new d b p).at_ bb=Sb.zero:=by
  unfold Tl.new Tl.at_;dsimp only;rw[List.getD_eq_getElem?_getD,List.getElem?_replicate];split<;>rfl
 show L.set ((Tl.new d b p).at_ bb).bad=true/\_;rw[this];refine⟨by decide,λe he=>?_⟩;have he:L.has 0 e=true:=he;rw[L.has_zero]at he;cases he
namespace V
end V
theorem a2J (q:Nat) (t:Tl) (hb:t.b<=1000) (hl:t.l.length=t.b) (k:Int) (on:Bool):FP 132 [pp q,iI k, .bool on] [TlA q t] (Ps (.tuple #[]) [TlA q (t.clean k on)]):=by
 refine FE [2,0,0] Tryz.func132 λX F hX=>?_;refine J.o (α:=Nat) 1 λg=>?_;refine J.qp (a1K q t hb g k) [1,2] λ_=>?_;cases hh:t.has k with
 | false=>
  rw[Tl.adr,hh,if_neg (by simp)];refine J.qF λ_=>?_;refine J.q λ_=>?_;refine J.cl (λg:Nat=>TlP q t g) g [1,2] ?_;refine J.q λ_=>?_;refine J.f [1] ?_;exact⟨rfl,by rw[Tl.clean,Tl.set,hh];rfl⟩
 | true=>
  rw[Tl.adr,hh,if_pos rfl];refine J.qT λ_=>?_;refine J.q λ_=>?_;refine J.s1 2 ((t.clean k on).l.flatMap sbL) ?_ ?_ ?_
  ·rw[t.len_l,hl];simp only[Tl.has,Bool.and_eq_true,decide_eq_true_eq]at hh;omega
  ·exact t.set_at hl hh 2 (by omega) _ _ rfl
  refine J.close (f:=λg:Nat=>TlP q (t.clean k on) g) g [1,2] rfl (by simp only[TlP,Tl.clean,Tl.set_d,Tl.set_b,Tl.set_p,Tl.set_dead];rfl) rfl ?_;refine J.q λ_=>?_;refine J.f [1] ?_;exact⟨rfl,rfl⟩
theorem a0C (q:Nat) (t:Tl) (d:Int):FP 73 [pp q,iI d] [TlA q t] (Ps (.tuple #[]) [TlA q (t.die d)]):=by
 refine FE [2,0] Tryz.func73 λX F hX=>?_;refine J.o (α:=Nat) 1 λg=>?_;refine J.qp (b1J q t g d) [1,2] λ_=>?_;refine J.qd (λ_ h1=>?_) λ_ h1=>?_
 ·refine J.qp (a6g t.dead d) [] λ_=>?_;have he:t.die d=⟨t.d,t.b,t.p,t.l,L.with_ t.dead d⟩:=by rw[Tl.die,if_pos h1]
  refine J.q λ_=>?_;refine J.close (f:=λg:Nat=>TlP q (t.die d) g) g [1,2] rfl (by rw[he];rfl) rfl ?_;refine J.q λ_=>?_;refine J.f [1] ?_;exact⟨rfl,rfl⟩
 ·refine J.q λ_=>?_;refine J.cl (λg:Nat=>TlP q t g) g [1,2] ?_;refine J.q λ_=>?_;refine J.f [1] ?_;exact⟨rfl,by rw[Tl.die,if_neg (by rw[h1];simp)];rfl⟩
theorem b6i (a b:Int):(if b>a then b else a)=max a b:=by split<;>omega
def P9 (p n t l:Nat) (S:Dv):Atom:= .pt p 213 [pp n,pp t,pp l,iI S.op,iI S.row,iI S.mask,iI S.next]
def DvP (p n t l:Nat) (S:Dv):List Atom:=[P9 p n t l S,i6 n S.N,TlA t S.t,TbA l S.T]
theorem b2l (n t l:Nat) (next:Int) (h: -9223372036854775808<=next/\next<=9223372036854775807) (N:Nand) (tl:Tl) (T:Tb):FP 82 [pp n,pp t,pp l,iI next] [] (λv As=>∃p,v=pp p/\As=[P9 p n t l ⟨N,tl,T,-1,0,0,max next 1⟩]):=by
 refine FE [0,0,0,0] Tryz.func82 λX F hX=>?_;refine J.q λbb=>?_;rw[b6i];refine J.qr [1] λ_=>?_;exact⟨bb 0,rfl,rfl⟩
theorem U5 (p n t l:Nat) (S:Dv):FP 86 [pp p] [P9 p n t l S] (Ps (iI S.op) [P9 p n t l S]):=by
 refine FE [2] Tryz.func86 λX F hX=>?_;refine J.qF λ_=>?_;exact J.qx [1]
theorem a9l (p n t l:Nat) (S:Dv):FP 156 [pp p] (DvP p n t l S) (Ps (.bool S.left) (DvP p n t l S)):=by
 refine FE [2] Tryz.func156 λX F hX=>?_;refine J.pn 6 (.of [0,4,8,13,16,20,24,28,32,37,40,44,48,53,58,60,64,68,72,76,80,84,89,94,96,100,104]) [26] [1,2,3,4] λ_ _=>?_;cases h1:decide (S.op>=0)with
 | false=>
  refine J.q λ_=>?_;refine J.val hX (.agg #[iI 0,iI 0,iI 0]) 0 rfl rfl (λhg a w he hs=>absurd hg (by simp[G.on])) rfl stq ?_;refine J.q λ_=>?_;refine J.val hX (iI 0) 0 rfl rfl (λhg a w he hs=>absurd hg (by simp[G.on])) rfl stq ?_;refine J.qr [1,2,3,4] λ_=>?_;exact⟨by unfold Dv.left;rw[h1];rfl,rfl⟩
 | true=>
  refine J.qp (I6 n S.N) [2] λ_=>?_;refine J.qn 2 λ_=>?_;cases h2:decide (S.row<(S.N.pages:Int))with
  | false=>
   refine J.q λ_=>?_;refine J.val hX (iI 0) 0 rfl rfl (λhg a w he hs=>absurd hg (by simp[G.on])) rfl stq ?_;refine J.qr [1,2,3,4] λ_=>?_;exact⟨by unfold Dv.left;rw[h1,h2];rfl,rfl⟩
  | true=>
   refine J.qp (K4 S.mask) [] λ_=>?_;refine J.qr [1,2,3,4] λ_=>?_;exact⟨by unfold Dv.left;rw[h1,h2],rfl⟩
theorem a7f (p n t l:Nat) (S:Dv) (hb:S.t.b<=1000) (hl:S.t.l.length=S.t.b):FP 139 [pp p] (DvP p n t l S) (Ps (iI S.slots) (DvP p n t l S)):=by
 refine FE [2] Tryz.func139 λX F hX=>?_;refine J.qF λ_=>?_;refine J.qp (a9l p n t l S) [1,2,3,4] λ_=>?_;refine J.qd (λ_ h1=>?_) λ_ h1=>?_
 ·refine J.qp (K4 S.mask) [] λ_=>?_;refine J.qr [1,2,3,4] λ_=>?_;exact⟨by unfold Dv.slots;rw[if_pos h1],rfl⟩
 refine J.p (.of [0,4,8,13,16,20,24,29,32,36,40,45,48,52,56,61,66,70,74,76]) [19] [1,2,3,4] λ_=>?_;refine J.qp (a8r t S.t hb hl l S.T S.op) [3,4] λ_=>?_;refine J.qp (Q3 t S.t hb hl S.pick) [3] λ_=>?_;refine J.qp (K4 (S.t.mask S.pick)) [] λ_=>?_;refine J.qr [1,2,3,4] λ_=>?_;exact⟨by unfold Dv.slots;rw[if_neg (by rw[h1];decide)],rfl⟩
theorem a7d (p n t l:Nat) (S:Dv) (hb:S.t.b<=1000) (hl:S.t.l.length=S.t.b):FP 157 [pp p] (DvP p n t l S) (Ps (iI (if S.pick<0 then 11 else 0)) (DvP p n t l (if S.pick<0 then S else S.opened))):=by
 refine FE [2] Tryz.func157 λX F hX=>?_;refine J.p (.of [0,4,8,13,16,20,24,29,32,36,40,45,51,52]) [12,13] [1,2,3,4] λ_=>?_;refine J.qp (a8r t S.t hb hl l S.T S.op) [3,4] λ_=>?_;refine J.qd (λ_ h1=>?_) λ_ h1=>?_
 ·simp only[decide_eq_true_eq]at h1;have h1:S.pick<0:=h1;refine J.qr [1,2,3,4] λ_=>?_;rw[if_pos h1,if_pos h1];exact⟨rfl,rfl⟩
 simp only[decide_eq_false_iff_not]at h1;have h1:¬S.pick<0:=h1;refine J.qp (a2J t S.t hb hl S.pick false) [3] λ_=>?_;refine J.qp (Q3 t (S.t.clean S.pick false) (by unfold Tl.clean;rw[Tl.set_b];exact hb) (by unfold Tl.clean;rw[Tl.set_len,Tl.set_b];exact hl) S.pick) [3] λ_=>?_;refine J.qr [1,2,3,4] λ_=>?_;rw[if_neg h1,if_neg h1];exact⟨rfl,rfl⟩
theorem b2k (p n t l:Nat) (S:Dv) (hN:S.N.Ok) (hF:S.t.Fit S.N) (f:Int):FP 160 [pp p,iI f] (DvP p n t l S) (Ps (.tuple #[]) (DvP p n t l (S.loses f))):=by
 have hbd:=hN.bd16;refine FE [2,0] Tryz.func160 λX F hX=>?_;refine J.qp (I6 n S.N) [2] λ_=>?_;refine J.q λ_=>?_;refine J.l (α:=(Nat×Dv)) (λz=>z.1<=S.N.dies/\z.2=(List.range z.1).foldl (Dv.lose f) S) (λz=>[si 11 z.1,si 10 S.N.dies,⟨0,pp p,2, .tt⟩,si 1 f]) [1,2,3,4] (λz=>DvP p n t l z.2) (λz=>S.N.dies-z.1) ((0,S)) (⟨Nat.zero_le _,rfl⟩) λz hI=>?_;obtain⟨k,Q⟩:=z;dsimp only at hI ⊢;obtain⟨hk,hQ⟩:=hI;obtain⟨q1,q2,q3,q4,q5,q6,q7⟩:=Dv.foldl_lose f (List.range k) S hF;rw[<- hQ]at q1 q2 q3 q4 q5 q6 q7;have hlb:Q.t.l.length=Q.t.b:=q6.len;have hbb:Q.t.b<=1000:=by have:=q6.b;omega
 refine J.qd (λ_ h1=>?_) λ_ h1=>?_
 ·simp only[decide_eq_true_eq,Int.ofNat_lt]at h1;have hs:(List.range (k+1)).foldl (Dv.lose f) S=Dv.lose f Q k:=by rw[List.range_succ,List.foldl_append,<- hQ];rfl
  refine J.qp (a5a f k) [] λ_=>?_;refine J.qd (λ_ h2=>?_) λ_ h2=>?_
  ·simp only[Bool.not_eq_true']at h2;have hz:Dv.lose f Q k=Q:=by unfold Dv.lose;rw[if_neg (by rw[h2];decide)]
   refine J.q λ_=>?_;refine J.n ((k+1,Q)) (⟨by dsimp only;omega,by dsimp only;rw[hs,hz]⟩) (by dsimp only;omega) [0,1,2,3,4]
  simp only[Bool.not_eq_false']at h2;refine J.qp (a3m n Q.N (by rw[q1];exact hN) k) [2] λ_=>?_;refine J.qd (λ_ h3=>?_) λ_ h3=>?_
  ·have hz:Dv.lose f Q k={Q with t:=Q.t.die k,mask:=L.without Q.mask k}:=by unfold Dv.lose;rw[if_pos h2,if_pos h3]
   refine J.qp (a0C t Q.t k) [3] λ_=>?_;refine J.qp (a0a Q.mask k) [] λ_=>?_;refine J.q λ_=>?_;refine J.n ((k+1,{Q with t:=Q.t.die k,mask:=L.without Q.mask k})) (⟨by dsimp only;omega,by dsimp only;rw[hs,hz]⟩) (by dsimp only;omega) [0,1,2,3,4]
  ·have hz:Dv.lose f Q k={Q with t:=Q.t.bad k Q.op,mask:=L.without Q.mask k}:=by unfold Dv.lose;rw[if_pos h2,if_neg (by rw[h3];decide)]
   refine J.p (.of [0,4,8,13,16,20,24,28,33,38]) [] [1,2,4] λ_=>?_;refine J.qp (a8f t Q.t hbb hlb k Q.op) [3] λ_=>?_;refine J.qp (a0a Q.mask k) [] λ_=>?_;refine J.q λ_=>?_;refine J.n ((k+1,{Q with t:=Q.t.bad k Q.op,mask:=L.without Q.mask k})) (⟨by dsimp only;omega,by dsimp only;rw[hs,hz]⟩) (by dsimp only;omega) [0,1,2,3,4]
 ·simp only[decide_eq_false_iff_not,Int.ofNat_lt]at h1;obtain rfl:k=S.N.dies:=by omega
  refine J.q λ_=>?_;refine J.f [1,2,3,4] ?_;exact⟨rfl,by rw[hQ];rfl⟩
theorem a3V:∀(l:List En) (r:List Value) (k:Nat) (x:En),k<l.length->(d6 l++r).take (k*19)++enL x++(d6 l++r).drop (k*19+19)=d6 (l.set k x)++r
 | [],_,_,_,h=>by simp at h
 | y::l,r,0,x,h=>by simp[d6,enL]
 | y::l,r,k+1,x,h=>by
  have:=a3V l r k x (by simpa using h);have hy:(enL y).length=19:=rfl;have e1:d6 (y::l)++r=enL y++(d6 l++r):=by simp[d6]
  have e2:d6 ((y::l).set (k+1) x)++r=enL y++(d6 (l.set k x)++r):=by simp[d6]
  rw[e1,e2,<- this,show(k+1)*19=(enL y).length+k*19 from by omega,List.take_length_add_append,show(enL y).length+k*19+19=(enL y).length+(k*19+19)from by omega,<- List.drop_drop,List.drop_left' rfl];simp only[List.append_assoc]
theorem D9:∀l:List En,(d6 l).length=l.length*19
 | []=>rfl
 | x::l=>by
  have:=D9 l;have e1:d6 (x::l)=enL x++d6 l:=by simp[d6]
  have hy:(enL x).length=19:=rfl;rw[e1,List.length_append,this,hy,List.length_cons];omega
def a4p (p:En->Bool) (l:List En):Int:=match l.findIdx? p with
 | some k=>k
 | none=> -1
theorem a5e {p:En->Bool} {l:List En} {k:Nat} {x:En} (h:l[k]? =some x) (h0:∀i<k,p (l.getD i En.zero)=false) (hp:p x=true):l.findIdx? p=some k:=by
 rw[List.findIdx?_eq_some_iff_getElem];obtain⟨h1,h2⟩:=List.getElem?_eq_some_iff.1 h;refine⟨h1,by rw[h2];exact hp,λj hj=>?_⟩;have:=h0 j hj;rw[List.getD_eq_getElem?_getD,List.getElem?_eq_getElem (by omega),Option.getD_some]at this;simp[this]
theorem a5f {p:En->Bool} {l:List En} (h0:∀i<l.length,p (l.getD i En.zero)=false):l.findIdx? p=none:=by
 rw[List.findIdx?_eq_none_iff];intro x hx;obtain⟨i,hi,rfl⟩:=List.mem_iff_getElem.1 hx;have:=h0 i hi
 rwa [List.getD_eq_getElem?_getD,List.getElem?_eq_getElem hi,Option.getD_some]at this
theorem b3i (p:En->Bool) (l:List En):decide (a4p p l>=0)=l.any p:=by
 unfold a4p;cases h:l.findIdx? p with
 | none=>
  rw[List.findIdx?_eq_none_iff]at h;have:l.any p=false:=by rw[List.any_eq_false];exactλx hx=>by simp[h x hx]
  rw[this];rfl
 | some k=>
  rw[List.findIdx?_eq_some_iff_getElem]at h;obtain⟨h1,h2,_⟩:=h;have:l.any p=true:=List.any_eq_true.2 ⟨l[k],List.getElem_mem _,h2⟩;rw[this];simp
theorem a6E (c:Nat) (cs:List Value) (p:En->Bool) (A:Atom) (hcal:n7 Tryz.prog c=true) (l:List En) (hf:∀x∈l,Fn Tryz.prog c (enV x::cs) [A] (λv As=>v= .bool (p x)/\As=[A]))
  (a:Option Nat) (n cap:Nat) (hl:l.length=n) (hn:n<=4611686018427387904):FP 141 [slv a n cap,fnC c cs] [c9 155 19 a n cap (d6 l),A]
  (λv As=>v=iI (a4p p l)/\As=[c9 155 19 a n cap (d6 l),A]):=by
 refine FE [0,0] Tryz.func141 λX F hX=>?_;refine J.q λ_=>?_;refine J.l (α:=Nat) (λk=>k<=n/\∀i<k,p (l.getD i En.zero)=false) (λk=>[si 8 k,si 7 n,sv 0 (slv a n cap),⟨1,fnC c cs,0, .tt⟩]) [] (λk=>[]) (λk=>n-k) (0) (⟨by omega,by omega⟩) λk hI=>?_;refine J.qd (λ_ h1=>?_) λ_ h1=>?_
 ·simp only[decide_eq_true_eq,Int.ofNat_lt]at h1;cases a with
  | none=>
   refine J.know (λh' s=>(s.get (i:=1) rfl).2.1) λhn0=>?_;omega
  | some g=>
   have hk:l[k]? =some (l.getD k En.zero):=by rw[List.getD_eq_getElem?_getD,List.getElem?_eq_getElem (by omega),Option.getD_some]
   refine J.q λ_=>?_;refine J.v (enV (l.getD k En.zero)) rfl rfl (λhg a w he hs=>?_) ?_
   ·exact p6 tk rfl rfl he rfl rfl rfl (hs.get (i:=1) rfl) (by rw[show 0+(k:Int).toNat*19=k*19 from by omega];have:=E6 l [] k _ hk;rwa [List.append_nil]at this) rfl
   refine J.q λ_=>?_;refine J.call hX hcal (hf (l.getD k En.zero) (List.mem_of_getElem? hk)) [2] 0 rfl rfl rfl rfl (by(repeat' (first | exact Conj.nil | refine Conj.cons ?_ ?_ | omega | exact hq0 | (simpa using hq0) | (exactλh=>h) | exact rfl | (intro hq;have hq0:=hq;try simp only[Bool.and_eq_true,Bool.or_eq_true,decide_eq_true_eq,Bool.not_eq_true',decide_eq_false_iff_not]at hq) | (simp;done) | (simp;omega) | decide))) rfl rfl (λ_=>rfl) ?_;refine cpq ⟨_,rfl,trivial,?_⟩;refine J.qd (λ_ h2=>?_) λ_ h2=>?_
   ·refine J.qr [1,2] λ_=>?_;exact⟨by rw[a4p,a5e hk hI.2 h2],rfl⟩
   ·refine J.q λ_=>?_;refine J.nx (k+1) (⟨by omega,λi hi=>by
     rcases Nat.lt_succ_iff_lt_or_eq.1 hi with h3 | h3
     ·exact hI.2 i h3
     ·rw[h3];exact h2⟩) (by omega) (λ_ s=>s)
 ·simp only[decide_eq_false_iff_not,Int.ofNat_lt]at h1;refine J.qr [1,2] λ_=>?_;exact⟨by rw[a4p,a5f (λi hi=>hI.2 i (by omega))],rfl⟩
theorem a3W (l:List En):∀u∈d6 l,u.oneCell'=true:=by
 intro u hu;simp only[d6,List.mem_flatMap]at hu;obtain⟨s,_,hu⟩:=hu;simp only[enL,List.mem_cons,List.not_mem_nil,or_false]at hu;rcases hu with rfl | rfl | rfl | rfl | rfl | rfl | rfl | rfl | rfl | rfl | rfl | rfl | rfl | rfl | rfl | rfl | rfl | rfl | rfl<;>rfl
def DelE (p:En->Bool) (l m:List En) (i j:Nat):Prop:=m.length=l.length/\i<j/\j<=l.length/\m.drop j=l.drop j/\m.take i++(l.drop j).filter (λx=>!p x)=l.filter (λx=>!p x)
theorem DelE.start {p:En->Bool} {l:List En} {k:Nat} (h:l.findIdx? p=some k):DelE p l l k (k+1):=by
 rw[List.findIdx?_eq_some_iff_getElem]at h;obtain⟨h1,h2,h3⟩:=h;refine⟨rfl,by omega,by omega,rfl,?_⟩;have e:l=l.take k++l[k]::l.drop (k+1):=by rw[<- List.drop_eq_getElem_cons h1,List.take_append_drop]
 have e2:(l.take k).filter (λx=>!p x)=l.take k:=by
  rw[List.filter_eq_self];intro x hx;obtain⟨i,hi,rfl⟩:=List.mem_iff_getElem.1 hx;rw[List.getElem_take];have:=h3 i (by simp at hi;omega);simpa using this
 conv=>rhs;rw[e]
 rw[List.filter_append,e2,List.filter_cons_of_neg (by simp[h2])]
theorem DelE.skip {p:En->Bool} {l m:List En} {i j:Nat} (h:DelE p l m i j) (hj:j<l.length) (hp:p (m.getD j En.zero)=true):DelE p l m i (j+1):=by
 obtain⟨h1,h2,h3,h4,h5⟩:=h;have e1:m[j]? =l[j]?:=by have:=congrArg (λz=>z[0]?) h4;simpa using this
 have hx:l[j]=m.getD j En.zero:=by rw[List.getD_eq_getElem?_getD,e1,List.getElem?_eq_getElem hj,Option.getD_some]
 refine⟨h1,by omega,by omega,?_,?_⟩
 ·have:=congrArg (List.drop 1) h4;simpa[List.drop_drop]using this
 ·rw[<- h5,List.drop_eq_getElem_cons hj,List.filter_cons_of_neg (by rw[hx,hp];simp)]
theorem DelE.keep {p:En->Bool} {l m:List En} {i j:Nat} (h:DelE p l m i j) (hj:j<l.length) (hp:p (m.getD j En.zero)=false):DelE p l (m.set i (m.getD j En.zero)) (i+1) (j+1):=by
 obtain⟨h1,h2,h3,h4,h5⟩:=h;have e1:m[j]? =l[j]?:=by have:=congrArg (λz=>z[0]?) h4;simpa using this
 have hx:l[j]=m.getD j En.zero:=by rw[List.getD_eq_getElem?_getD,e1,List.getElem?_eq_getElem hj,Option.getD_some]
 refine⟨by simp[h1],by omega,by omega,?_,?_⟩
 ·rw[List.drop_set_of_lt (by omega)];have:=congrArg (List.drop 1) h4;simpa[List.drop_drop]using this
 ·rw[<- h5,List.drop_eq_getElem_cons hj,List.filter_cons_of_pos (by rw[hx,hp];simp),hx,List.take_set,List.take_add_one,List.getElem?_eq_getElem (by omega)];rw[List.set_append_right _ _ (by simp;omega)];simp[List.length_take,Nat.min_eq_left (show i<=m.length by omega)]
theorem a4w (c:Nat) (cs:List Value) (p:En->Bool) (A:Atom) (hcal:n7 Tryz.prog c=true) (hf:∀x,Fn Tryz.prog c (enV x::cs) [A] (λv As=>v= .bool (p x)/\As=[A]))
  (a:Option Nat) (n cap:Nat) (l:List En) (hl:l.length=n) (hn:n<=4611686018427387904):FP 161 [slv a n cap,fnC c cs] [c9 155 19 a n cap (d6 l),A]
  (λv As=>∃l',l'=l.filter (λx=>!p x)/\v=slv a l'.length cap/\As=[c9 155 19 a l'.length cap (d6 l'),A]):=by
 refine FE [0,0] Tryz.func161 λX F hX=>?_;refine J.qp (a6E c cs p A hcal l (λx _=>hf x) a n cap hl hn) [1,2] λ_=>?_;rw[a4p];cases hx:l.findIdx? p with
 | none=>
  dsimp only;refine J.qT λ_=>?_;refine J.qr [1,2] λ_=>?_;have:l.filter (λx=>!p x)=l:=by
   rw[List.filter_eq_self];intro x hm;rw[List.findIdx?_eq_none_iff]at hx;simp[hx x hm]
  exact⟨l,this.symm,by rw[hl],by rw[hl];rfl⟩
 | some k=>
  dsimp only;refine J.qd (λ_ h0=>?_) λ_ h0=>?_
  ·simp only[beq_iff_eq]at h0;omega
  have hk:k<n:=by rw[List.findIdx?_eq_some_iff_getElem]at hx;obtain⟨h1,_⟩:=hx;omega
  cases a with
  | none=>
   refine J.know (λh' s=>(s.get (i:=1) rfl).2.1) λhn0=>?_;omega
  | some g=>
   refine J.openOwn 1 rfl rfl (λ_=>rfl) λr q1 q2 q3 q4=>?_;refine J.q λ_=>?_;rw[show(k:Int)+1=((k+1:Nat):Int)from by omega];refine J.q λ_=>?_;refine J.l (α:=(Nat×Nat×List En)) (λx=>DelE p l x.2.2 x.1 x.2.1) (λx=>[si 6 x.2.1,si 5 x.1,sv 0 (slv (some g) n cap),⟨1,fnC c cs,0, .tt⟩]) [1] (λx=>[.pt g 155 (d6 x.2.2++r)]) (λx=>n-x.2.1) ((k,k+1,l)) (DelE.start hx) λx hI=>?_;obtain⟨i,j,m⟩:=x;dsimp only at hI ⊢;have hml:m.length=n:=hI.1.trans hl;have hij:i<j:=hI.2.1;have hjn:j<=n:=by have:=hI.2.2.1;omega
   refine J.qd (λ_ h1=>?_) λ_ h1=>?_
   ·simp only[decide_eq_true_eq,Int.ofNat_lt]at h1;have hget:m[j]? =some (m.getD j En.zero):=by rw[List.getD_eq_getElem?_getD,List.getElem?_eq_getElem (by omega),Option.getD_some]
    refine J.q λ_=>?_;refine J.v (enV (m.getD j En.zero)) rfl rfl (λhg a w he hs=>?_) ?_
    ·exact j9 tk rfl rfl he rfl rfl rfl (hs.get (i:=1) rfl) (by rw[show 0+(j:Int).toNat*19=j*19 from by omega];exact E6 m r _ _ hget) rfl
    refine J.q λ_=>?_;refine J.call hX hcal (hf (m.getD j En.zero)) [2] 0 rfl rfl rfl rfl (by(repeat' (first | exact Conj.nil | refine Conj.cons ?_ ?_ | omega | exact hq0 | (simpa using hq0) | (exactλh=>h) | exact rfl | (intro hq;have hq0:=hq;try simp only[Bool.and_eq_true,Bool.or_eq_true,decide_eq_true_eq,Bool.not_eq_true',decide_eq_false_iff_not]at hq) | (simp;done) | (simp;omega) | decide))) rfl rfl (λ_=>rfl) ?_;refine cpq ⟨_,rfl,trivial,?_⟩;refine J.qd (λ_ h2=>?_) λ_ h2=>?_
    ·simp only[Bool.not_eq_true']at h2;refine J.q λ_=>?_;refine J.storeN hX tk 1 rfl rfl rfl rfl rfl rfl rfl rfl rfl rfl rfl rfl rfl ?_ (d6 (m.set i (m.getD j En.zero))++r) ?_ rfl (λ_=>rfl) ⟨trivial,?_⟩
     ·rw[List.length_append,D9];show 0+(i:Int).toNat*19+19<=_;omega
     ·rw[show 0+(i:Int).toNat*19=i*19 from by omega];exact a3V m r i _ (by omega)
     refine J.q λ_=>?_;refine J.n ((i+1,j+1,m.set i (m.getD j En.zero))) (hI.keep (by omega) h2) (by dsimp only;omega) [0,1,2]
    ·simp only[Bool.not_eq_false']at h2;refine J.q λ_=>?_;refine J.n ((i,j+1,m)) (hI.skip (by omega) h2) (by dsimp only;omega) [0,1,2]
   ·simp only[decide_eq_false_iff_not,Int.ofNat_lt]at h1;obtain rfl:j=n:=by omega
    have hfil:m.take i=l.filter (λx=>!p x):=by
     have h5:=hI.2.2.2.2;rw[List.drop_of_length_le (by omega)]at h5;simpa using h5
    refine J.q λ_=>?_;refine J.clear hX tk 1 rfl rfl rfl rfl rfl rfl rfl rfl rfl rfl rfl ?_ (λ_=>rfl) (λ_=>rfl) λcs' z1 z2=>⟨trivial,?_⟩
    ·rw[List.length_append,D9];rw[D9]at q4;show 0+(i:Int).toNat*19+(j-(i:Int).toNat)*19<=_;have:(i:Int).toNat=i:=by omega
     rw[this];omega
    have hilen:(l.filter (λx=>!p x)).length=i:=by rw[<- hfil,List.length_take];omega
    refine J.closeOwn (e:=155) (size:=19) (n:=i) (cap:=cap) (xs:=d6 (l.filter (λx=>!p x))) 1 rfl rfl (by rw[D9,hilen]) (by omega) q3 (by rw[z1,List.length_append,D9,hml];rw[D9,hl]at q4;exact q4) ?_ rfl ?_
    ·have z3:(0+(i:Int).toNat*19)=i*19:=by omega
     rw[z3]at z2;rw[z2,<- hfil];have e:d6 m=d6 (m.take i)++d6 (m.drop i):=by
      conv=>lhs;rw[<- List.take_append_drop i m]
      simp only[d6,List.flatMap_append]
     rw[e,List.append_assoc,List.take_left' (by rw[D9,List.length_take,Nat.min_eq_left (by omega)])]
    refine J.qr [1,2] λ_=>?_;exact⟨_,rfl,by rw[hilen];rfl,by rw[hilen];rfl⟩
theorem b3F {E:Env} {n:Nat} {ac:Act} {w:World} {o:Oper} {x y:Operand} {k1 k2 t1 t2:Nat} {g1 g2:G} {a:Option Addr} {m c h:Nat} {kk:IntKind} {hI:Int} (hop:o.op= .slice 132 x none (some y) none) (hx:ev E x=some ⟨k1, .slice a m c,t1,g1⟩) (hy:ev E y=some ⟨k2, .int kk hI,t2,g2⟩) (he:EnvOK n E ac) (v1:g1.on=true) (v2:g2.on=true) (hh:hI=(h:Int)) (hc:h<=c):
  (execOp ac.eval o).run Tryz.prog w= .ok (.value (.slice a h c)) w:=by
 subst hh;have e1:=i9 he hx;have e2:=i9 he hy;simp only[Slot.val,v1,v2]at e1 e2;obtain⟨d,f,zv,ok⟩:=i5 (tk.get (t:=132) rfl);obtain⟨fe,rfl,g1,g2⟩:=ok.slice rfl;have h0:∀ad:Addr,ad.add 0=ad:=λad=>by unfold Addr.add;rw[if_pos rfl]
 cases a with
 | none=>
  simp only[execOp,hop,Option.map_some,Option.map_none,e1,e2,Instr.sliceAt,Instr.slice,Instr.sliceBounds,Instr.sliceBound,asIntOf,Sem.run_bind,Sem.run_pure,Result.andThen_ok,d7 ok.hd,m7 g1,g2];simp[hc,h0]
 | some ad=>
  simp only[execOp,hop,Option.map_some,Option.map_none,e1,e2,Instr.sliceAt,Instr.slice,Instr.sliceBounds,Instr.sliceBound,asIntOf,Sem.run_bind,Sem.run_pure,Result.andThen_ok,d7 ok.hd,m7 g1,g2];simp[hc,h0]
theorem I5 {e size:Nat} {a:Option Nat} {n cap:Nat} {xs:List Value} {h:Hl} (s:J3 e size a n cap xs h):n<=cap:=by
 obtain⟨_,s⟩:=s;cases a with
 | none=>obtain⟨rfl,rfl⟩:=s;exact Nat.le_refl _
 | some g=>obtain⟨_,_,h,_⟩:=s;exact h
theorem V8 (l:List En):∀k,(d6 l).take (k*19)=d6 (l.take k):=by
 induction l with
 | nil=>intro k;simp[d6]
 | cons x l ih=>
  intro k;cases k with
  | zero=>simp[d6]
  | succ k=>
   have e1:d6 (x::l)=enL x++d6 l:=by simp[d6]
   have e2:d6 (x::l.take k)=enL x++d6 (l.take k):=by simp[d6]
   rw[e1,List.take_succ_cons,e2,<- ih k,show(k+1)*19=(enL x).length+k*19 from by show _=19+k*19;omega,List.take_length_add_append]
theorem I0 (l:List En) (e:En):d6 l++enL e=d6 (l++[e]):=by simp[d6]
theorem b1w (a:Option Nat) (N cap cap2 k:Nat) (l:List En) (hl:l.length=N) (hk:k<=N) (hn:N<=1000000):FP 155 [slv a k cap2] [c9 155 19 a N cap (d6 l)]
  (λv As=>∃a' c',v=slv a' k c'/\As=[c9 155 19 a N cap (d6 l),c9 155 19 a' k c' (d6 (l.take k))]):=by
 refine FE [0] Tryz.func155 λX F hX=>?_;cases a with
 | none=>
  refine J.know (λh' s=>(s.get (i:=1) rfl).2) λhn0=>?_;obtain⟨rfl,rfl⟩:=hn0;obtain rfl:k=0:=by omega
  have:l=[]:=List.eq_nil_of_length_eq_zero hl;subst this;refine J.qT λ_=>?_;refine J.turn1 [] rfl (As:=[c9 155 19 none 0 0 (d6 [])]) (λh s=>Sep.one ⟨rfl,rfl,rfl⟩) rfl ?_;refine J.qr [1,2] λ_=>?_;exact⟨none,0,rfl,rfl⟩
 | some g=>
  refine J.qF λ_=>?_;refine J.qn 5 λbb=>?_;refine J.closeOwn (e:=155) (size:=19) (n:=0) (cap:=0) (xs:=[]) 2 rfl rfl rfl (Nat.le_refl _) (Nat.zero_le _) rfl rfl rfl ?_;refine J.q λ_=>?_;have hRd:Rd (c9 155 19 (some g) N cap (d6 l)) (some ⟨g,0,none⟩) 19 k (d6 (l.take k)):=by
   have:=(D4 155 19 (some g) N cap (d6 l)).take k hk
   rwa [V8]at this
  refine J.appendR hX tk (a:=some (bb 0)) (n:=0) (cap:=0) (xs:=[]) (oo:=0) (Ay:=c9 155 19 (some g) N cap (d6 l)) 2 1 0 rfl rfl rfl rfl rfl rfl rfl rfl rfl rfl hRd rfl rfl rfl rfl (a3W _) ?_ ?_ (λ_=>rfl) λa' c'=>⟨_,rfl,trivial,?_⟩
  ·simp only[maxLen];omega
  ·omega
  rw[Nat.zero_add k,List.nil_append];refine J.qr [1,2] λ_=>?_;exact⟨a',c',rfl,rfl⟩
theorem b1s (c:Nat) (cs:List Value) (p:En->Bool) (A B:Atom) (hcal:n7 Tryz.prog c=true) (l:List En) (hf:∀x∈l,Fn Tryz.prog c (enV x::cs) [A] (Ps (.bool (p x)) [A]))
  (a:Option Addr) (n cap:Nat) (hB:Rd B a 19 n (d6 l)) (hl:l.length=n) (hn:n<=4611686018427387904):FP 141 [.slice a n cap,fnC c cs] [B,A]
  (Ps (iI (a4p p l)) [B,A]):=by
 refine FE [0,0] Tryz.func141 λX F hX=>?_;refine J.q λ_=>?_;refine J.l (α:=Nat) (λk=>k<=n/\∀i<k,p (l.getD i En.zero)=false) (λk=>[si 8 k,si 7 n,sv 0 (.slice a n cap),⟨1,fnC c cs,0, .tt⟩]) [] (λk=>[]) (λk=>n-k) (0) (⟨by omega,by omega⟩) λk hI=>?_;refine J.qd (λ_ h1=>?_) λ_ h1=>?_
 ·simp only[decide_eq_true_eq,Int.ofNat_lt]at h1;refine J.know (p:=∃g o,a=some ⟨g,o,none⟩) (λh' s=>Rd.addr (hB _ (s.get (i:=1) rfl)) (by omega)) λhk=>?_;obtain⟨g,o,rfl⟩:=hk;have hk:l[k]? =some (l.getD k En.zero):=by rw[List.getD_eq_getElem?_getD,List.getElem?_eq_getElem (by omega),Option.getD_some]
  refine J.q λ_=>?_;refine J.v (enV (l.getD k En.zero)) rfl rfl (λhg a w he hs=>?_) ?_
  ·exact Z5 tk rfl rfl he rfl rfl rfl (hB _ (hs.get (i:=1) rfl)) (by omega) (j:=k*19) (by omega) (by have:=E6 l [] k _ hk;rwa [List.append_nil]at this) rfl
  refine J.q λ_=>?_;refine J.call hX hcal (hf (l.getD k En.zero) (List.mem_of_getElem? hk)) [2] 0 rfl rfl rfl rfl (by(repeat' (first | exact Conj.nil | refine Conj.cons ?_ ?_ | omega | exact hq0 | (simpa using hq0) | (exactλh=>h) | exact rfl | (intro hq;have hq0:=hq;try simp only[Bool.and_eq_true,Bool.or_eq_true,decide_eq_true_eq,Bool.not_eq_true',decide_eq_false_iff_not]at hq) | (simp;done) | (simp;omega) | decide))) rfl rfl (λ_=>rfl) ?_;refine cpq ⟨_,rfl,trivial,?_⟩;refine J.qd (λ_ h2=>?_) λ_ h2=>?_
  ·refine J.qr [1,2] λ_=>?_;exact⟨by rw[a4p,a5e hk hI.2 h2],rfl⟩
  ·refine J.q λ_=>?_;refine J.nx (k+1) (⟨by omega,λi hi=>by
    rcases Nat.lt_succ_iff_lt_or_eq.1 hi with h3 | h3
    ·exact hI.2 i h3
    ·rw[h3];exact h2⟩) (by omega) (λ_ s=>s)
 ·simp only[decide_eq_false_iff_not,Int.ofNat_lt]at h1;refine J.qr [1,2] λ_=>?_;exact⟨by rw[a4p,a5f (λi hi=>hI.2 i (by omega))],rfl⟩
theorem a6H (c:Nat) (cs:List Value) (p:En->Bool) (A B:Atom) (hcal:n7 Tryz.prog c=true) (l:List En) (hf:∀x∈l,Fn Tryz.prog c (enV x::cs) [A] (Ps (.bool (p x)) [A]))
  (a:Option Addr) (n cap:Nat) (hB:Rd B a 19 n (d6 l)) (hl:l.length=n) (hn:n<=4611686018427387904):FP 163 [.slice a n cap,fnC c cs] [B,A]
  (Ps (.bool (l.any p)) [B,A]):=by
 refine FE [0,0] Tryz.func163 λX F hX=>?_;refine J.qp (b1s c cs p A B hcal l hf a n cap hB hl hn) [1,2] λ_=>?_;refine J.qr [1,2] λ_=>?_;exact⟨by rw[<- b3i],rfl⟩
def R1 (d:Nat) (L:List En):Atom:=exA λx:Option Nat×Nat=>[.pt d 182 [slv x.1 L.length x.2],c9 155 19 x.1 L.length x.2 (d6 L)]
theorem b5M:FP 81 [] [] (λv As=>∃d,v=pp d/\As=[R1 d []]):=by
 refine FE [] Tryz.func81 λX F hX=>?_;refine J.q λbs=>?_;refine J.turn1 [] rfl (As:=[c9 155 19 none 0 0 (d6 [])]) (λh s=>Sep.one ⟨rfl,rfl,rfl⟩) rfl ?_;refine J.cl (λx:Option Nat×Nat=>[.pt (bs 0) 182 [slv x.1 ([]:List En).length x.2],c9 155 19 x.1 ([]:List En).length x.2 (d6 [])]) (none,0) [1,2] ?_;refine J.qr [1] λ_=>?_;exact⟨bs 0,rfl,rfl⟩
theorem a9M (d:Nat) (L:List En):FP 68 [pp d] [R1 d L] (Ps (iI L.length) [R1 d L]):=by
 refine FE [2] Tryz.func68 λX F hX=>?_;refine J.o (α:=(Option Nat×Nat)) 1 λx=>?_;refine J.qF λ_=>?_;refine J.q λ_=>?_;refine J.cl (λx:Option Nat×Nat=>[.pt d 182 [slv x.1 L.length x.2],c9 155 19 x.1 L.length x.2 (d6 L)]) x [1,2] ?_;exact J.qx [1]
theorem b6K (b:Nat) (e x:En):FP 200 [enV x,pp b] [.pt b 155 (enL e)] (Ps (.bool (x.lpn==e.lpn)) [.pt b 155 (enL e)]):=by
 refine FE [0,2] Tryz.func200 λX F hX=>?_;exact J.qx [1]
def H8 (L:List En) (e:En):List En:=(L.filter λx=>!(x.lpn==e.lpn))++[e]
theorem a9L (d:Nat) (L:List En) (hL:L.length<=100000) (e:En):FP 140 [pp d,enV e] [R1 d L] (Ps (.tuple #[]) [R1 d (H8 L e)]):=by
 refine FE [2,0] Tryz.func140 λX F hX=>?_;refine J.o (α:=(Option Nat×Nat)) 1 λx=>?_;obtain⟨a,c⟩:=x;refine J.q λbb=>?_;refine J.cF ?_;refine J.qc (a4w 200 [pp (bb 0)] (λx=>x.lpn==e.lpn) (.pt (bb 0) 155 (enL e)) (by kernel_rfl) (λx=>b6K (bb 0) e x) a L.length c L rfl (by omega)) [2,3] λ_=>?_;rintro v As ⟨l',hl',rfl,rfl⟩;refine⟨_,rfl,trivial,?_⟩;have hll:l'.length<=L.length:=by rw[hl'];exact List.length_filter_le _ _
 have hput:H8 L e=l'++[e]:=by unfold H8;rw[hl']
 refine J.pq (.of [0,4,8,12,17,21,26,30,32,36,43]) [8,9,10] [1,3] λ_ _=>?_;refine J.ap 2 4 0 (I0 l' e) λa2 c2=>?_;refine J.q λ_=>?_;rw[show l'.length+1=(H8 L e).length from by rw[hput];simp,<- hput];refine J.cl (λx:Option Nat×Nat=>[.pt d 182 [slv x.1 (H8 L e).length x.2],c9 155 19 x.1 (H8 L e).length x.2 (d6 (H8 L e))]) (a2,c2) [1,2] ?_;refine J.q λ_=>?_;refine J.f [1] ?_;exact⟨rfl,rfl⟩
theorem b6L (b:Nat) (k:Int) (x:En):FP 142 [enV x,pp b] [.pt b 3 [iI k]] (Ps (.bool (x.lpn==k)) [.pt b 3 [iI k]]):=by
 refine FE [0,2] Tryz.func142 λX F hX=>?_;exact J.qx [1]
def U0 (L:List En) (k:Int):En×Bool:=match L.find? (λx=>x.lpn==k)with
 | some e=>(e,true)
 | none=>(En.zero,false)
theorem b3v {p:En->Bool} {l:List En} {k:Nat} (h:l.findIdx? p=some k):l.find? p=some (l.getD k En.zero)/\l[k]? =some (l.getD k En.zero):=by
 rw[List.findIdx?_eq_some_iff_getElem]at h;obtain⟨h1,h2,h3⟩:=h;have e:l[k]? =some (l.getD k En.zero):=by rw[List.getD_eq_getElem?_getD,List.getElem?_eq_getElem h1,Option.getD_some]
 refine⟨?_,e⟩;have e2:l.getD k En.zero=l[k]:=by rw[List.getElem?_eq_getElem h1]at e;injection e with e;exact e.symm
 rw[List.find?_eq_some_iff_getElem,e2];exact⟨h2,k,h1,rfl,λj hj=>by simpa using h3 j hj⟩
theorem b5N (d:Nat) (L:List En) (hL:L.length<=100000) (k:Int):FP 93 [pp d,iI k] [R1 d L] (Ps (.tuple #[enV (U0 L k).1, .bool (U0 L k).2]) [R1 d L]):=by
 refine FE [2,0] Tryz.func93 λX F hX=>?_;refine J.o (α:=(Option Nat×Nat)) 1 λx=>?_;obtain⟨a,c⟩:=x;refine J.q λbb=>?_;refine J.cF ?_;refine J.q λ_=>?_;refine J.ca hX (by kernel_rfl) (a6E 142 [pp (bb 0)] (λx=>x.lpn==k) (.pt (bb 0) 3 [iI k]) (by kernel_rfl) L (λx _=>b6L (bb 0) k x) a L.length c rfl (by omega)) [2,3] 0 rfl rfl rfl rfl rfl rfl (λ_=>rfl) ?_;refine cpq ⟨_,rfl,trivial,?_⟩;rw[a4p];cases hx:L.findIdx? (λx=>x.lpn==k)with
 | none=>
  dsimp only;refine J.qT λ_=>?_;refine J.cl (λx:Option Nat×Nat=>[.pt d 182 [slv x.1 L.length x.2],c9 155 19 x.1 L.length x.2 (d6 L)]) (a,c) [1,2] ?_;refine J.qr [1] λ_=>?_;have:U0 L k=(En.zero,false):=by
   unfold U0;rw[List.find?_eq_none.2 (λx hm=>by rw[List.findIdx?_eq_none_iff]at hx;simp[hx x hm])]
  rw[this];exact⟨rfl,rfl⟩
 | some i=>
  dsimp only;obtain⟨f1,f2⟩:=b3v hx;have hi:i<L.length:=(List.getElem?_eq_some_iff.1 f2).1;refine J.qd (λ_ h0=>?_) λ_ h0=>?_
  ·simp only[decide_eq_true_eq]at h0;omega
  cases a with
  | none=>
   refine J.know (λh' s=>(s.get (i:=2) rfl).2.1) λhn0=>?_;omega
  | some g=>
   refine J.q λ_=>?_;refine J.v (enV (L.getD i En.zero)) rfl rfl (λhg a w he hs=>?_) ?_
   ·exact p6 tk rfl rfl he rfl rfl rfl (hs.get (i:=2) rfl) (by rw[show 0+(i:Int).toNat*19=i*19 from by omega];have:=E6 L [] i _ f2;rwa [List.append_nil]at this) rfl
   refine J.cl (λx:Option Nat×Nat=>[.pt d 182 [slv x.1 L.length x.2],c9 155 19 x.1 L.length x.2 (d6 L)]) (some g,c) [1,2] ?_;refine J.qr [1] λ_=>?_;have:U0 L k=(L.getD i En.zero,true):=by
    unfold U0;rw[f1]
   rw[this];exact⟨rfl,rfl⟩
def dkN (L:List En) (n:Int):Nat:=min n.toNat L.length
theorem a9N (d:Nat) (L:List En) (hL:L.length<=100000) (n:Int):FP 108 [pp d,iI n] [R1 d L] (λv As=>∃a' c',v=slv a' (dkN L n) c'/\As=[R1 d L,c9 155 19 a' (dkN L n) c' (d6 (L.take (dkN L n)))]):=by
 refine FE [2,0] Tryz.func108 λX F hX=>?_;refine J.o (α:=(Option Nat×Nat)) 1 λx=>?_;obtain⟨a,c⟩:=x;refine J.qF λ_=>?_;refine J.know (λh' s=>I5 (s.get (i:=2) rfl)) λhcap=>?_;dsimp only at hcap;have hmin:(if(L.length:Int)<(if(0:Int)>n then 0 else n)then(L.length:Int)else(if(0:Int)>n then 0 else n))=(dkN L n:Int):=by
  unfold dkN
  by_cases h:(0:Int)>n
  ·simp only[if_pos h];rw[if_neg (by omega)];omega
  ·simp only[if_neg h];split<;>omega
 have hk:dkN L n<=L.length:=Nat.min_le_right _ _;refine J.pn 12 (.of [0,4,8,13,16,20,24,28,32,37,40,44,48,54,56]) [14] [1,2] λ_ _=>?_;refine J.vT (slv a (dkN L n) c) rfl rfl (λhg aa w he hC=>?_) ?_
 ·exact b3F rfl rfl rfl he rfl rfl hmin (by omega)
 refine J.qc (b1w a L.length c c (dkN L n) L rfl hk (by omega)) [2] λ_=>?_;rintro v As ⟨a',c',rfl,rfl⟩;refine⟨_,rfl,⟨rfl,rfl,trivial⟩,?_⟩;refine J.q λ_=>?_;refine J.cl (λx:Option Nat×Nat=>[.pt d 182 [slv x.1 L.length x.2],c9 155 19 x.1 L.length x.2 (d6 L)]) (a,c) [1,2] ?_;refine J.qr [1,3] λ_=>?_;exact⟨a',c',rfl,rfl⟩
theorem b5s (b be:Nat) (x e:En):FP 164 [enV e,pp b] [.pt b 155 (enL x)] (Ps (.bool (e.lpn==x.lpn&&e.seq==x.seq)) [.pt b 155 (enL x)]):=by
 refine FE [0,2] Tryz.func164 λX F hX=>?_;exact J.qx [1]
theorem b5t (b:Nat) (B:Atom) (al:Option Addr) (nl cl:Nat) (l:List En) (hB:Rd B al 19 nl (d6 l)) (hl:l.length=nl) (hn:nl<=4611686018427387904) (x:En):FP 162 [enV x,pp b] [.pt b 132 [.slice al nl cl],B] (λv As=>v= .bool (l.any λe=>e.lpn==x.lpn&&e.seq==x.seq)/\As=[.pt b 132 [.slice al nl cl],B]):=by
 refine FE [0,2] Tryz.func162 λX F hX=>?_;refine J.q λbb=>?_;refine J.ca hX (by kernel_rfl) (a6H 164 [pp (bb 0)] (λe=>e.lpn==x.lpn&&e.seq==x.seq) (.pt (bb 0) 155 (enL x)) B (by kernel_rfl) l (λe _=>b5s (bb 0) 0 x e) al nl cl hB hl hn) [2,3] 0 rfl rfl rfl rfl rfl rfl (λ_=>rfl) ?_;refine cpq ⟨_,rfl,trivial,?_⟩;exact J.qx [1,2]
def I9 (L l:List En):List En:=L.filter λx=>!(l.any λe=>e.lpn==x.lpn&&e.seq==x.seq)
theorem b3E (d:Nat) (L:List En) (hL:L.length<=100000) (B:Atom) (al:Option Addr) (nl cl:Nat) (l:List En) (hB:Rd B al 19 nl (d6 l)) (hl:l.length=nl) (hn:nl<=4611686018427387904):FP 110 [pp d, .slice al nl cl] [R1 d L,B] (Ps (iI ((L.length:Int)-(I9 L l).length)) [R1 d (I9 L l),B]):=by
 refine FE [2,0] Tryz.func110 λX F hX=>?_;refine J.o (α:=(Option Nat×Nat)) 1 λx=>?_;obtain⟨a,c⟩:=x;refine J.q λbb=>?_;refine J.cF ?_;refine J.q λ_=>?_;refine J.turn1 [4,2] rfl (As:=[.hp (HP.of [.pt (bb 0) 132 [.slice al nl cl],B])]) (λh s=>Sep.hpOf.2 s) rfl ?_;refine J.q λ_=>?_;refine J.ca hX (by kernel_rfl) (a4w 162 [pp (bb 0)] (λx=>l.any λe=>e.lpn==x.lpn&&e.seq==x.seq) _ (by kernel_rfl) (λx=>Fn.pack (b5t (bb 0) B al nl cl l hB hl hn x)) a L.length c L rfl (by omega)) [3,4] 0 rfl rfl rfl rfl rfl rfl (λ_=>rfl) ?_;rintro v As ⟨l',hl',rfl,rfl⟩;refine⟨_,rfl,trivial,?_⟩;have hll:l'.length<=L.length:=by rw[hl'];exact List.length_filter_le _ _
 have hdn:I9 L l=l':=hl'.symm;refine J.q λ_=>?_;refine J.turn1 [4] rfl (As:=[.pt (bb 0) 132 [.slice al nl cl],B]) (λh s=>Sep.hpOf.1 s) rfl ?_;refine J.cl (λx:Option Nat×Nat=>[.pt d 182 [slv x.1 l'.length x.2],c9 155 19 x.1 l'.length x.2 (d6 l')]) (a,c) [1,3] ?_;refine J.qr [1,5] λ_=>?_;rw[hdn];exact⟨rfl,rfl⟩
theorem num_snoc (l:List En) (next:Int) (k:Nat):Dv.num l next (k+1)=Dv.num l next k++[Dv.numAt l next k]:=by unfold Dv.num;rw[List.range_succ,List.map_append];rfl
theorem a7e (p n t l:Nat) (S:Dv) (A:Atom) (a:Option Addr) (m c:Nat) (es:List En) (hA:Rd A a 19 m (d6 es)) (hl:es.length=m) (hm:m<=1000000) (hd:∀s∈es,s.data.length=16) (hn:1<=S.next/\S.next<=1099511627776) (sl:Nat) (hsl:sl<=7):
  FP 158 [pp p, .slice a m c,iI sl] [P9 p n t l S,A]
  (λv As=>∃g c',v=slv g sl c'/\As=[P9 p n t l {S with next:=S.next+(min m sl:Nat)},A,c9 155 19 g sl c' (d6 (Dv.num es S.next sl))]):=by
 refine FE [2,0,0] Tryz.func158 λX F hX=>?_;refine J.q λ_=>?_;refine J.turn1 [] rfl (As:=[c9 155 19 none 0 0 (d6 [])]) (λh s=>Sep.one ⟨rfl,rfl,rfl⟩) rfl ?_;refine J.q λ_=>?_;refine J.l (α:=(Nat×Int×Option Nat×Nat)) (λz=>z.1<=sl/\z.2.1=S.next+(min m z.1:Nat)) (λz=>[si 11 z.1,si 10 sl,sv 7 (slv z.2.2.1 (Dv.num es S.next z.1).length z.2.2.2),⟨0,pp p,2, .tt⟩,sv 1 (.slice a m c)]) [1,3] (λz=>[P9 p n t l {S with next:=z.2.1},c9 155 19 z.2.2.1 (Dv.num es S.next z.1).length z.2.2.2 (d6 (Dv.num es S.next z.1))]) (λz=>sl-z.1) ((0,S.next,none,0)) (⟨Nat.zero_le _,by simp⟩) λz hI=>?_;obtain⟨k,nx,ga,ca⟩:=z;dsimp only at hI ⊢;obtain⟨hk,hnx⟩:=hI;have hlen:(Dv.num es S.next k).length=k:=Dv.num_len _ _ _;refine J.qd (λ_ h1=>?_) λ_ h1=>?_
 ·simp only[decide_eq_true_eq,Int.ofNat_lt]at h1;have hs:=num_snoc es S.next k;refine J.qd (λ_ h2=>?_) λ_ h2=>?_
  ·simp only[decide_eq_true_eq,ge_iff_le,Int.ofNat_le]at h2;have hx:Dv.numAt es S.next k=En.pad:=by unfold Dv.numAt;rw[if_neg (by omega)]
   refine J.q λ_=>?_;refine J.ap 3 4 0 (I0 (Dv.num es S.next k) En.pad) λa3 c3=>?_;rw[<- hx,<- hs,show(Dv.num es S.next k).length+1=(Dv.num es S.next (k+1)).length from by rw[hs];simp];refine J.q λ_=>?_;refine J.n ((k+1,nx,a3,c3)) (⟨by dsimp only;omega,by dsimp only;rw[hnx];congr 2;omega⟩) (by dsimp only;omega) [0,1,2,3]
  simp only[decide_eq_false_iff_not,ge_iff_le,Int.ofNat_le]at h2;have hkl:k<es.length:=by omega
  have hx:Dv.numAt es S.next k={es.getD k En.zero with seq:=S.next+k}:=by unfold Dv.numAt;rw[if_pos hkl]
  have hget:es[k]? =some (es.getD k En.zero):=by rw[List.getD_eq_getElem?_getD,List.getElem?_eq_getElem hkl,Option.getD_some]
  refine J.know (p:=∃g o,a=some ⟨g,o,none⟩) (λh' s=>Rd.addr (hA _ (s.get (i:=2) rfl)) (by omega)) λhk2=>?_;obtain⟨g,o,rfl⟩:=hk2;refine J.q λ_=>?_;refine J.v (enV (es.getD k En.zero)) rfl rfl (λhg a w he hw=>?_) ?_
  ·exact Z5 tk rfl rfl he rfl rfl rfl (hA _ (hw.get (i:=2) rfl)) (by omega) (j:=k*19) (by omega) (by have:=E6 es [] k _ hget;rwa [List.append_nil]at this) rfl
  refine J.q λ_=>?_;refine J.ap 3 5 0 (I0 (Dv.num es S.next k) {es.getD k En.zero with seq:=nx}) λa3 c3=>?_;have hnk:nx=S.next+(k:Int):=by rw[hnx,Nat.min_eq_right (by omega)]
  rw[hnk,<- hx,<- hs,show(Dv.num es S.next k).length+1=(Dv.num es S.next (k+1)).length from by rw[hs];simp];refine J.q λ_=>?_;refine J.n ((k+1,S.next+k+1,a3,c3)) (⟨by dsimp only;omega,by dsimp only;rw[Nat.min_eq_right (by omega)];omega⟩) (by dsimp only;omega) [0,1,2,3]
 ·simp only[decide_eq_false_iff_not,Int.ofNat_lt]at h1;obtain rfl:k=sl:=by omega
  rw[hnx];refine J.qr [1,2,3] λ_=>?_;exact⟨ga,ca,by rw[hlen],by rw[hlen];rfl⟩
theorem X6 (p n t l:Nat) (S:Dv) (k mm:Nat) (hO:S.Ok (8*Dv.fuel+k) mm) (A:Atom) (a:Option Addr) (m c:Nat) (es:List En) (hA:Rd A a 19 m (d6 es)) (hl:es.length=m) (hm:m<=1000000) (hd:∀s∈es,s.data.length=16):
  FP 109 [pp p, .slice a m c] (DvP p n t l S++[A])
  (Ps (.tuple #[iI (S.pen es).2.1,iI (S.pen es).2.2]) (DvP p n t l (S.pen es).1++[A])):=by
 have hmu:=Dv.mu_le hO;refine FE [2,0] Tryz.func109 λX F hX=>?_;refine J.qF λ_=>?_;refine J.q λ_=>?_;refine J.l (α:=(Nat×Dv)) (λz=>z.2.Ok (8*z.1+k) mm/\z.2.mu<z.1/\Dv.write z.1 z.2 es=S.pen es) (λz=>[⟨0,pp p,2, .tt⟩,sv 1 (.slice a m c)]) [1,2,3,4] (λz=>DvP p n t l z.2) (λz=>z.1) ((Dv.fuel,S)) (⟨hO,by dsimp only;unfold Dv.fuel;omega,rfl⟩) λz hI=>?_;obtain⟨j,Q⟩:=z;dsimp only at hI ⊢;obtain⟨hQ,hj,hw⟩:=hI;obtain⟨j,rfl⟩:∃i,j=i+1:=⟨j-1,by omega⟩;have hQ1:Q.Ok (8+(8*j+k)) mm:=hQ.less (by omega);have hbd:=hQ.gd.ok.bd16;have hlb:=hQ.t.len;have hbb:Q.t.b<=1000:=by have:=hQ.t.b;omega
 rw[Dv.write_succ]at hw;refine J.qd (λ_ h1=>?_) λ_ h1=>?_
 ·simp only[decide_eq_true_eq]at h1;have hlen:es.length≠0:=by omega
  rw[if_neg hlen]at hw;refine J.qp (a9l p n t l Q) [1,2,3,4] λ_=>?_;refine J.q λ_=>?_
  by_cases hns:Q.left=false/\Q.pick<0
  ·rw[if_pos hns]at hw;rw[hns.1];refine J.qT λ_=>?_;refine J.qp (a7d p n t l Q hbb hlb) [1,2,3,4] λ_=>?_;rw[if_pos hns.2,if_pos hns.2];refine J.qT λ_=>?_;refine J.qr [1,2,3,4,5] λ_=>?_;rw[<- hw];exact⟨rfl,rfl⟩
  rw[if_neg hns]at hw;refine J.join (α:=Unit) (λ_=>[⟨0,pp p,2, .tt⟩,sv 1 (.slice a m c)]) (λ_=>[.hp F,P9 p n t l Q.at1,i6 n Q.at1.N,TlA t Q.at1.t,TbA l Q.at1.T,A]) (λhj=>?_) (λ_=>?_)
  ·refine J.qd (λ_ h2=>?_) λ_ h2=>?_
   ·simp only[Bool.not_eq_true']at h2;have hp:¬Q.pick<0:=λe=>hns ⟨h2,e⟩;refine J.qp (a7d p n t l Q hbb hlb) [1,2,3,4] λ_=>?_;rw[if_neg hp,if_neg hp];have ha:Q.at1=Q.opened:=by unfold Dv.at1;rw[h2];rfl
    rw[ha]at hj;refine J.qF λ_=>?_;refine J.qn 1 λ_=>?_;exact J.goto [0,1,2,3,4,5] (hj ()) ⟨rfl,rfl,trivial⟩ rfl rfl
   ·simp only[Bool.not_eq_false']at h2;have ha:Q.at1=Q:=by unfold Dv.at1;rw[h2];rfl
    rw[ha]at hj;refine J.qn 1 λ_=>?_;exact J.goto [0,1,2,3,4,5] (hj ()) ⟨rfl,rfl,trivial⟩ rfl rfl
  have h3:=Dv.at1_left' hQ hns;have h4:=Dv.mu_at1 hQ hns;have hQ3:=hQ1.at1;clear hQ1 hlb hbb;generalize Q.at1=P at hw h3 h4 hQ3 ⊢;have hs:=Dv.left_spec h3;have hfit:=Dv.fit_le P es;have hsb:=Dv.slots_le P.mask;have hnx:=hQ3.next;have hrow:=hQ3.row;obtain⟨sl,hsl⟩:∃sl:Nat,G.slots P.mask=(sl:Int):=⟨(G.slots P.mask).toNat,by omega⟩;have hfs:P.fit es=min m sl:=by unfold Dv.fit;rw[hsl,hl,Int.toNat_natCast]
  have hes:P.es es=Dv.num es P.next sl:=by unfold Dv.es;rw[hsl,Int.toNat_natCast]
  have hmin:(if(sl:Int)<(m:Int)then(sl:Int)else(m:Int))=(P.fit es:Int):=by rw[hfs];split<;>omega
  refine J.qp (K4 P.mask) [] λ_=>?_;rw[hsl];refine J.qn 8 λ_=>?_;rw[hmin];refine J.qd (λ_ h5=>?_) λ_ h5=>?_
  ·simp only[decide_eq_true_eq]at h5;have h5:P.next>1099511627775-(P.fit es:Int)+1:=h5;rw[if_pos h5]at hw;refine J.qr [1,2,3,4,5] λ_=>?_;rw[<- hw];exact⟨rfl,rfl⟩
  simp only[decide_eq_false_iff_not]at h5;have h5:¬P.next>1099511627775-(P.fit es:Int)+1:=h5;rw[if_neg h5]at hw;refine J.qc (a7e p n t l P A a m c es hA hl hm hd hnx sl (by omega)) [1,5] λ_=>?_;rintro v As ⟨g,c1,rfl,rfl⟩;refine⟨_,rfl,trivial,?_⟩;rw[<- hes,<- hfs];have hdn:∀s∈P.es es,s.data.length=16:=Dv.num_data hd _ _;have hlen2:(P.es es).length=sl:=by rw[hes,Dv.num_len]
  refine J.know (λh' s=>j4 (c:=(g,c1)) (by omega) (s.get (i:=6) rfl)) λhg=>?_;obtain⟨ga,rfl⟩:=hg;refine J.know (λh' s=>I5 (show J3 _ _ (some ga) sl c1 _ _ from s.get (i:=6) rfl)) λhcap=>?_;have hRd:Rd (c9 155 19 (some ga) sl c1 (d6 (P.es es))) (some ⟨ga,0,none⟩) 19 sl (d6 (P.es es)):=D4 155 19 (some ga) sl c1 (d6 (P.es es));refine J.pq (.of [0,4,8,13,16,20,24,29,32,36,40,44,49,52,58,60,64,68,72,76]) [19] [1,3,4,5,6] λ_ _=>?_;refine J.ca hX (by kernel_rfl) (a2w n P.N (c9 155 19 (some ga) sl c1 (d6 (P.es es))) P.op P.row P.mask (some ⟨ga,0,none⟩) sl c1 mm (P.es es) hRd hlen2 hdn (hQ3.gd.less (by omega) (Nat.le_refl _))) [2,6] 0 rfl rfl rfl rfl rfl rfl (λ_=>rfl) ?_;refine cpq ⟨_,rfl,stq,?_⟩;have hwr:R.write P.N P.op P.row P.mask (P.es es)=P.wr es:=rfl;rw[hwr];refine J.qd (λ_ h6=>?_) λ_ h6=>?_
  ·simp only[beq_iff_eq]at h6;rw[if_pos h6]at hw;refine J.qr [1,2,3,4,5] λ_=>?_;rw[<- hw];exact⟨by rw[h6],rfl⟩
  simp only[beq_eq_false_iff_ne,ne_eq]at h6;rw[if_neg h6]at hw;refine J.qd (λ_ h7=>?_) λ_ h7=>?_
  ·simp only[beq_iff_eq]at h7;rw[if_pos h7]at hw;refine J.q λ_=>?_;have hfn:(P.fit es:Int).toNat-0=P.fit es:=by omega
   rw[hfn];have hpo:=λi (hi:i<=1000)=>Dv.puts_ok hQ3.T hQ3.sl P.op P.row P.mask (P.es es) i hi;refine J.q λ_=>?_;refine J.l (α:=Nat) (λi=>i<=P.fit es) (λi=>[si 109 i,si 108 (P.fit es:Int),sv 107 (.slice (some ⟨ga,0,none⟩) (P.fit es) (c1-0)),⟨0,pp p,2, .tt⟩,si 8 (P.fit es:Int),si 9 P.row]) [4] (λi=>[TbA l (Dv.puts P.T P.op P.row P.mask (P.es es) i)]) (λi=>P.fit es-i) (0) (Nat.zero_le _) λi hI=>?_;refine J.qd (λ_ h9=>?_) λ_ h9=>?_
   ·simp only[decide_eq_true_eq,Int.ofNat_lt]at h9;have hil:i<(P.es es).length:=by omega
    have hget:(P.es es)[i]? =some ((P.es es).getD i En.zero):=by rw[List.getD_eq_getElem?_getD,List.getElem?_eq_getElem hil,Option.getD_some]
    have hseq: -9223372036854775808<=((P.es es).getD i En.zero).seq/\((P.es es).getD i En.zero).seq<9223372036854775807:=by
     have:(P.es es).getD i En.zero=Dv.numAt es P.next i:=by
      rw[hes];unfold Dv.num;rw[List.getD_eq_getElem?_getD,List.getElem?_map,List.getElem?_range (by omega)];rfl
     rw[this];unfold Dv.numAt;split
     ·show-9223372036854775808<=P.next+(i:Int)/\P.next+(i:Int)<9223372036854775807;omega
     ·show-9223372036854775808<=(0:Int)/\(0:Int)<9223372036854775807;omega
    refine J.q λ_=>?_;refine J.v (enV ((P.es es).getD i En.zero)) rfl rfl (λhg a w he hw=>?_) ?_
    ·exact Z5 tk rfl rfl he rfl rfl rfl (hRd _ (hw.get (i:=6) rfl)) (by omega) (j:=i*19) (by omega) (by have:=E6 (P.es es) [] i _ hget;rwa [List.append_nil]at this) rfl
    refine J.p (.of [0,4,8,13,17,20,24,28,33,36,40,44,48,52,56,61,66]) [] [1,2,3,5,6,7] λ_=>?_;refine J.qp (a2L l (Dv.puts P.T P.op P.row P.mask (P.es es) i) ((P.es es).getD i En.zero) P.op P.row i P.mask hseq (hpo i (by omega)).1.bd) [4] λ_=>?_;rw[<- Dv.puts_succ];refine J.q λ_=>?_;refine J.n (i+1) (by omega) (by omega) [0,1,2,3,4,5,6]
   ·simp only[decide_eq_false_iff_not,Int.ofNat_lt]at h9;obtain rfl:i=P.fit es:=by omega
    refine J.qr [1,2,3,4,5] λ_=>?_;rw[<- hw];exact⟨rfl,rfl⟩
  simp only[beq_eq_false_iff_ne,ne_eq]at h7;rw[if_neg h7]at hw;refine J.qd (λ_ h8=>?_) λ_ h8=>?_
  ·simp only[beq_iff_eq]at h8;rw[if_pos h8]at hw;refine J.qr [1,2,3,4,5] λ_=>?_;rw[<- hw];exact⟨by rw[h8],rfl⟩
  simp only[beq_eq_false_iff_ne,ne_eq]at h8;rw[if_neg h8]at hw;have hWO:=hQ3.wrote hd hs.2.1 h5;have hmu2:=Dv.mu_wrote hQ3 h3 es (P.wr es).2.1;refine J.qp (b2k p n t l (P.wrote es) hWO.gd.ok hWO.t (P.wr es).2.1) [1,2,3,4] λ_=>?_;refine J.q λ_=>?_;refine J.n ((j,(P.wrote es).loses (P.wr es).2.1)) (⟨hWO.loses _,by dsimp only;omega,hw⟩) (by dsimp only;omega) [0,1,2,3,4,5]
 ·simp only[decide_eq_false_iff_not]at h1;have hlen:es.length=0:=by omega
  rw[if_pos hlen]at hw;refine J.qr [1,2,3,4,5] λ_=>?_;rw[<- hw];exact⟨rfl,rfl⟩
theorem Y7 {P:Program} {T:Tab} {E:Env} {n:Nat} {ac:Act} {w:World} (hT:TabOK P T) {o:Oper} {t e size:Nat} {x y:Operand} {k1 k2 t1 t2:Nat} {g1 g2:G} {a:Option Addr} {m c h:Nat} {kk:IntKind} {s1 b1 b2:Nat} {z1 z2:List Value} {td:TD} (hop:o.op= .slice t x none (some y) none) (hx:ev E x=some ⟨k1, .slice a m c,t1,g1⟩) (hy:ev E y=some ⟨k2, .int kk h,t2,g2⟩) (he:EnvOK n E ac) (v1:g1.on=true) (v2:g2.on=true)
  (ht:T.get t=some ⟨.slice e size,s1,z1,b1⟩) (hte:T.get e=some ⟨td,size,z2,b2⟩) (hc:h<=c):
  (execOp ac.eval o).run P w= .ok (.value (.slice a h c)) w:=by
 have e1:=i9 he hx;have e2:=i9 he hy;simp only[Slot.val,v1,v2]at e1 e2;obtain⟨d,f,zv,ok⟩:=i5 (hT.get ht);obtain⟨fe,rfl,g1,g2⟩:=ok.slice rfl;have h0:∀ad:Addr,ad.add 0=ad:=λad=>by unfold Addr.add;rw[if_pos rfl]
 cases a with
 | none=>
  simp only[execOp,hop,Option.map_some,Option.map_none,e1,e2,Instr.sliceAt,Instr.slice,Instr.sliceBounds,Instr.sliceBound,asIntOf,Sem.run_bind,Sem.run_pure,Result.andThen_ok,d7 ok.hd,m7 g1,g2];simp[hc,h0]
 | some ad=>
  simp only[execOp,hop,Option.map_some,Option.map_none,e1,e2,Instr.sliceAt,Instr.slice,Instr.sliceBounds,Instr.sliceBound,asIntOf,Sem.run_bind,Sem.run_pure,Result.andThen_ok,d7 ok.hd,m7 g1,g2];simp[hc,h0]
theorem b7G (x:Int):(if(0:Int)>x then 0 else x)=max x 0:=by split<;>omega
theorem min2 (x y:Int):(if y<x then y else x)=min x y:=by split<;>omega
end Go.Proofs.YtnffkcabeecopaaGreat
