/- Helpers. No condition. -/
import Derived.Test.YtgkpkpbnonmopaaGreatC03
import Derived.Test.YtgkpkpbnonmopaaGreatC05
import Derived.Test.YtgkpkpbnonmopaaGreatC06
import Derived.Test.YtgkpkpbnonmopaaGreatC07
import Derived.Test.YtgkpkpbnonmopaaGreatC08
import Derived.Test.YtgkpkpbnonmopaaGreatC09
set_option maxRecDepth 20000
set_option linter.all false
namespace Go.Proofs.YtgkpkpbnonmopaaGreat
open Go Go.RowKit
theorem FreshP.mono {S:Dv} {b r r':Int} (h:FreshP S b r) (hr:r<=r'):FreshP S b r':=by
 rcases h with⟨h1,h2⟩ | h
 ·exact .inl ⟨h1,by omega⟩
 ·exact .inr h
theorem FreshP.back {S V:Dv} {b r:Int} (h:FreshP V b r) (hf:FreshP S V.op (V.row-1)) (hh:∀b,V.t.has b=S.t.has b) (hu:∀b,S.t.has b=true->(S.t.at_ b).used=true->(V.t.at_ b).used=true):FreshP S b r:=by
 rcases h with⟨h1,h2⟩ | ⟨h1,h2⟩
 ·rw[h1];exact hf.mono (by omega)
 ·rw[hh]at h1;right;refine⟨h1,?_⟩;cases hx:(S.t.at_ b).used with
  | false=>rfl
  | true=>rw[hu b h1 hx]at h2;cases h2
structure Crd (fd:Int) (S:Dv) (I:List Int) (V:Dv):Prop where
 inv:Inv fd V
 pos:∀i∈I,∃a,Tb.look V.T.at_ i=some a/\FreshP S a.block a.row/\∀d:Nat,S.N.dead.getD d false=true->L.has a.mask (d:Nat)=false
 rest:∀i,i∉I->Tb.look V.T.at_ i=Tb.look S.T.at_ i
 logical:V.T.logical=S.T.logical
 next:S.next<=V.next/\V.next<=S.next+14*(I.length:Int)
 dead:V.N.dead=S.N.dead
 broken:V.N.broken=S.N.broken
 like:S.N.Like V.N
 plan:∀a∈V.N.plan,a∈S.N.plan
 flags:∀i j,(V.N.blk i j).met=(S.N.blk i j).met/\(V.N.blk i j).fails=(S.N.blk i j).fails
 has:∀b,V.t.has b=S.t.has b
 sb:∀b,S.t.has b=true->(V.t.at_ b).held=(S.t.at_ b).held/\((S.t.at_ b).used=true->(V.t.at_ b).used=true)
 td:∀d:Int,L.has S.t.dead d=true->L.has V.t.dead d=true
 rowsle:V.rows<=S.rows
 back:∀b r,FreshP V b r->FreshP S b r
 fresh:I≠[]->FreshP S V.op (V.row-1)
theorem Crd.nil {fd:Int} {S:Dv} (h:Inv fd S):Crd fd S [] S:=
 ⟨h,λi hi=>(by cases hi),λ_ _=>rfl,rfl,by simp,rfl,rfl,Nand.Like.refl _,λ_ h=>h,λ_ _=>⟨rfl,rfl⟩,λ_=>rfl,λ_ _=>⟨rfl,λh=>h⟩,λ_ h=>h,Nat.le_refl _,λ_ _ h=>h,λh=>absurd rfl h⟩
namespace Inv
variable {fd : Int} {m : Nat}
theorem slots_pos {S:Dv} {k:Nat} (h:Inv fd S) (hO:S.Ok k m) (hr:0<S.rows):(S.N.dies:Int)-2<=S.slots/\1<=S.slots:=by
 have hg:=hO.gd.ok.bd16;unfold Dv.slots;rcases h.rows_pos hO hr with hl | hp
 ·rw[if_pos hl];have:=(h.opn hl).mask.pos hg.1;omega
 ·split
  ·rename_i hl;have:=(h.opn hl).mask.pos hg.1;omega
  ·rcases S.pick_spec with e | ⟨p1,p2,_,_⟩
   ·omega
   ·have:=(h.msk hO (Tl.has_iff.2 ⟨p1,p2⟩)).pos hg.1;omega
theorem carry_go:∀(f:Nat) (S:Dv) (I:List Int) (done:Int) (W:List (Int×En)) (β ρ k:Nat),Inv fd S->S.Ok (Dv.cost*f+k) m->I.length<=f->Hd S W->WOk W->(∀i∈I,(Tb.look W i).isSome=true)->I.Nodup->Hot2 fd S β->I.length<=(S.N.dies-2)*ρ->ρ+β<=S.rows->S.next+14*(f:Int)<=1099511627775-1300->
  ∃(V:Dv) (β':Nat),Dv.carryGo f S I done=(V,done+(I.length:Int),(0:Int))/\Crd fd S I V/\Hd V W/\Hot2 fd V β'/\β'<=β/\S.rows+β'<=V.rows+ρ+β/\V.Ok k m
 | 0,S,I,done,W,β,ρ,k,h,hO,hL,hH,hW,hin,hnd,hot,hlen,hrw,hnx=>by
  have:I=[]:=List.eq_nil_of_length_eq_zero (by omega);subst this;exact⟨S,β,by show(S,done,(0:Int))=_;simp,Crd.nil h,hH,hot,Nat.le_refl _,by omega,hO.less (by omega)⟩
 | f+1,S,I,done,W,β,ρ,k,h,hO,hL,hH,hW,hin,hnd,hot,hlen,hrw,hnx=>by
  by_cases hl0:I.length=0
  ·have:I=[]:=List.eq_nil_of_length_eq_zero hl0;subst this;exact⟨S,β,by rw[Dv.carryGo,if_pos (show([]:List Int).length=0 from rfl)];simp,Crd.nil h,hH,hot,Nat.le_refl _,by omega,hO.less (by omega)⟩
  ·have hg:=hO.gd.ok.bd16;have hρ:1<=ρ:=by
    rcases Nat.eq_zero_or_pos ρ with e | e
    ·subst e;omega
    ·exact e
   have hβr:β<S.rows:=by omega
   obtain⟨s1,s2⟩:=h.slots_pos hO (by omega);obtain⟨c,hc⟩:∃c,(max S.slots 1).toNat=c:=⟨_,rfl⟩;have hc2:S.N.dies-2<=c/\1<=c:=by omega
   obtain⟨E,e1,e2,e3,e4,e5⟩:=hH.rds hW (I.take c) λi hi=>hin i (List.mem_of_mem_take hi);have hEl:E.length=min c I.length:=by rw[e2,List.length_take]
   have hnd2:(E.map (·.lpn)).Nodup:=by rw[e3];exact hnd.sublist (List.take_sublist _ _)
   have hget:∀j,j<E.length->(E.getD j En.zero).lpn=I.getD j 0:=λj hj=>by
    have h1:(E.map (·.lpn))[j]? =(I.take c)[j]?:=by rw[e3]
    rw[List.getElem?_map,List.getElem?_take,if_pos (by omega),List.getElem?_eq_getElem hj]at h1;rw[List.getD_eq_getElem?_getD,List.getD_eq_getElem?_getD,List.getElem?_eq_getElem hj,<- h1];rfl
   have hlgE:∀e∈E,e.lpn<S.T.logical:=λe he=>by
    have:e.lpn∈I.take c:=by rw[<- e3];exact List.mem_map_of_mem he
    have h1:=hin _ (List.mem_of_mem_take this);obtain⟨w,hw⟩:=Option.isSome_iff_exists.1 h1;obtain⟨_,a,ha,_⟩:=hH.each _ _ hw;exact(hO.T.rng _ (Tb.look_mem ha)).2
   obtain⟨V,n,γ,p1,p2,p3,p4⟩:=h.pen_step (β:=β) (k:=Dv.cost*f+k) (by have:Dv.cost*(f+1)=Dv.cost*f+Dv.cost:=Nat.mul_succ _ _;exact hO.less (by unfold Dv.cost at this ⊢;omega)) hot hβr e4 (by omega) hnd2 hlgE (by omega) hH;have hn1:=p2.n1;have hn2:=p2.n2;have hn3:=p2.n3;have hdisj:∀i j,i<j->j<n->(E.getD i En.zero).lpn≠(E.getD j En.zero).lpn:=λi j hij hj e=>by
    rw[hget i (by omega),hget j (by omega)]at e;have g1:i<I.length:=by omega
    have g2:j<I.length:=by omega
    rw[List.getD_eq_getElem?_getD,List.getD_eq_getElem?_getD,List.getElem?_eq_getElem g1,List.getElem?_eq_getElem g2]at e;have h3:I[i]? =I[j]?:=by rw[List.getElem?_eq_getElem g1,List.getElem?_eq_getElem g2];simpa using e
    have:=(List.getElem?_inj g1 hnd).1 h3;omega
   have hHV:Hd V W:=p4.swap (λj hj=>e5 j (by rw[<- e2];omega)) hdisj;obtain⟨hγ,hot2⟩:=p2.hot β hot;have hdl:(I.drop n).length=I.length-n:=List.length_drop;have hmul:(S.N.dies-2)*ρ=(S.N.dies-2)*(ρ-1)+(S.N.dies-2):=by
    obtain⟨z,rfl⟩:∃z,ρ=z+1:=⟨ρ-1,by omega⟩;rw[Nat.mul_succ];rfl
   have hpr:=p2.rows;have hnxV:=p2.next;obtain⟨V2,β',r1,r2,r3,r4,r5,r6,r7⟩:=carry_go f V (I.drop n) (done+(n:Int)) W (β-γ) (ρ-1) k p2.inv p3 (by omega) hHV hW (λi hi=>hin i (List.mem_of_mem_drop hi)) (hnd.sublist (List.drop_sublist _ _)) hot2 (by rw[p2.like.dies];omega) (by omega) (by omega);have hnext2:=r2.next;have hback:∀b r,FreshP V b r->FreshP S b r:=λb r hb=>hb.back p2.fresh p2.has λb hb=>(p2.sb b hb).2;have hfr:FreshP S V2.op (V2.row-1):=by
    rcases r2.back V2.op V2.row (.inl ⟨rfl,Int.le_refl _⟩)with⟨x1,x2⟩ | ⟨x1,x2⟩
    ·rcases p2.fresh with⟨y1,y2⟩ | y
     ·exact .inl ⟨x1.trans y1,by omega⟩
     ·rw[x1];exact .inr y
    ·rw[p2.has]at x1;right;refine⟨x1,?_⟩;cases hx:(S.t.at_ V2.op).used with
     | false=>rfl
     | true=>rw[(p2.sb _ x1).2 hx]at x2;cases x2
   refine⟨V2,β',?_,⟨r2.inv,λi hi=>?_,λi hi=>?_,r2.logical.trans p2.logical,⟨by omega,by omega⟩,r2.dead.trans p2.dead,r2.broken.trans p2.broken,p2.like.trans r2.like,λa ha=>p2.plan a (r2.plan a ha),λi j=>?_,λb=>(r2.has b).trans (p2.has b),λb hb=>?_,λd hd=>r2.td d (p2.td d hd),by have:=r2.rowsle;omega,λb r hb=>hback b r (r2.back b r hb),λ_=>hfr⟩,r3,r4,by omega,by omega,r7⟩
   ·rw[Dv.carryGo,if_neg hl0,hc];dsimp only;rw[e1];dsimp only;rw[if_neg (by decide),p1];dsimp only;rw[if_neg (by decide),Int.toNat_natCast,r1,hdl];have:done+(n:Int)+((I.length-n:Nat):Int)=done+(I.length:Int):=by omega
    rw[this]
   ·by_cases hd:i∈I.drop n
    ·obtain⟨a,a1,a2,a3⟩:=r2.pos i hd;exact⟨a,a1,hback _ _ a2,λd hd=>a3 d (by rw[p2.dead];exact hd)⟩
    ·have hmem:i∈I.take n:=by
      rw[<- List.take_append_drop n I]at hi;rcases List.mem_append.1 hi with h1 | h1
      ·exact h1
      ·exact absurd h1 hd
     obtain⟨j,hj,hji⟩:=List.mem_iff_getElem.1 hmem;rw[List.length_take]at hj;have hjE:(E.getD j En.zero).lpn=i:=by
      rw[hget j (by omega),List.getD_eq_getElem?_getD,List.getElem?_eq_getElem (by omega),Option.getD_some,<- hji,List.getElem_take]
     obtain⟨a,a1,a2,a3⟩:=p2.pos j (by omega);rw[hjE]at a1;exact⟨a,by rw[r2.rest i hd];exact a1,a2,a3⟩
   ·have h1:i∉I.drop n:=λhd=>hi (List.mem_of_mem_drop hd);rw[r2.rest i h1];refine p2.rest i λj hj e=>hi ?_;rw[<- e,hget j (by omega),List.getD_eq_getElem?_getD,List.getElem?_eq_getElem (by omega)];exact List.getElem_mem _
   ·have a1:=r2.flags i j;have a2:=p2.flags i j;exact⟨a1.1.trans a2.1,a1.2.trans a2.2⟩
   ·have a1:=p2.sb b hb;have a2:=r2.sb b (by rw[p2.has];exact hb);exact⟨a2.1.trans a1.1,λhu=>a2.2 (a1.2 hu)⟩
end Inv
structure TlMore (fd:Int) (t t':Tl):Prop where
 has:∀b,t'.has b=t.has b
 d:t'.d=t.d
 used:∀b,t.has b=true->(t'.at_ b).used=(t.at_ b).used
 held:∀b,t.has b=true->(t'.at_ b).held=(t.at_ b).held
 tdead:L.set t'.dead=true/\∀d:Int,L.has t'.dead d=true->d=fd
 tbad:∀b,t.has b=true->L.set (t'.at_ b).bad=true/\∀d:Int,L.has (t'.at_ b).bad d=true->d=fd
 mask:∀b,t.has b=true->∀e:Int,L.has (t'.mask b) e=true->L.has (t.mask b) e=true
 td:∀e:Int,L.has t.dead e=true->L.has t'.dead e=true
theorem TlMore.refl {fd:Int} {t:Tl} (h1:L.set t.dead=true/\∀d:Int,L.has t.dead d=true->d=fd) (h2:∀b,t.has b=true->L.set (t.at_ b).bad=true/\∀d:Int,L.has (t.at_ b).bad d=true->d=fd):TlMore fd t t:=
 ⟨λ_=>rfl,rfl,λ_ _=>rfl,λ_ _=>rfl,h1,h2,λ_ _ _ h=>h,λ_ h=>h⟩
theorem TlMore.trans {fd:Int} {a b c:Tl} (h:TlMore fd a b) (g:TlMore fd b c):TlMore fd a c:=
 ⟨λx=>(g.has x).trans (h.has x),g.d.trans h.d,λx hx=>(g.used x (by rw[h.has];exact hx)).trans (h.used x hx),λx hx=>(g.held x (by rw[h.has];exact hx)).trans (h.held x hx),g.tdead,λx hx=>g.tbad x (by rw[h.has];exact hx),λx hx e he=>h.mask x hx e (g.mask x (by rw[h.has];exact hx) e he),λe he=>g.td e (h.td e he)⟩
theorem b3J {fd:Int} {t:Tl} (h8:t.d<=8) (h1:L.set t.dead=true/\∀d:Int,L.has t.dead d=true->d=fd) (h2:∀b,t.has b=true->L.set (t.at_ b).bad=true/\∀d:Int,L.has (t.at_ b).bad d=true->d=fd) {d:Nat} (hd:d<8) (hfd:(d:Int)=fd):TlMore fd t (t.die d)/\(d<t.d->∀b,t.has b=true->L.has ((t.die d).mask b) fd=false):=by
 unfold Tl.die;split
 ·have hw:=L.set_with h1.1 (d:=(d:Int)) (by omega);have hwh:=L.with_has h1.1 (d:=(d:Int)) (by omega);have hmk:∀b,t.has b=true->∀e:Int,L.has (Tl.mask ⟨t.d,t.b,t.p,t.l,L.with_ t.dead d⟩ b) e=((decide (0<=e)&&decide (e<t.d))&& !L.has (L.with_ t.dead (d:Int)) e&& !L.has (t.at_ b).bad e):=λb hb e=>(A6 (t:=⟨t.d,t.b,t.p,t.l,L.with_ t.dead d⟩) (b:=b) h8 hb hw (h2 b hb).1).2 e;refine⟨⟨λb=>rfl,rfl,λb hb=>rfl,λb hb=>rfl,⟨hw,λe he=>?_⟩,h2,λb hb e he=>?_,λe he=>?_⟩,λ_ b hb=>?_⟩
  ·have he:L.has (L.with_ t.dead (d:Int)) e=true:=he;rw[hwh]at he;rcases Bool.or_eq_true _ _▸he with he | he
   ·exact h1.2 e he
   ·simp only[decide_eq_true_eq]at he;omega
  ·rw[hmk b hb,hwh]at he;rw[(A6 h8 hb h1.1 (h2 b hb).1).2];simp only[Bool.and_eq_true,Bool.not_eq_true',Bool.or_eq_false_iff]at he ⊢;exact⟨⟨he.1.1,he.1.2.1⟩,he.2⟩
  ·show L.has (L.with_ t.dead (d:Int)) e=true;rw[hwh,he];rfl
  ·rw[hmk b hb,hwh,decide_eq_true hfd.symm];simp
 ·rename_i hh;refine⟨TlMore.refl h1 h2,λhlt=>?_⟩;simp only[Tl.hasDie,Bool.and_eq_true,decide_eq_true_eq]at hh;omega
theorem b3K {fd:Int} {t:Tl} (hl:t.l.length=t.b) (h8:t.d<=8) (h1:L.set t.dead=true/\∀d:Int,L.has t.dead d=true->d=fd) (h2:∀b,t.has b=true->L.set (t.at_ b).bad=true/\∀d:Int,L.has (t.at_ b).bad d=true->d=fd) {d:Nat} (hd:d<8) (hfd:(d:Int)=fd) (k:Int):TlMore fd t (t.bad d k)/\(d<t.d->t.has k=true->L.has ((t.bad d k).mask k) fd=false):=by
 unfold Tl.bad;split
 ·cases hop:t.has k with
  | false=>
   rw[Tl.set_no _ hop];exact⟨TlMore.refl h1 h2,λ_ h=>by cases h⟩
  | true=>
   have hb0:=h2 k hop;have hw:=L.set_with hb0.1 (d:=(d:Int)) (by omega);have hwh:=L.with_has hb0.1 (d:=(d:Int)) (by omega);have hat:∀b,t.has b=true->(t.set k {t.at_ k with bad:=L.with_ (t.at_ k).bad d}).at_ b=if b=k then {t.at_ k with bad:=L.with_ (t.at_ k).bad d}else t.at_ b:=λb hb=>Tl.at_set hl _ hop hb
   have hbad:∀b,t.has b=true->L.set ((t.set k {t.at_ k with bad:=L.with_ (t.at_ k).bad d}).at_ b).bad=true/\(∀e:Int,L.has ((t.set k {t.at_ k with bad:=L.with_ (t.at_ k).bad d}).at_ b).bad e=true->e=fd)/\(∀e:Int,L.has (t.at_ b).bad e=true->L.has ((t.set k {t.at_ k with bad:=L.with_ (t.at_ k).bad d}).at_ b).bad e=true):=λb hb=>by
    rw[hat b hb];split
    ·rename_i e;subst e;dsimp only;refine⟨hw,λe he=>?_,λe he=>?_⟩
     ·rw[hwh]at he;rcases Bool.or_eq_true _ _▸he with he | he
      ·exact hb0.2 e he
      ·simp only[decide_eq_true_eq]at he;omega
     ·rw[hwh,he];rfl
    ·exact⟨(h2 b hb).1,(h2 b hb).2,λe he=>he⟩
   have hmk:∀b,t.has b=true->∀e:Int,L.has ((t.set k {t.at_ k with bad:=L.with_ (t.at_ k).bad d}).mask b) e=((decide (0<=e)&&decide (e<t.d))&& !L.has t.dead e&& !L.has ((t.set k {t.at_ k with bad:=L.with_ (t.at_ k).bad d}).at_ b).bad e):=λb hb e=>by
    have:=(A6 (t:=t.set k {t.at_ k with bad:=L.with_ (t.at_ k).bad d}) (b:=b) (by rw[Tl.set_d];exact h8) (by rw[Tl.has_set];exact hb) (by rw[Tl.set_dead];exact h1.1) (hbad b hb).1).2 e
    rwa [Tl.set_d,Tl.set_dead]at this
   refine⟨⟨λb=>Tl.has_set _ _ _ _,Tl.set_d _ _ _,λb hb=>?_,λb hb=>?_,by rw[Tl.set_dead];exact h1,λb hb=>⟨(hbad b hb).1,(hbad b hb).2.1⟩,λb hb e he=>?_,λe he=>by rw[Tl.set_dead];exact he⟩,λ_ _=>?_⟩
   ·rw[hat b hb];split
    ·rename_i e;rw[e]
    ·rfl
   ·rw[hat b hb];split
    ·rename_i e;rw[e]
    ·rfl
   ·rw[hmk b hb]at he;rw[(A6 h8 hb h1.1 (h2 b hb).1).2];simp only[Bool.and_eq_true,Bool.not_eq_true']at he ⊢;refine⟨he.1,?_⟩;cases hx:L.has (t.at_ b).bad e with
    | false=>rfl
    | true=>rw[(hbad b hb).2.2 e hx]at he;exact absurd he.2 (by decide)
   ·rw[hmk k hop,hat k hop,if_pos rfl,hwh,decide_eq_true hfd.symm];simp
 ·rename_i hh;refine⟨TlMore.refl h1 h2,λhlt=>?_⟩;simp only[Tl.hasDie,Bool.and_eq_true,decide_eq_true_eq]at hh;omega
namespace Inv
variable {fd : Int} {S : Dv} {k m : Nat}
def Empty (S:Dv) (b:Int):Prop:=∀i a,Tb.look S.T.at_ i=some a->a.block≠b
structure ErN (fd:Int) (N N':Nand) (b:Int):Prop where
 lit:N'.Lit
 like:N.Like N'
 dead:N'.dead=N.dead
 broken:N'.broken=N.broken
 plan:∀a∈N'.plan,a∈N.plan
 rest:∀i j,j≠b.toNat->N'.blk i j=N.blk i j
 flags:∀i j:Nat,(i:Int)≠fd->(N'.blk i j).met=(N.blk i j).met/\(N'.blk i j).fails=(N.blk i j).fails
 nof:(∀i j,(N.blk i j).fails=false)->∀i j,(N'.blk i j).met=(N.blk i j).met/\(N'.blk i j).fails=false
theorem ErN.refl (fd:Int) {N:Nand} (h:N.Lit) (b:Int):ErN fd N N b:=⟨h,Nand.Like.refl _,rfl,rfl,λ_ h=>h,λ_ _ _=>rfl,λ_ _ _=>⟨rfl,rfl⟩,λh i j=>⟨rfl,h i j⟩⟩
theorem ErN.trans {fd:Int} {A B C:Nand} {b:Int} (h:ErN fd A B b) (g:ErN fd B C b):ErN fd A C b:=
 ⟨g.lit,h.like.trans g.like,g.dead.trans h.dead,g.broken.trans h.broken,λa ha=>h.plan a (g.plan a ha),λi j hj=>(g.rest i j hj).trans (h.rest i j hj),λi j hi=>⟨(g.flags i j hi).1.trans (h.flags i j hi).1,(g.flags i j hi).2.trans (h.flags i j hi).2⟩,λhf i j=>⟨(g.nof (λi j=>(h.nof hf i j).2) i j).1.trans (h.nof hf i j).1,(g.nof (λi j=>(h.nof hf i j).2) i j).2⟩⟩
theorem er_one {N:Nand} (hl:N.Lit) {d:Nat} {b:Int} (hd:d<N.dies) (hb:0<=b/\b<N.blocks) (hp:0<N.pages) (hfl:(d:Int)≠fd->N.dead.getD d false=false/\(N.blk d b.toNat).fails=false):
  ErN fd N (N.eraseN d b) b/\(N.eraseE d b=0\/(N.eraseE d b=8\/N.eraseE d b=7)/\(d:Int)=fd)/\(N.eraseE d b=0->((N.eraseN d b).blk d b.toNat).cells=[])/\(∀i:Nat,i≠d->(N.eraseN d b).blk i b.toNat=N.blk i b.toNat)/\((N.dead.getD d false=false/\(N.blk d b.toNat).fails=false)->N.eraseE d b=0/\((N.eraseN d b).blk d b.toNat).worn=(N.blk d b.toNat).worn+1/\(N.eraseN d b).ops=N.ops+1):=by
 have hr:N.refuses d b 0=if N.dead.getD d false then 8 else 0:=by
  have:=hl.refuses (x:=(d:Int)) (y:=b) (z:=0) (by omega) hb (by omega)
  rwa [Int.toNat_natCast]at this
 cases hdd:N.dead.getD d false with
 | true=>
  rw[hdd,if_pos rfl]at hr;have e1:N.eraseE d b=8:=by unfold Nand.eraseE;rw[hr];rfl
  have e2:N.eraseN d b=N:=by unfold Nand.eraseN;dsimp only;rw[if_pos (by rw[hr];decide)]
  have hfd:(d:Int)=fd:=by
   by_cases e:(d:Int)=fd
   ·exact e
   ·have:=(hfl e).1;rw[hdd]at this;cases this
  rw[e1,e2];exact⟨ErN.refl fd hl b, .inr ⟨.inl rfl,hfd⟩,λh=>(by cases h),λ_ _=>rfl,λh=>(by cases h.1)⟩
 | false=>
  rw[hdd,if_neg Bool.false_ne_true]at hr;have hcb:=hl.cutB;cases hf:(N.blk d b.toNat).fails with
  | true=>
   have e1:N.eraseE d b=7:=by unfold Nand.eraseE;rw[hr,hcb,Int.toNat_natCast,hf];rfl
   have hfd:(d:Int)=fd:=by
    by_cases e:(d:Int)=fd
    ·exact e
    ·have:=(hfl e).2;rw[hf]at this;cases this
   have e2:N.eraseN d b=N.cutN.setBlk d b.toNat {N.blk d b.toNat with met:=true}:=by
    unfold Nand.eraseN;dsimp only;rw[if_neg (by rw[hr];decide),if_neg (by rw[hcb];decide),Int.toNat_natCast,if_pos hf]
   have hb:∀i j,(N.eraseN d b).blk i j=if i=d/\j=b.toNat then {N.blk d b.toNat with met:=true}else N.blk i j:=λi j=>by rw[e2];rfl
   refine⟨⟨hl.erase _ _,Nand.like_erase _ _ _,by rw[e2];rfl,by rw[e2];rfl,λa ha=>by rw[e2]at ha;exact ha,λi j hj=>by rw[hb,if_neg (by omega)],λi j hi=>?_,λhall=>(by have:=hall d b.toNat;rw[hf]at this;cases this)⟩, .inr ⟨.inr e1,hfd⟩,λh=>(by rw[e1]at h;cases h),λi hi=>by rw[hb,if_neg (by omega)],λh=>(by cases h.2)⟩;rw[hb,if_neg (by omega)];exact⟨rfl,rfl⟩
  | false=>
   have e1:N.eraseE d b=0:=by unfold Nand.eraseE;rw[hr,hcb,Int.toNat_natCast,hf];rfl
   have e2:N.eraseN d b={N.cutN.setBlk d b.toNat {N.blk d b.toNat with cells:=[],worn:=(N.blk d b.toNat).worn+1}with plan:=N.plan.filter λa=>!(decide (a.1=(d:Int))&&decide (a.2.1=b))}:=by
    unfold Nand.eraseN;dsimp only;rw[if_neg (by rw[hr];decide),if_neg (by rw[hcb];decide),Int.toNat_natCast,if_neg (by rw[hf];decide)]
   have hb:∀i j,(N.eraseN d b).blk i j=if i=d/\j=b.toNat then {N.blk d b.toNat with cells:=[],worn:=(N.blk d b.toNat).worn+1}else N.blk i j:=λi j=>by rw[e2];rfl
   refine⟨⟨hl.erase _ _,Nand.like_erase _ _ _,by rw[e2];rfl,by rw[e2];rfl,λa ha=>by rw[e2]at ha;exact(List.mem_filter.1 ha).1,λi j hj=>by rw[hb,if_neg (by omega)],λi j hi=>?_,λhall i j=>?_⟩, .inl e1,λ_=>by rw[hb,if_pos ⟨rfl,rfl⟩],λi hi=>by rw[hb,if_neg (by omega)],λ_=>⟨e1,by rw[hb,if_pos ⟨rfl,rfl⟩],by rw[e2];rfl⟩⟩
   ·rw[hb];split
    ·rename_i e;rw[e.1,e.2];exact⟨rfl,rfl⟩
    ·exact⟨rfl,rfl⟩
   ·rw[hb];split
    ·rename_i e;rw[e.1,e.2];exact⟨rfl,hall d b.toNat⟩
    ·exact⟨rfl,hall i j⟩
theorem put_er (h:Inv fd S) (hF:S.t.Fit S.N) {N':Nand} {t':Tl} {b:Int} (hE:ErN fd S.N N' b) (hT:TlMore fd S.t t') (hb:S.t.has b=true) (hne:b≠S.op) (hemp:Empty S b) (hu:(S.t.at_ b).used=true):Inv fd {S with N:=N',t:=t'}/\∀i a,Std fd S i a->a.block≠b->Std fd {S with N:=N',t:=t'} i a/\R.read N' a.block a.row a.slot a.mask=R.read S.N a.block a.row a.slot a.mask:=by
 have hst:∀i a,Std fd S i a->a.block≠b->Std fd {S with N:=N',t:=t'} i a/\R.read N' a.block a.row a.slot a.mask=R.read S.N a.block a.row a.slot a.mask:=λi a ha hab=>by
  obtain⟨lr,g1,g2,g3,g4,g5,g6⟩:=ha.row;have hblk:=g1.is.blk;have hbr:=(Tl.has_iff.1 hb).1;have hk:Full fd N' a.block a.row a.mask lr:=g1.keep hE.like λx hx=>by
   unfold Nand.pageAt;rw[hE.rest _ _ (by omega)]
  have hhas:S.t.has a.block=true:=Tl.has_iff.2 (by have:=hF.b;omega);refine⟨⟨⟨lr,hk,g2,g3,g4,g5,g6⟩,by show(t'.at_ a.block).used=true;rw[hT.used _ hhas];exact ha.used,ha.below,ha.seq⟩,?_⟩;have r1:=hk.read hE.lit.off (λi hi=>by rw[hE.dead];exact h.dead i hi) g3;have r2:=g1.read h.lit.off h.dead g3;rw[show((a.slot.toNat:Nat):Int)=a.slot from by omega]at r1 r2;rw[r1,r2]
 refine⟨⟨hE.lit,λi hi=>by show N'.dead.getD i false=false;rw[hE.dead];exact h.dead i hi,λa ha=>h.plan a (hE.plan a ha),λi j hi=>by have:=hE.flags i j hi;show(N'.blk i j).met=false/\(N'.blk i j).fails=false;rw[this.1,this.2];exact h.flags i j hi,hT.tdead,λx hx=>hT.tbad x (by rw[<- hT.has];exact hx),?_,λx hx hxu d hd=>?_,λi a ha=>(hst i a (h.st i a ha) (hemp i a ha)).1⟩,λi a ha hab=>hst i a ha hab⟩
 ·rcases h.op with e | e
  ·exact .inl e
  ·right;have hhas:S.t.has S.op=true:=Tl.has_iff.2 (by have:=e.blk;have:=hF.b;omega);refine⟨by show 0<=S.op/\S.op<N'.blocks;rw[hE.like.blocks];exact e.blk,by show(t'.at_ S.op).used=true;rw[hT.used _ hhas];exact e.used,by show 0<=S.row/\S.row<=N'.pages;rw[hE.like.pages];exact e.row,by show Msk N'.dies fd S.mask;rw[hE.like.dies];exact e.mask,λd hd=>?_⟩;show((N'.blk d S.op.toNat).cells.length:Int)<=S.row/\(N'.dead.getD d false=false->((N'.blk d S.op.toNat).cells.length:Int)=S.row);have hbr:=(Tl.has_iff.1 hb).1;rw[hE.rest _ _ (by have:=e.blk;omega),hE.dead];exact e.cells d hd
 ·have hx':S.t.has x=true:=by rw[<- hT.has];exact hx
  have hxu':(S.t.at_ x).used=false:=by rw[<- hT.used x hx'];exact hxu
  have hxb:x≠b:=λe=>by rw[e,hu]at hxu';cases hxu'
  show(N'.blk d x.toNat).cells=[];rw[hE.rest _ _ (by have:=(Tl.has_iff.1 hb).1;have:=(Tl.has_iff.1 hx').1;omega)];exact h.blank x hx' hxu' d (hT.mask x hx' _ hd)
end Inv
def a9R (N:Nand):Prop:=(∀i:Nat,N.dead.getD i false=false)/\∀i j:Nat,(N.blk i j).fails=false
def a5c (m:Int) (q:List Nat):Nat:=(q.filter λd=>L.has m (d:Nat)).length
theorem b0N {fd:Int} {t:Tl} (hl:t.l.length=t.b) (h8:t.d<=8) (h1:L.set t.dead=true/\∀d:Int,L.has t.dead d=true->d=fd) (h2:∀b,t.has b=true->L.set (t.at_ b).bad=true/\∀d:Int,L.has (t.at_ b).bad d=true->d=fd) (k:Int) (s:Sb) (hs:t.has k=true->s.bad=(t.at_ k).bad/\s.used=(t.at_ k).used/\s.held=(t.at_ k).held):TlMore fd t (t.set k s):=by
 cases hop:t.has k with
 | false=>rw[Tl.set_no _ hop];exact TlMore.refl h1 h2
 | true=>
  obtain⟨s1,s2,s3⟩:=hs hop;have hat:∀b,t.has b=true->((t.set k s).at_ b).bad=(t.at_ b).bad/\((t.set k s).at_ b).used=(t.at_ b).used/\((t.set k s).at_ b).held=(t.at_ b).held:=λb hb=>by
   rw[Tl.at_set hl _ hop hb];split
   ·rename_i e;rw[e];exact⟨s1,s2,s3⟩
   ·exact⟨rfl,rfl,rfl⟩
  have hb2:∀b,t.has b=true->L.set ((t.set k s).at_ b).bad=true/\∀d:Int,L.has ((t.set k s).at_ b).bad d=true->d=fd:=λb hb=>by rw[(hat b hb).1];exact h2 b hb
  refine⟨λb=>Tl.has_set _ _ _ _,Tl.set_d _ _ _,λb hb=>(hat b hb).2.1,λb hb=>(hat b hb).2.2,by rw[Tl.set_dead];exact h1,hb2,λb hb e he=>?_,λe he=>by rw[Tl.set_dead];exact he⟩;have hm:=(A6 (t:=t.set k s) (b:=b) (by rw[Tl.set_d];exact h8) (by rw[Tl.has_set];exact hb) (by rw[Tl.set_dead];exact h1.1) (hb2 b hb).1).2 e;rw[hm,Tl.set_d,Tl.set_dead,(hat b hb).1]at he;rw[(A6 h8 hb h1.1 (h2 b hb).1).2];exact he
namespace Inv
variable {fd : Int} {S : Dv} {k m : Nat}
structure Er (fd:Int) (S:Dv) (b:Int):Prop where
 inv:Inv fd S
 fit:S.t.Fit S.N
 has:S.t.has b=true
 ne:b≠S.op
 emp:Empty S b
 used:(S.t.at_ b).used=true
 six:3<=S.N.dies/\S.N.dies<=6
 pages:0<S.N.pages
structure Erd (fd:Int) (S:Dv) (b mk:Int) (q:List Nat) (N':Nand) (t':Tl):Prop where
 er:ErN fd S.N N' b
 more:TlMore fd S.t t'
 fit:t'.Fit S.N
 done:∀d∈q,L.has mk (d:Nat)=true->(N'.blk d b.toNat).cells=[]\/L.has (t'.mask b) (d:Nat)=false
 rest:∀i:Nat,i∉q->N'.blk i b.toNat=S.N.blk i b.toNat
 exact_:a9R S.N->t'=S.t/\a9R N'/\N'.ops=S.N.ops+(a5c mk q:Int)/\∀d∈q,L.has mk (d:Nat)=true->(N'.blk d b.toNat).worn=(S.N.blk d b.toNat).worn+1
theorem Er.put {b:Int} (h:Er fd S b) {N':Nand} {t':Tl} (hE:ErN fd S.N N' b) (hT:TlMore fd S.t t') (hF:t'.Fit S.N):Er fd {S with N:=N',t:=t'} b/\∀i a,Std fd S i a->a.block≠b->Std fd {S with N:=N',t:=t'} i a/\R.read N' a.block a.row a.slot a.mask=R.read S.N a.block a.row a.slot a.mask:=by
 have hp:=h.inv.put_er h.fit hE hT h.has h.ne h.emp h.used;refine⟨⟨hp.1,hF.like hE.like,by show t'.has b=true;rw[hT.has];exact h.has,h.ne,h.emp,by show(t'.at_ b).used=true;rw[hT.used b h.has];exact h.used,by show 3<=N'.dies/\N'.dies<=6;rw[hE.like.dies];exact h.six,by show 0<N'.pages;rw[hE.like.pages];exact h.pages⟩,hp.2⟩
theorem eraseD_spec {b mk:Int} (h:Er fd S b) {d:Nat} (hd:d<S.N.dies):∃N' t',Dv.eraseD b mk (S.N,S.t,0) d=(N',t',0)/\Erd fd S b mk [d] N' t':=by
 have hsix:=h.six;have hblk:0<=b/\b<S.N.blocks:=by have:=Tl.has_iff.1 h.has;have:=h.fit.b;omega
 have h8:S.t.d<=8:=by have:=h.fit.d;omega
 have hdt:d<S.t.d:=by have:=h.fit.d;omega
 unfold Dv.eraseD;rw[if_neg (by simp)];cases hh:L.has mk (d:Nat)with
 | false=>
  rw[if_pos rfl];refine⟨S.N,S.t,rfl,ErN.refl fd h.inv.lit b,TlMore.refl h.inv.tdead h.inv.tbad,h.fit,λe he hm=>?_,λ_ _=>rfl,λhn=>⟨rfl,hn,?_,λe he hm=>?_⟩⟩
  ·rw[List.mem_singleton.1 he,hh]at hm;cases hm
  ·show _=S.N.ops+(([d].filter λd=>L.has mk (d:Nat)).length:Int);rw[List.filter_cons,hh];simp
  ·rw[List.mem_singleton.1 he,hh]at hm;cases hm
 | true=>
  rw[if_neg (by decide)];dsimp only;obtain⟨e1,e2,e3,e4,e5⟩:=er_one (fd:=fd) h.inv.lit hd hblk h.pages (λhne=>⟨h.inv.dead d hne,(h.inv.flags d b.toNat hne).2⟩);have hcnt:(a5c mk [d]:Int)=1:=by unfold a5c;rw[List.filter_cons,hh];rfl
  rcases e2 with e2 | ⟨e2,hfd⟩
  ·refine⟨S.N.eraseN d b,S.t,?_,e1,TlMore.refl h.inv.tdead h.inv.tbad,h.fit,λe he _=> .inl (by rw[List.mem_singleton.1 he];exact e3 e2),λi hi=>e4 i (λe=>hi (by rw[e];exact List.mem_singleton.2 rfl)),λhn=>?_⟩
   ·rw[if_pos e2,if_neg (by rw[e2];decide)]
   ·obtain⟨x1,x2,x3⟩:=e5 ⟨hn.1 d,hn.2 d b.toNat⟩;refine⟨rfl,⟨λi=>by rw[e1.dead];exact hn.1 i,λi j=>(e1.nof hn.2 i j).2⟩,by rw[x3,hcnt],λe he _=>by rw[List.mem_singleton.1 he];exact x2⟩
  ·have hnn:¬a9R S.N:=λhn=>by
    have:=(e5 ⟨hn.1 d,hn.2 d b.toNat⟩).1;omega
   rcases e2 with e2 | e2
   ·obtain⟨m1,m2⟩:=b3J h8 h.inv.tdead h.inv.tbad (d:=d) (by omega) hfd;refine⟨S.N.eraseN d b,S.t.die d,?_,e1,m1,h.fit.die d,λe he _=> .inr (by rw[List.mem_singleton.1 he];have:=m2 hdt b h.has;rwa [<- hfd]at this),λi hi=>e4 i (λe=>hi (by rw[e];exact List.mem_singleton.2 rfl)),λhn=>absurd hn hnn⟩;rw[if_neg (by omega),if_neg (by omega),if_pos e2,if_neg (by omega)]
   ·obtain⟨m1,m2⟩:=b3K h.fit.len h8 h.inv.tdead h.inv.tbad (d:=d) (by omega) hfd b;refine⟨S.N.eraseN d b,S.t.bad d b,?_,e1,m1,h.fit.bad d b,λe he _=> .inr (by rw[List.mem_singleton.1 he];have:=m2 hdt h.has;rwa [<- hfd]at this),λi hi=>e4 i (λe=>hi (by rw[e];exact List.mem_singleton.2 rfl)),λhn=>absurd hn hnn⟩;rw[if_neg (by omega),if_neg (by omega),if_neg (by omega),if_neg (by omega)]
theorem eraseQ_spec {b mk:Int}:∀(q:List Nat) (S:Dv),Er fd S b->(∀d∈q,d<S.N.dies)->q.Nodup->∃N' t',q.foldl (Dv.eraseD b mk) (S.N,S.t,0)=(N',t',0)/\Erd fd S b mk q N' t'
 | [],S,h,_,_=>⟨S.N,S.t,rfl,ErN.refl fd h.inv.lit b,TlMore.refl h.inv.tdead h.inv.tbad,h.fit,λd hd=>(by cases hd),λ_ _=>rfl,λhn=>⟨rfl,hn,by simp[a5c],λd hd=>(by cases hd)⟩⟩
 | d::q,S,h,hq,hnd=>by
  obtain⟨N1,t1,f1,g1⟩:=eraseD_spec (mk:=mk) h (hq d (by simp));obtain⟨p1,_⟩:=h.put g1.er g1.more g1.fit;have hnd2:=List.nodup_cons.1 hnd;obtain⟨N2,t2,f2,g2⟩:=eraseQ_spec (mk:=mk) q _ p1 (λe he=>by show e<N1.dies;rw[g1.er.like.dies];exact hq e (by simp[he])) hnd2.2;have e2:ErN fd N1 N2 b:=g2.er;have m2:TlMore fd t1 t2:=g2.more;have hF2:t2.Fit S.N:=⟨g2.fit.d.trans g1.er.like.dies,g2.fit.b.trans g1.er.like.blocks,g2.fit.p.trans g1.er.like.pages,g2.fit.len⟩;refine⟨N2,t2,by rw[List.foldl_cons,f1];exact f2,g1.er.trans e2,g1.more.trans m2,hF2,λe he hm=>?_,λi hi=>?_,λhn=>?_⟩
  ·rcases List.mem_cons.1 he with rfl | he
   ·rcases g1.done e (List.mem_singleton.2 rfl) hm with hc | hc
    ·left;have:N2.blk e b.toNat=N1.blk e b.toNat:=g2.rest e hnd2.1;rw[this];exact hc
    ·right;cases hx:L.has (t2.mask b) (e:Nat)with
     | false=>rfl
     | true=>
      have:=m2.mask b (by rw[g1.more.has];exact h.has) _ hx;rw[hc]at this;cases this
   ·exact g2.done e he hm
  ·have h1:N2.blk i b.toNat=N1.blk i b.toNat:=g2.rest i (λe=>hi (by simp[e]));have h2:=g1.rest i (λe=>hi (by rw[List.mem_singleton.1 e];simp));rw[h1,h2]
  ·obtain⟨x1,x2,x3,x4⟩:=g1.exact_ hn;obtain⟨y1,y2,y3,y4⟩:=g2.exact_ x2;have y3:N2.ops=N1.ops+(a5c mk q:Int):=y3;refine⟨y1.trans x1,y2,?_,λe he hm=>?_⟩
   ·have:a5c mk (d::q)=a5c mk [d]+a5c mk q:=by
     unfold a5c;rw[<- List.length_append,<- List.filter_append];rfl
    rw[y3,x3,this];omega
   ·rcases List.mem_cons.1 he with rfl | he
    ·have:N2.blk e b.toNat=N1.blk e b.toNat:=g2.rest e hnd2.1;rw[this];exact x4 e (List.mem_singleton.2 rfl) hm
    ·have hne:e≠d:=λe2=>hnd2.1 (by rw[<- e2];exact he);have:=y4 e he hm;have h3:N1.blk e b.toNat=S.N.blk e b.toNat:=g1.rest e (λe2=>hne (List.mem_singleton.1 e2));have this:(N2.blk e b.toNat).worn=(N1.blk e b.toNat).worn+1:=this;rw[this,h3]
end Inv
namespace Inv
variable {fd : Int} {S : Dv} {k m : Nat}
theorem msk2 (h:Inv fd S) (hF:S.t.Fit S.N) (h6:3<=S.N.dies/\S.N.dies<=6) {b:Int} (hb:S.t.has b=true):Msk S.N.dies fd (S.t.mask b):=by
 have hd:=hF.d;obtain⟨m1,m2⟩:=A6 (by omega) hb h.tdead.1 (h.tbad b hb).1;refine⟨m1,λd hh=>?_,λd hlt hne=>?_⟩
 ·rw[m2]at hh;simp only[Bool.and_eq_true,decide_eq_true_eq]at hh;omega
 ·rw[m2,decide_eq_true (p:=(0:Int)<=(d:Int)) (by omega),decide_eq_true (p:=(d:Int)<S.t.d) (by omega)];have e1:L.has S.t.dead (d:Nat)=false:=by
   cases hh:L.has S.t.dead (d:Nat)with
   | false=>rfl
   | true=>exact absurd (h.tdead.2 _ hh) hne
  have e2:L.has (S.t.at_ b).bad (d:Nat)=false:=by
   cases hh:L.has (S.t.at_ b).bad (d:Nat)with
   | false=>rfl
   | true=>exact absurd ((h.tbad b hb).2 _ hh) hne
  rw[e1,e2];rfl
theorem usable2 (h:Inv fd S) (hF:S.t.Fit S.N) (h6:3<=S.N.dies/\S.N.dies<=6) {b:Int} (hb:S.t.has b=true):S.t.usable b=true:=by
 have:=((h.msk2 hF h6 hb).pos h6).1;unfold Tl.usable;exact decide_eq_true (by omega)
theorem wores_more (h:Inv fd S) (hF:S.t.Fit S.N) (h6:S.N.dies<=6) (N':Nand) (b:Int):∀(q:List Nat) (t:Tl),TlMore fd S.t t->t.Fit S.N->TlMore fd S.t (q.foldl (λt (d:Nat)=>t.wore b (N'.wornAt d b)) t)/\(q.foldl (λt (d:Nat)=>t.wore b (N'.wornAt d b)) t).Fit S.N/\(∀x,x≠b->t.has x=true->(q.foldl (λt (d:Nat)=>t.wore b (N'.wornAt d b)) t).at_ x=t.at_ x)/\(q.foldl (λt (d:Nat)=>t.wore b (N'.wornAt d b)) t).blanks=t.blanks
 | [],t,hT,hF2=>⟨hT,hF2,λ_ _ _=>rfl,rfl⟩
 | d::q,t,hT,hF2=>by
  have h1:TlMore fd t (t.wore b (N'.wornAt d b)):=b0N hF2.len (by have:=hF2.d;omega) hT.tdead (λx hx=>hT.tbad x (by rw[<- hT.has];exact hx)) _ _ (λ_=>⟨rfl,rfl,rfl⟩);have ih:=wores_more h hF h6 N' b q (t.wore b (N'.wornAt d b)) (hT.trans h1) (hF2.wore _ _);rw[List.foldl_cons];refine⟨ih.1,ih.2.1,λx hx hhx=>?_,ih.2.2.2.trans (Tl.blanks_same hF2.len _ _ rfl)⟩;rw[ih.2.2.1 x hx (by unfold Tl.wore;rw[Tl.has_set];exact hhx)];unfold Tl.wore;cases hb:t.has b with
  | false=>rw[Tl.set_no _ hb]
  | true=>rw[Tl.at_set hF2.len _ hb hhx,if_neg hx]
theorem blanks_more {fd:Int} {t t':Tl} (h:TlMore fd t t') (hl:t.l.length=t.b) (hl':t'.l.length=t'.b) (hb:t'.b=t.b):t'.blanks=t.blanks:=by
 unfold Tl.blanks;have e:t'.l.map (·.used)=t.l.map (·.used):=by
  apply List.ext_getElem?;intro i;rw[List.getElem?_map,List.getElem?_map]
  by_cases hi:i<t.l.length
  ·have hhas:t.has (i:Nat)=true:=Tl.has_iff.2 (by omega);have:=h.used (i:Nat) hhas;unfold Tl.at_ at this;rw[Int.toNat_natCast,List.getD_eq_getElem?_getD,List.getD_eq_getElem?_getD,List.getElem?_eq_getElem hi,List.getElem?_eq_getElem (by omega)]at this;rw[List.getElem?_eq_getElem hi,List.getElem?_eq_getElem (by omega)];exact congrArg some this
  ·rw[List.getElem?_eq_none (by omega),List.getElem?_eq_none (by omega)]
 have h1:∀l:List Sb,(l.countP λs=>!s.used)=(l.map (·.used)).countP λu=>!u:=λl=>by rw[List.countP_map];rfl
 rw[h1,h1,e]
structure Erased (fd:Int) (S:Dv) (b:Int) (N':Nand) (t':Tl):Prop where
 inv:Inv fd {S with N:=N',t:=t'}
 fit:t'.Fit N'
 er:ErN fd S.N N' b
 reads:∀i a,Std fd S i a->a.block≠b->Std fd {S with N:=N',t:=t'} i a/\R.read N' a.block a.row a.slot a.mask=R.read S.N a.block a.row a.slot a.mask
 blank:(t'.at_ b).used=false
 rest:∀x,S.t.has x=true->x≠b->(t'.at_ x).used=(S.t.at_ x).used
 held:∀x,S.t.has x=true->(t'.at_ x).held=(S.t.at_ x).held
 blanks:t'.blanks=S.t.blanks+1
 td:∀e:Int,L.has S.t.dead e=true->L.has t'.dead e=true
 exact_:a9R S.N->a9R N'/\N'.ops=S.N.ops+(a5c (S.t.mask b) (List.range S.N.dies):Int)/\(∀d:Nat,d<S.N.dies->L.has (S.t.mask b) (d:Nat)=true->(N'.blk d b.toNat).worn=(S.N.blk d b.toNat).worn+1)/\t'=(Dv.wores N' S.t b).clean b true
theorem erase_spec {b:Int} (h:Er fd S b):∃N' t',Dv.erase S.N S.t b=(N',t',0)/\Erased fd S b N' t':=by
 obtain⟨N1,t1,f1,g1⟩:=eraseQ_spec (mk:=S.t.mask b) (List.range S.N.dies) S h (λd hd=>List.mem_range.1 hd) List.nodup_range;obtain⟨p1,p2⟩:=h.put g1.er g1.more g1.fit;have hF1:t1.Fit N1:=g1.fit.like g1.er.like;have h6:3<=N1.dies/\N1.dies<=6:=p1.six;obtain⟨w1,w2,w3,w4⟩:=wores_more p1.inv hF1 h6.2 N1 b (List.range N1.dies) t1 (TlMore.refl p1.inv.tdead p1.inv.tbad) hF1;have hw:(List.range N1.dies).foldl (λt (d:Nat)=>t.wore b (N1.wornAt d b)) t1=Dv.wores N1 t1 b:=rfl;rw[hw]at w1 w2 w3 w4;obtain⟨T2,hT2⟩:∃T2,Dv.wores N1 t1 b=T2:=⟨_,rfl⟩;rw[hT2]at w1 w2 w3 w4;have w1:TlMore fd t1 T2:=w1;have w2:T2.Fit N1:=w2;have hTm:TlMore fd S.t T2:=g1.more.trans w1;have hF2:T2.Fit S.N:=⟨w2.d.trans g1.er.like.dies,w2.b.trans g1.er.like.blocks,w2.p.trans g1.er.like.pages,w2.len⟩;obtain⟨r1,r2⟩:=h.put g1.er hTm hF2;have hus:T2.usable b=true:=r1.inv.usable2 w2 h6 r1.has;have hhas:T2.has b=true:=r1.has;have hmk:∀j,(T2.clean b true).mask j=T2.mask j:=λj=>Dv.mask_clean w2.len _ _ _;have hat:∀x,T2.has x=true->(T2.clean b true).at_ x=if x=b then {T2.at_ b with used:=false}else T2.at_ x:=λx hx=>Tl.at_set w2.len _ hhas hx
 have hfin:Dv.erase S.N S.t b=(N1,T2.clean b true,0):=by
  unfold Dv.erase Dv.eraseB;rw[f1];dsimp only;rw[if_neg (by simp)];unfold Dv.eraseT;rw[hT2,if_pos hus]
 have hdd:(T2.clean b true).dead=T2.dead:=Tl.set_dead _ _ _;have hhs:∀x,(T2.clean b true).has x=T2.has x:=λx=>Tl.has_set _ _ _ _;have hstd:∀i a,Std fd {S with N:=N1,t:=T2} i a->a.block≠b->Std fd {S with N:=N1,t:=T2.clean b true} i a:=λi a ha hab=>by
  obtain⟨lr,q1,q2⟩:=ha.row;have hx:T2.has a.block=true:=Tl.has_iff.2 (by
   have h1:=q1.is.blk;have h2:=w2.b;have h1:0<=a.block/\a.block<N1.blocks:=h1;omega)
  exact⟨⟨lr,q1,q2⟩,by show((T2.clean b true).at_ a.block).used=true;rw[hat _ hx,if_neg hab];exact ha.used,ha.below,ha.seq⟩
 refine⟨N1,T2.clean b true,hfin,⟨⟨r1.inv.lit,r1.inv.dead,r1.inv.plan,r1.inv.flags,by show L.set (T2.clean b true).dead=true/\_;rw[hdd];exact r1.inv.tdead,λx hx=>?_,?_,λx hx hxu d hd=>?_,λi a ha=>hstd i a (r1.inv.st i a ha) (h.emp i a ha)⟩,w2.clean _ _,g1.er,λi a ha hab=>⟨hstd i a (r2 i a ha hab).1 hab,(r2 i a ha hab).2⟩,?_,λx hx hne=>?_,λx hx=>?_,?_,λe he=>by rw[hdd];exact hTm.td e he,λhn=>?_⟩⟩
 ·have hx':T2.has x=true:=by rw[<- hhs];exact hx
  show L.set ((T2.clean b true).at_ x).bad=true/\∀d:Int,L.has ((T2.clean b true).at_ x).bad d=true->d=fd;rw[hat x hx'];split
  ·exact r1.inv.tbad b hhas
  ·exact r1.inv.tbad x hx'
 ·rcases r1.inv.op with e | e
  ·exact .inl e
  ·right;have hx:T2.has S.op=true:=Tl.has_iff.2 (by
    have h1:=e.blk;have h2:=w2.b;have h1:0<=S.op/\S.op<N1.blocks:=h1;omega)
   exact⟨e.blk,by show((T2.clean b true).at_ S.op).used=true;rw[hat _ hx,if_neg (λe2=>h.ne e2.symm)];exact e.used,e.row,e.mask,e.cells⟩
 ·have hx':T2.has x=true:=by rw[<- hhs];exact hx
  have hd2:L.has (T2.mask x) (d:Nat)=true:=by rw[<- hmk];exact hd
  have hxu2:((T2.clean b true).at_ x).used=false:=hxu;rw[hat x hx']at hxu2;split at hxu2
  ·rename_i e;subst e;have hm:=hTm.mask x h.has _ hd2;have hdl:=(h.inv.msk2 h.fit h.six h.has).lt _ hm;rcases g1.done d (List.mem_range.2 (by omega)) hm with hc | hc
   ·exact hc
   ·have:=w1.mask x (by rw[g1.more.has];exact h.has) _ hd2;rw[hc]at this;cases this
  ·exact r1.inv.blank x hx' hxu2 d hd2
 ·rw[hat b hhas,if_pos rfl]
 ·have hx':T2.has x=true:=by rw[hTm.has];exact hx
  rw[hat x hx',if_neg hne];exact hTm.used x hx
 ·have hx':T2.has x=true:=by rw[hTm.has];exact hx
  rw[hat x hx'];split
  ·rename_i e;rw[e];exact hTm.held b h.has
  ·exact hTm.held x hx
 ·have h1:T2.blanks=S.t.blanks:=blanks_more hTm h.fit.len w2.len (by have:=hF2.b;have:=h.fit.b;omega);have hub:(T2.at_ b).used=true:=by rw[hTm.used b h.has];exact h.used
  have:=Tl.countP_set (λs:Sb=>!s.used) (T2.at_ b) {T2.at_ b with used:=!true} T2.l b.toNat (Tl.get_at w2.len hhas);have e1:(T2.clean b true).blanks=(T2.l.set b.toNat {T2.at_ b with used:=!true}).countP (λs:Sb=>!s.used):=by unfold Tl.clean Tl.set Tl.blanks;rw[if_pos hhas]
  have e2:T2.blanks=T2.l.countP (λs:Sb=>!s.used):=rfl;rw[<- e1,<- e2,hub]at this;simp only[Bool.not_true,Bool.not_false,Bool.false_eq_true,if_false,if_true]at this;omega
 ·obtain⟨x1,x2,x3,x4⟩:=g1.exact_ hn;exact⟨x2,x3,λd hd hm=>x4 d (List.mem_range.2 hd) hm,by rw[<- hT2,x1]⟩
end Inv
namespace Inv
variable {fd : Int} {S : Dv} {k m : Nat}
structure Cleared (fd:Int) (S:Dv) (l:List Int) (N':Nand) (t':Tl):Prop where
 inv:Inv fd {S with N:=N',t:=t'}
 fit:t'.Fit N'
 lit:N'.Lit
 like:S.N.Like N'
 dead:N'.dead=S.N.dead
 broken:N'.broken=S.N.broken
 plan:∀a∈N'.plan,a∈S.N.plan
 reads:∀i a,Std fd S i a->a.block∉l->Std fd {S with N:=N',t:=t'} i a/\R.read N' a.block a.row a.slot a.mask=R.read S.N a.block a.row a.slot a.mask
 has:∀x,t'.has x=S.t.has x
 blank:∀b∈l,(t'.at_ b).used=false
 rest:∀x,S.t.has x=true->x∉l->(t'.at_ x).used=(S.t.at_ x).used
 held:∀x,S.t.has x=true->(t'.at_ x).held=(S.t.at_ x).held
 blanks:t'.blanks=S.t.blanks+l.length
 td:∀e:Int,L.has S.t.dead e=true->L.has t'.dead e=true
 nofl:a9R S.N->a9R N'/\∀i j:Nat,(N'.blk i j).met=(S.N.blk i j).met
theorem clearGo_spec:∀(l:List Int) (S:Dv),(∀b∈l,Er fd S b)->l.Nodup->Inv fd S->S.t.Fit S.N->∃N' t',Dv.clearGo l S.N S.t=(N',t',0)/\Cleared fd S l N' t'
 | [],S,_,_,h,hF=>⟨S.N,S.t,rfl,h,hF,h.lit,Nand.Like.refl _,rfl,rfl,λ_ h=>h,λi a ha _=>⟨ha,rfl⟩,λ_=>rfl,λb hb=>(by cases hb),λ_ _ _=>rfl,λ_ _=>rfl,rfl,λ_ h=>h,λhn=>⟨hn,λ_ _=>rfl⟩⟩
 | b::l,S,hl,hnd,h,hF=>by
  have hb:=hl b (by simp);have hnd2:=List.nodup_cons.1 hnd;obtain⟨N1,t1,f1,g1⟩:=erase_spec hb;have hhas1:∀x,t1.has x=S.t.has x:=λx=>by
   unfold Tl.has;rw[show t1.b=S.t.b from by rw[g1.fit.b,hF.b,g1.er.like.blocks]]
  obtain⟨N2,t2,f2,g2⟩:=clearGo_spec l {S with N:=N1,t:=t1} (λx hx=>by
   have hx':=hl x (by simp[hx]);have hne:x≠b:=λe=>hnd2.1 (by rw[<- e];exact hx);exact⟨g1.inv,g1.fit,by show t1.has x=true;rw[hhas1];exact hx'.has,hx'.ne,hx'.emp,by show(t1.at_ x).used=true;rw[g1.rest x hx'.has hne];exact hx'.used,by show 3<=N1.dies/\N1.dies<=6;rw[g1.er.like.dies];exact hx'.six,by show 0<N1.pages;rw[g1.er.like.pages];exact hx'.pages⟩) hnd2.2 g1.inv g1.fit
  have l2:N1.Like N2:=g2.like;have d2:N2.dead=N1.dead:=g2.dead;have b2:N2.broken=N1.broken:=g2.broken;have bl2:t2.blanks=t1.blanks+l.length:=g2.blanks;refine⟨N2,t2,?_,g2.inv,g2.fit,g2.lit,g1.er.like.trans l2,d2.trans g1.er.dead,b2.trans g1.er.broken,λa ha=>g1.er.plan a (g2.plan a ha),λi a ha hab=>?_,λx=>(g2.has x).trans (hhas1 x),λx hx=>?_,λx hx hxl=>?_,λx hx=>?_,by rw[bl2,g1.blanks,List.length_cons];omega,λe he=>g2.td e (g1.td e he),λhn=>?_⟩
  ·rw[Dv.clearGo,f1];dsimp only;rw[if_neg (by simp)];exact f2
  ·have r1:=g1.reads i a ha (λe=>hab (by rw[e];simp));have r2:=g2.reads i a r1.1 (λe=>hab (by simp[e]));exact⟨r2.1,r2.2.trans r1.2⟩
  ·rcases List.mem_cons.1 hx with rfl | hx
   ·have:=g2.rest x (by show t1.has x=true;rw[hhas1];exact hb.has) hnd2.1;rw[this];exact g1.blank
   ·exact g2.blank x hx
  ·have h1:=g2.rest x (by show t1.has x=true;rw[hhas1];exact hx) (λe=>hxl (by simp[e]));rw[h1];exact g1.rest x hx (λe=>hxl (by simp[e]))
  ·rw[g2.held x (by show t1.has x=true;rw[hhas1];exact hx)];exact g1.held x hx
  ·obtain⟨n1,_⟩:=g1.exact_ hn;obtain⟨n2,n3⟩:=g2.nofl n1;exact⟨n2,λi j=>(n3 i j).trans (g1.er.nof hn.2 i j).1⟩
theorem pkSome_nodup (kind:Int->Bool) (o:Int) (n:Nat):(f7 kind o n).Nodup:=by
 unfold f7;rw[List.nodup_iff_pairwise_ne,List.pairwise_map];exact(List.Pairwise.filter _ (List.nodup_iff_pairwise_ne.1 List.nodup_range)).imp λh e=>h (by omega)
theorem spent_er (h:Inv fd S) (hO:S.Ok k m) {b:Int} (hb:b∈f7 (j5 S.t S.T) S.op S.t.b):Er fd S b:=by
 obtain⟨h1,h2,h3,h4⟩:=mem_pkSome.1 hb;have hg:=hO.gd.ok.bd16;have hhas:S.t.has b=true:=Tl.has_iff.2 ⟨h1,h2⟩;simp only[j5,Bool.and_eq_true,Bool.not_eq_true',beq_iff_eq]at h4;obtain⟨⟨⟨_,hbl⟩,_⟩,hc⟩:=h4;refine⟨h,hO.t,hhas,h3,λi a ha e=>?_,?_,hg.1,by omega⟩
 ·rw[hO.T.cnt]at hc;have hc:Tb.cntB S.T.at_ b=0:=by omega
  unfold Tb.cntB at hc;rw[List.countP_eq_zero]at hc;exact hc _ (Tb.look_mem ha) (by simp[e])
 ·unfold Tl.blank at hbl;rw[hhas,Bool.true_and]at hbl;simpa using hbl
theorem clear_spec (h:Inv fd S) (hO:S.Ok k m):∃N' t',S.clear=({S with N:=N',t:=t'},0)/\Cleared fd S (f7 (j5 S.t S.T) S.op S.t.b) N' t':=by
 obtain⟨N',t',f,g⟩:=clearGo_spec (f7 (j5 S.t S.T) S.op S.t.b) S (λb hb=>h.spent_er hO hb) (pkSome_nodup _ _ _) h hO.t;refine⟨N',t',?_,g⟩;unfold Dv.clear Dv.clearX;rw[f]
theorem countP_range_get {α:Type} (p:α->Bool) (z:α) (l:List α):l.countP p=(List.range l.length).countP λi=>p (l.getD i z):=by
 induction l with
 | nil=>rfl
 | cons x l ih=>
  rw[List.countP_cons,List.length_cons,List.range_succ_eq_map,List.countP_cons,List.countP_map,ih];rfl
theorem free_len (h:Inv fd S) (hO:S.Ok k m):S.free=S.t.blanks:=by
 unfold Dv.free f7;rw[List.length_map,<- List.countP_eq_length_filter];have hlen:=hO.t.len;unfold Tl.blanks;rw[countP_range_get _ Sb.zero,hlen];refine List.countP_congr λi hi=>?_;have hi:=List.mem_range.1 hi;have hhas:S.t.has (i:Nat)=true:=Tl.has_iff.2 (by omega);obtain⟨a1,a2⟩:=h.free_iff hO hhas;rw[a1];have e:S.t.blank (i:Nat)= !(S.t.l.getD i Sb.zero).used:=by unfold Tl.blank Tl.at_;rw[hhas,Int.toNat_natCast];rfl
 cases hb:S.t.blank (i:Nat)with
 | false=>rw[e]at hb;rw[hb];simp
 | true=>rw[a2 hb];rw[e]at hb;rw[hb];simp
end Inv
theorem a0N {kind:Int->Bool} {o:Int}:∀n:Nat,(∀x:Nat,x<n->(((x:Int) !=o)&&kind x)=false)->f7 kind o n=[]
 | 0,_=>rfl
 | n+1,h=>by rw[M2,if_neg (by rw[h n (by omega)];decide),a0N n λx hx=>h x (by omega)]
theorem a8Z {N:Nand} {t:Tl} (h:∀i:Nat,N.dead.getD i false=false):Dv.seeDead N t=t:=by
 unfold Dv.seeDead;have:∀(q:List Nat),q.foldl (λt (d:Nat)=>if N.deadAt d then t.die d else t) t=t:=by
  intro q
  induction q with
  | nil=>rfl
  | cons d q ih=>
   rw[List.foldl_cons];have:N.deadAt d=false:=by unfold Nand.deadAt;rw[Int.toNat_natCast,h];simp
   rw[this,if_neg Bool.false_ne_true];exact ih
 exact this _
theorem a2x {f:Int->Int->Int} {key:Int->Int} (h1:∀x y,f x y<0->key x<=key y) (h2:∀x y,¬f x y<0->key y<=key x):∀(l:List Int) (m:Int),key (O3 f l m)<=key m/\∀x∈l,key (O3 f l m)<=key x
 | [],m=>⟨Int.le_refl _,λx hx=>(by cases hx)⟩
 | y::l,m=>by
  rw[O3];obtain⟨a1,a2⟩:=a2x h1 h2 l (if f y m<0 then y else m);have hm:key (if f y m<0 then y else m)<=key m/\key (if f y m<0 then y else m)<=key y:=by
   split
   ·rename_i hh;exact⟨h1 _ _ hh,Int.le_refl _⟩
   ·rename_i hh;exact⟨Int.le_refl _,h2 _ _ hh⟩
  refine⟨by omega,λx hx=>?_⟩;rcases List.mem_cons.1 hx with rfl | hx
  ·omega
  ·exact a2 x hx
theorem b8T {p q w:Int} (h:orI [C1 p q,w]<0):p<=q:=by
 refine Classical.byContradiction λhp=>?_;have e:C1 p q=1:=by unfold C1;rw[if_neg (by omega),if_pos (by omega)]
 rw[e]at h;exact absurd h (by show¬(if(1:Int)≠0 then(1:Int)else _)<0;rw[if_pos (by decide)];decide)
theorem b7G {p q w:Int} (h:¬orI [C1 p q,w]<0):q<=p:=by
 refine Classical.byContradiction λhp=>h ?_;have e:C1 p q= -1:=by unfold C1;rw[if_pos (by omega)]
 rw[e];show(if(-1:Int)≠0 then(-1:Int)else _)<0;rw[if_pos (by decide)];decide
theorem a1c (S:Dv) {x:Int} (hx:x∈f7 (A9 S.t S.T) S.op S.t.b):S.victim∈f7 (A9 S.t S.T) S.op S.t.b/\S.T.count S.victim<=S.T.count x:=by
 unfold Dv.victim;cases hl:f7 (A9 S.t S.T) S.op S.t.b with
 | nil=>rw[hl]at hx;cases hx
 | cons y l=>
  rw[hl]at hx;refine⟨a2y _ (by simp),?_⟩;have key:=a2x (f:=λx y=>orI [C1 (S.T.count x) (S.T.count y),C1 (S.t.wear x) (S.t.wear y)]) (key:=S.T.count) (λx y hh=>b8T hh) (λx y hh=>b7G hh) l y;rcases List.mem_cons.1 hx with rfl | hx
  ·exact key.1
  ·exact key.2 x hx
theorem b5G (l:List (Int×AtV)):∀Q:List Int,Q.Nodup->(Q.map λb=>Tb.cntB l b).sum<=l.length:=by
 induction l with
 | nil=>
  intro Q _;have:(Q.map λb=>Tb.cntB [] b).sum=0:=by
   induction Q with
   | nil=>rfl
   | cons b Q ih=>rw[List.map_cons,List.sum_cons,ih (by rename_i h;exact(List.nodup_cons.1 h).2)];rfl
  rw[this];exact Nat.zero_le _
 | cons x l ih=>
  intro Q hQ;have h1:(Q.map λb=>Tb.cntB (x::l) b).sum<=(Q.map λb=>Tb.cntB l b).sum+1:=by
   have h2:∀Q:List Int,Q.Nodup->(Q.map λb=>Tb.cntB (x::l) b).sum<=(Q.map λb=>Tb.cntB l b).sum+(if x.2.block∈Q then 1 else 0):=by
    intro Q
    induction Q with
    | nil=>intro _;exact Nat.le_refl _
    | cons b Q ihQ=>
     intro hn;obtain⟨n1,n2⟩:=List.nodup_cons.1 hn;have:=ihQ n2;rw[List.map_cons,List.sum_cons,List.map_cons,List.sum_cons];have hc:Tb.cntB (x::l) b=Tb.cntB l b+if x.2.block==b then 1 else 0:=by
      unfold Tb.cntB;rw[List.countP_cons]
     rw[hc]
     by_cases e:x.2.block=b
     ·subst e;rw[if_neg n1]at this;rw[if_pos (by simp),if_pos (by simp)];omega
     ·rw[if_neg (by simpa using e)]
      by_cases e2:x.2.block∈Q
      ·rw[if_pos e2]at this;rw[if_pos (by simp[e2])];omega
      ·rw[if_neg e2]at this;rw[if_neg (by simp[e,e2])];omega
   have:=h2 Q hQ;split at this<;>omega
  have:=ih Q hQ;rw[List.length_cons];omega
theorem b0p (c:Nat):∀(Q:List Int) (f:Int->Nat),(∀b∈Q,c<=f b)->Q.length*c<=(Q.map f).sum
 | [],_,_=>by simp
 | b::Q,f,h=>by
  rw[List.length_cons,List.map_cons,List.sum_cons,Nat.succ_mul];have:=b0p c Q f λx hx=>h x (by simp[hx]);have:=h b (by simp);omega
namespace Inv
variable {fd : Int} {S : Dv} {k m : Nat} {W : List (Int × En)}
theorem clear_hd (h:Inv fd S) (hO:S.Ok k m) (hH:Hd S W):∃N' t',S.clear=({S with N:=N',t:=t'},0)/\Cleared fd S (f7 (j5 S.t S.T) S.op S.t.b) N' t'/\Hd {S with N:=N',t:=t'} W:=by
 obtain⟨N',t',c1,c2⟩:=h.clear_spec hO;refine⟨N',t',c1,c2,⟨hH.keys,λi e he=>?_⟩⟩;obtain⟨h1,a,h2,h3⟩:=hH.each i e he;refine⟨h1,a,h2,?_⟩;rw[(c2.reads i a (h.st i a h2) λhb=>(h.spent_er hO hb).emp i a h2 rfl).2];exact h3
end Inv
theorem U5 {α:Type} [BEq α] [LawfulBEq α]:∀{K M:List α},K.Nodup->(∀x∈K,x∈M)->K.length<=M.length
 | [],M,_,_=>Nat.zero_le _
 | x::K,M,h,hs=>by
  obtain⟨h1,h2⟩:=List.nodup_cons.1 h;have hx:=hs x (by simp);have h3:=U5 (M:=M.erase x) h2 λy hy=>by
   have hne:y≠x:=λe=>h1 (by rw[<- e];exact hy);exact(List.mem_erase_of_ne hne).2 (hs y (by simp[hy]))
  rw[List.length_erase_of_mem hx]at h3;have:=List.length_pos_of_mem hx;rw[List.length_cons];omega
theorem ins_len {T:Tb} (h:T.Ok) (b:Int):(T.ins b).length<=Tb.cntB T.at_ b:=by
 unfold Tb.ins;split
 ·exact Nat.zero_le _
 ·have h1:(Tb.inK T b T.logical.toNat).Nodup:=by
   unfold Tb.inK;exact List.pairwise_map.2 ((List.nodup_range.filter _).imp λhne e=>hne (by omega))
  have h2:=U5 (M:=(T.at_.filter λx=>x.2.block==b).map (·.1)) h1 λx hx=>by
   simp only[Tb.inK,List.mem_map,List.mem_filter,List.mem_range]at hx;obtain⟨i,⟨_,hi⟩,rfl⟩:=hx;unfold Tb.inB at hi;cases ha:Tb.look T.at_ (i:Int)with
   | none=>rw[ha]at hi;cases hi
   | some a=>
    rw[ha]at hi;exact List.mem_map.2 ⟨((i:Int),a),List.mem_filter.2 ⟨Tb.look_mem ha,hi⟩,rfl⟩
  rw[List.length_map]at h2;unfold Tb.cntB;rw[List.countP_eq_length_filter];exact h2
theorem b6l {T:Tb} (h:T.Ok) {b i:Int} {a:AtV} (ha:Tb.look T.at_ i=some a) (hb:a.block=b):i∈T.ins b:=by
 have hr:=h.rng _ (Tb.look_mem ha);have hc:T.count b≠0:=by
  rw[h.cnt];have:0<Tb.cntB T.at_ b:=List.countP_pos_iff.2 ⟨_,Tb.look_mem ha,by simp[hb]⟩;omega
 unfold Tb.ins;rw[if_neg hc];unfold Tb.inK;obtain⟨j,rfl⟩:=Int.eq_ofNat_of_zero_le hr.1;refine List.mem_map.2 ⟨j,List.mem_filter.2 ⟨List.mem_range.2 (by have:=hr.2;simp only at this;omega),?_⟩,rfl⟩;unfold Tb.inB;rw[ha];simp[hb]
theorem b4l {T:Tb} {b i:Int} (h:i∈T.ins b):∃a,Tb.look T.at_ i=some a/\a.block=b:=by
 unfold Tb.ins at h;split at h
 ·cases h
 ·simp only[Tb.inK,List.mem_map,List.mem_filter,List.mem_range]at h;obtain⟨j,⟨_,hj⟩,rfl⟩:=h;unfold Tb.inB at hj;cases ha:Tb.look T.at_ (j:Int)with
  | none=>rw[ha]at hj;cases hj
  | some a=>rw[ha]at hj;exact⟨a,rfl,by simpa using hj⟩
theorem a1o (kind:Int->Bool) (o:Int):∀n,(f7 kind o n).length=(List.range n).countP λi:Nat=>((i:Int) !=o)&&kind i
 | 0=>rfl
 | n+1=>by
  rw[M2,List.range_succ,List.countP_append,<- a1o kind o n]
  by_cases h:(((n:Int) !=o)&&kind n)=true
  ·rw[if_pos h,List.length_append];simp[List.countP_cons,h]
  ·rw[if_neg h];simp[List.countP_cons,h]
theorem a2t {p q:Nat->Bool} {o:Int}:∀n:Nat,(∀i,i<n->p i=true\/q i=true\/(i:Int)=o)->n<=(List.range n).countP p+(List.range n).countP q+(if 0<=o/\o<n then 1 else 0)
 | 0,_=>by simp
 | n+1,h=>by
  have ih:=a2t (p:=p) (q:=q) (o:=o) n λi hi=>h i (by omega);rw[List.range_succ,List.countP_append,List.countP_append];have hn:=h n (by omega);have e1:[n].countP p=if p n then 1 else 0:=by simp[List.countP_cons]
  have e2:[n].countP q=if q n then 1 else 0:=by simp[List.countP_cons]
  rw[e1,e2];have a1:p n=true->(if p n=true then 1 else 0)=1:=λe=>if_pos e;have a2:q n=true->(if q n=true then 1 else 0)=1:=λe=>if_pos e;generalize(if p n=true then 1 else 0)=x1 at a1 ⊢;generalize(if q n=true then 1 else 0)=x2 at a2 ⊢
  by_cases ho:0<=o/\o<n
  ·rw[if_pos ho]at ih;rw[if_pos (show 0<=o/\o<((n+1:Nat):Int)by omega)];rcases hn with e | e | e
   ·have:=a1 e;omega
   ·have:=a2 e;omega
   ·omega
  ·rw[if_neg ho]at ih;rcases hn with e | e | e
   ·have:=a1 e;split<;>omega
   ·have:=a2 e;split<;>omega
   ·rw[if_pos (show 0<=o/\o<((n+1:Nat):Int)by omega)];omega
structure Rmy (fd:Int) (W:List (Int×En)) (S:Dv):Prop where
 inv:Inv fd S
 hd:Hd S W
 wok:WOk W
 held:∀b,S.t.has b=true->(S.t.at_ b).held=false
 ff:(∀i:Nat,S.N.dead.getD i false=false)->∀i j:Nat,(S.N.blk i j).fails=false
 cap:2*W.length<=(S.N.blocks-5)*(S.N.pages*(S.N.dies-2))+1
namespace Rmy
variable {fd : Int} {S : Dv} {k m β : Nat} {W : List (Int × En)}
theorem clear(h:Rmy fd W S) (hO:S.Ok (96+k) m):∃V,S.clear=(V,0)/\Rmy fd W V/\V.Ok k m/\f7 (j5 V.t V.T) V.op V.t.b=[]/\V.t.blanks=S.t.blanks+(f7 (j5 S.t S.T) S.op S.t.b).length/\V.T=S.T/\V.op=S.op/\V.row=S.row/\V.next=S.next/\V.rows=S.rows+S.N.pages*(f7 (j5 S.t S.T) S.op S.t.b).length/\V.N.dead=S.N.dead/\V.N.broken=S.N.broken/\S.N.Like V.N/\(∀d:Int,L.has S.t.dead d=true->L.has V.t.dead d=true)/\(Hot2 fd S β->Hot2 fd V β):=by
 have hk:=Dv.clear_keep hO;obtain⟨N',t',c1,c2,c3⟩:=h.inv.clear_hd hO h.hd;rw[c1]at hk;refine⟨_,c1,⟨c2.inv,c3,h.wok,λb hb=>?_,λhd=>?_,?_⟩,hk.1,?_,c2.blanks,rfl,rfl,rfl,rfl,?_,c2.dead,c2.broken,c2.like,c2.td,λhh=>?_⟩
 ·have hb:t'.has b=true:=hb;rw[c2.has]at hb;show(t'.at_ b).held=false;rw[c2.held b hb];exact h.held b hb
 ·have hd:∀i:Nat,N'.dead.getD i false=false:=hd;rw[c2.dead]at hd;exact(c2.nofl ⟨hd,h.ff hd⟩).1.2
 ·show 2*W.length<=(N'.blocks-5)*(N'.pages*(N'.dies-2))+1;rw[c2.like.blocks,c2.like.pages,c2.like.dies];exact h.cap
 ·refine a0N _ λx hx=>?_;have hx:x<t'.b:=hx;have htb:t'.b=S.t.b:=by rw[c2.fit.b,hO.t.b,c2.like.blocks]
  have hhas:S.t.has (x:Int)=true:=Tl.has_iff.2 (by omega);have hhas':t'.has (x:Int)=true:=by rw[c2.has];exact hhas
  cases hh:(((x:Int) !=S.op)&&j5 t' S.T x)with
  | false=>rfl
  | true=>
   exfalso
   rw[Bool.and_eq_true]at hh;have h2:=hh.2;unfold j5 at h2;simp only[Bool.and_eq_true,Bool.not_eq_true']at h2;have hu':(t'.at_ x).used=true:=by
    have:=h2.1.1.2;unfold Tl.blank at this;rw[hhas']at this;simpa using this
   by_cases hm:(x:Int)∈f7 (j5 S.t S.T) S.op S.t.b
   ·rw[c2.blank _ hm]at hu';cases hu'
   ·refine hm (mem_pkSome.2 ⟨by omega,by omega,by simpa using hh.1,?_⟩);unfold j5;rw[h.inv.usable hO hhas,h2.2];unfold Tl.blank Tl.held;rw[hhas,<- c2.rest _ hhas hm,hu',h.held _ hhas];rfl
 ·unfold Dv.rows;show N'.pages*t'.blanks+(if S.op>=0 then((N'.pages:Int)-S.row).toNat else 0)=_;rw[c2.blanks,c2.like.pages,Nat.mul_add];omega
 ·cases hh with
  | calm hno=>
   have hnf:=c2.nofl ⟨hno.dead,h.ff hno.dead⟩;exact .calm ⟨λi=>by show N'.dead.getD i false=false;rw[c2.dead];exact hno.dead i,List.eq_nil_iff_forall_not_mem.2 λa ha=>(by have:=c2.plan a ha;rw[hno.plan]at this;cases this),λi j=>by show(N'.blk i j).met=false;rw[hnf.2];exact hno.met i j⟩
  | cold h1 h2=>exact .cold (c2.td fd h1) h2
  | once h1=>exact .once (c2.td fd h1)
end Rmy
inductive Mvd (fd:Int) (S:Dv):Dv->Prop
 | nil:Mvd fd S S
 | same {U V:Dv}:Mvd fd S U->V.T=U.T->V.op=U.op->V.row=U.row->(∀b,V.t.has b=U.t.has b)->V.N.dead=U.N.dead->Inv fd V->Mvd fd S V
 | crd {U V:Dv} {I:List Int}:Mvd fd S U->Crd fd U I V->Mvd fd S V
namespace Rmy
variable {fd : Int} {S : Dv} {k m β : Nat} {W : List (Int × En)}
theorem victim (h:Rmy fd W S) (hO:S.Ok k m) (hsp:f7 (j5 S.t S.T) S.op S.t.b=[]) (hfr:¬(S.free:Int)>4):
  0<=S.victim/\S.t.has S.victim=true/\S.victim≠S.op/\(S.t.at_ S.victim).used=true/\0<Tb.cntB S.T.at_ S.victim/\2*Tb.cntB S.T.at_ S.victim<=S.N.pages*(S.N.dies-2)/\S.T.count S.victim<S.t.p*G.slots (S.t.mask S.victim):=by
 have hg:=hO.gd.ok.bd16;have hb:=hO.t.b;have hfl:=h.inv.free_len hO;have hlen:=hO.t.len;have hbl:S.t.blanks=(List.range S.t.b).countP λi:Nat=>!(S.t.at_ (i:Nat)).used:=by
  unfold Tl.blanks Tl.at_;rw[Inv.countP_range_get _ Sb.zero,hlen];simp
 have h3:=a2t (p:=λi:Nat=>((i:Int) !=S.op)&&A9 S.t S.T i) (q:=λi:Nat=>!(S.t.at_ (i:Nat)).used) (o:=S.op) S.t.b λi hi=>by
  have hhas:S.t.has (i:Int)=true:=Tl.has_iff.2 (by omega)
  by_cases e1:(i:Int)=S.op
  ·exact .inr (.inr e1)
  ·cases hu:(S.t.at_ (i:Int)).used with
   | false=>exact .inr (.inl rfl)
   | true=>
    left;have hc:¬S.T.count (i:Int)=0:=λhc=>by
     have:(i:Int)∈f7 (j5 S.t S.T) S.op S.t.b:=mem_pkSome.2 ⟨by omega,by omega,e1,by
      unfold j5;rw[h.inv.usable hO hhas,hc];unfold Tl.blank Tl.held;rw[hhas,hu,h.held _ hhas];rfl⟩
     rw[hsp]at this;cases this
    have hc2:S.T.count (i:Int)>0:=by
     have:=hO.T.cnt (i:Int);omega
    unfold A9 Tl.held;rw[hhas,h.held _ hhas,decide_eq_true hc2];simp[e1]
 rw[<- hbl,<- a1o]at h3;have hQ:S.N.blocks-5<=(f7 (A9 S.t S.T) S.op S.t.b).length:=by
  split at h3<;>omega
 obtain⟨x,hx⟩:∃x,x∈f7 (A9 S.t S.T) S.op S.t.b:=by
  cases hl:f7 (A9 S.t S.T) S.op S.t.b with
  | nil=>rw[hl]at hQ;simp at hQ;omega
  | cons y l=>exact⟨y,by simp⟩
 have hv:=(a1c S hx).1;obtain⟨v1,v2,v3,v4⟩:=mem_pkSome.1 hv;have hhas:S.t.has S.victim=true:=Tl.has_iff.2 ⟨v1,v2⟩;have hcn:=hO.T.cnt S.victim;have hpos:0<Tb.cntB S.T.at_ S.victim:=by
  unfold A9 at v4;simp only[Bool.and_eq_true,decide_eq_true_eq]at v4;omega
 have hsum:=b5G S.T.at_ (f7 (A9 S.t S.T) S.op S.t.b) (Inv.pkSome_nodup _ _ _);have hmin:=b0p (Tb.cntB S.T.at_ S.victim) (f7 (A9 S.t S.T) S.op S.t.b) (λb=>Tb.cntB S.T.at_ b) λb hb=>by
  have:=(a1c S hb).2;rw[hcn,hO.T.cnt b]at this;omega
 have hWl:S.T.at_.length=W.length:=by
  have:=congrArg List.length h.hd.keys;simpa using this
 have hcap:=h.cap;obtain⟨c,hc⟩:∃c,Tb.cntB S.T.at_ S.victim=c:=⟨_,rfl⟩;rw[hc]at hcn hpos hmin ⊢;have hle:(S.N.blocks-5)*c<=W.length:=by
  have:(S.N.blocks-5)*c<=(f7 (A9 S.t S.T) S.op S.t.b).length*c:=Nat.mul_le_mul_right _ hQ;omega
 have h2c:2*c<=S.N.pages*(S.N.dies-2):=by
  refine Classical.byContradiction λhlt=>?_;have h1:(S.N.blocks-5)*(S.N.pages*(S.N.dies-2)+1)<=(S.N.blocks-5)*(2*c):=Nat.mul_le_mul_left _ (by omega);have h2:(S.N.blocks-5)*(2*c)=2*((S.N.blocks-5)*c):=by rw[Nat.mul_comm 2 c,<- Nat.mul_assoc,Nat.mul_comm _ 2]
  rw[Nat.mul_add,Nat.mul_one]at h1;omega
 have hused:(S.t.at_ S.victim).used=true:=by
  obtain⟨y,hy,hyb⟩:=List.countP_pos_iff.1 (show 0<S.T.at_.countP λx=>x.2.block==S.victim by unfold Tb.cntB at hc;omega);have:=(h.inv.st _ _ (a1t hO.T hy)).used
  rwa [show y.2.block=S.victim from by simpa using hyb]at this
 refine⟨v1,hhas,v3,hused,hpos,h2c,?_⟩;rw[hcn];have hms:=(h.inv.msk hO hhas).pos hg.1;have hp:=hO.t.p;have h4:((S.N.pages*(S.N.dies-2):Nat):Int)=(S.N.pages:Int)*((S.N.dies:Int)-2):=by
  have:((S.N.dies-2:Nat):Int)=(S.N.dies:Int)-2:=by omega
  rw[<- this];exact Int.natCast_mul _ _
 have h5:(S.N.pages:Int)*((S.N.dies:Int)-2)<=(S.t.p:Int)*G.slots (S.t.mask S.victim):=by
  rw[hp];exact Int.mul_le_mul_of_nonneg_left hms.2.1 (by omega)
 omega
theorem emptied (h:Rmy fd W S) (hO:S.Ok (Dv.costR+k) m) (hsp:f7 (j5 S.t S.T) S.op S.t.b=[]) (hfr:¬(S.free:Int)>4) (hot:Hot2 fd S β) (hrw:(S.N.pages+1)/2+β<=S.rows) (hnx:S.next<=1099511627775-3000000) (f:Nat):
  ∃(V:Dv) (β':Nat),Dv.roomGo (f+1) S=Dv.roomGo f V/\Rmy fd W V/\V.Ok k m/\f7 (j5 V.t V.T) V.op V.t.b=[]/\Hot2 fd V β'/\β'<=β/\S.rows+S.N.pages+β'<=V.rows+(S.N.pages+1)/2+β/\V.next<=S.next+400/\V.N.dead=S.N.dead/\V.N.broken=S.N.broken/\S.N.Like V.N/\V.T.logical=S.T.logical/\(∀d:Int,L.has S.t.dead d=true->L.has V.t.dead d=true)/\Mvd fd S V:=by
 have hg:=hO.gd.ok.bd16;obtain⟨v1,v2,v3,v4,v5,v6,v7⟩:=h.victim (hO.less (Nat.le_refl _)) hsp hfr;obtain⟨v,hv⟩:∃v,S.victim=v:=⟨_,rfl⟩;rw[hv]at v1 v2 v3 v4 v5 v6 v7;have hcn:=hO.T.cnt v;obtain⟨c,hc⟩:∃c,Tb.cntB S.T.at_ v=c:=⟨_,rfl⟩;rw[hc]at hcn v5 v6;have hil:=ins_len hO.T v;rw[hc]at hil;have htake:(S.T.ins v).take (max (S.T.count v) 0).toNat=S.T.ins v:=by
  rw[hcn];exact List.take_of_length_le (by omega)
 have hPD:S.N.pages*(S.N.dies-2)<=8*4:=Nat.mul_le_mul hg.2.2.2 (by omega);have hlenρ:(S.T.ins v).length<=(S.N.dies-2)*((S.N.pages+1)/2):=by
  have h1:(S.N.dies-2)*S.N.pages<=(S.N.dies-2)*(2*((S.N.pages+1)/2)):=Nat.mul_le_mul_left _ (by omega);have h2:(S.N.dies-2)*(2*((S.N.pages+1)/2))=2*((S.N.dies-2)*((S.N.pages+1)/2)):=by rw[Nat.mul_left_comm]
  rw[Nat.mul_comm S.N.pages]at v6;omega
 have hlen16:(S.T.ins v).length<=16:=by omega
 have hnd:(S.T.ins v).Nodup:=by
  unfold Tb.ins;split
  ·exact List.nodup_nil
  ·unfold Tb.inK;exact List.pairwise_map.2 ((List.nodup_range.filter _).imp λhne e=>hne (by omega))
 have hnone:∀i,Tb.look W i=none->Tb.look S.T.at_ i=none:=λi hi=>h.hd.none hi;obtain⟨V,β',r1,r2,r3,r4,r5,r6,r7⟩:=h.inv.carry_go (S.T.ins v).length S (S.T.ins v) 0 W β ((S.N.pages+1)/2) (96+k) (hO.less (by
  have:Dv.cost*(S.T.ins v).length<=Dv.cost*65536:=Nat.mul_le_mul_left _ (by omega);unfold Dv.costR Dv.costC;omega)) (Nat.le_refl _) h.hd h.wok (λi hi=>by
   obtain⟨a,ha,_⟩:=b4l hi;cases hw:Tb.look W i with
   | none=>rw[hnone i hw]at ha;cases ha
   | some e=>rfl) hnd hot hlenρ hrw (by omega)
 have hcar:S.carry v (S.T.count v)=(V,((S.T.ins v).length:Int),(0:Int)):=by
  unfold Dv.carry;rw[htake];show Dv.carryGo (S.T.ins v).length S (S.T.ins v) 0=_;rw[r1];simp
 have hRV:Rmy fd W V:=⟨r2.inv,r3,h.wok,λb hb=>by rw[r2.has]at hb;rw[(r2.sb b hb).1];exact h.held b hb,λhd i j=>by rw[(r2.flags i j).2];exact h.ff (λi=>by rw[<- r2.dead];exact hd i) i j,by rw[r2.like.blocks,r2.like.pages,r2.like.dies];exact h.cap⟩;obtain⟨U,u1,u2,u3,u4,u5,u6,u7,u8,u9,u10,u11,u12,u13,u14,u15⟩:=hRV.clear (β:=β') (k:=k) r7
 --the emptied one is spent
 have hvs:v∈f7 (j5 V.t V.T) V.op V.t.b:=by
  have hVb:V.t.b=S.t.b:=by
   have h1:=r7.t.b;have h2:=hO.t.b;have h3:=r2.like.blocks;omega
  have hvh:V.t.has v=true:=by rw[r2.has];exact v2
  have hfresh:∀b r,FreshP S b r->b≠v:=λb r hf e=>by
   subst e;rcases hf with⟨e1,_⟩ | ⟨_,e2⟩
   ·exact v3 e1
   ·rw[v4]at e2;cases e2
  refine mem_pkSome.2 ⟨v1,by have:=(Tl.has_iff.1 v2).2;omega,?_,?_⟩
  ·exactλe=>hfresh V.op V.row (r2.back V.op V.row (.inl ⟨rfl,Int.le_refl _⟩)) e.symm
  ·unfold j5 Tl.blank Tl.held;have hcv:V.T.count v=0:=by
    rw[r7.T.cnt];have:Tb.cntB V.T.at_ v=0:=by
     unfold Tb.cntB;rw[List.countP_eq_zero];intro x hx hxb;have hlk:=a1t r7.T hx;have hxb:x.2.block=v:=by simpa using hxb
     by_cases hm:x.1∈S.T.ins v
     ·obtain⟨a,a1,a2,_⟩:=r2.pos _ hm;rw[hlk]at a1;injection a1 with a1;rw[<- a1]at a2;exact hfresh _ _ a2 hxb
     ·rw[r2.rest _ hm]at hlk;exact hm (b6l hO.T hlk hxb)
    rw[this];rfl
   rw[r2.inv.usable r7 hvh,hvh,(r2.sb v v2).2 v4,hRV.held v hvh,hcv];rfl
 have hlen1:1<=(f7 (j5 V.t V.T) V.op V.t.b).length:=List.length_pos_of_mem hvs;have hpg:V.N.pages=S.N.pages:=r2.like.pages;have hrowsU:V.rows+S.N.pages<=U.rows:=by
  rw[u10,hpg];have:S.N.pages*1<=S.N.pages*(f7 (j5 V.t V.T) V.op V.t.b).length:=Nat.mul_le_mul_left _ hlen1;omega
 have hnV:=r2.next;refine⟨U,β',?_,u2,u3,u4,u15 r4,r5,by omega,by rw[u9];omega,u11.trans r2.dead,u12.trans r2.broken,r2.like.trans u13,by rw[u6];exact r2.logical,λd hd=>u14 d (r2.td d hd), .same (.crd .nil r2) u6 u7 u8 (λb=>Inv.has_same r7.t u3.t u13 b) u11 u2.inv⟩;rw[Dv.roomGo,if_neg hfr,hv,if_neg (by omega)];dsimp only;rw[hcar];dsimp only;rw[if_neg (by decide),u1,if_neg (by simp)]
theorem rows_five (hO:S.Ok k m) (hI:Inv fd S) (hfr:¬(S.free:Int)>4):S.rows<=5*S.N.pages:=by
 have hfl:=hI.free_len hO;have hr:=hO.row;have h1:S.N.pages*S.t.blanks<=S.N.pages*4:=Nat.mul_le_mul_left _ (by omega);unfold Dv.rows;split<;>omega
theorem go:∀(f:Nat) (S:Dv) (β k:Nat),Rmy fd W S->S.Ok (Dv.costR*f+k) m->f7 (j5 S.t S.T) S.op S.t.b=[]->Hot2 fd S β->3*S.N.pages+β<=S.rows->5*S.N.pages+β+1<=S.rows+f*(S.N.pages/2)->S.next+400*(f:Int)<=1099511627775-3000000->
  ∃(V:Dv) (β':Nat),Dv.roomGo f S=(V,0)/\Rmy fd W V/\V.Ok k m/\(V.free:Int)>4/\f7 (j5 V.t V.T) V.op V.t.b=[]/\Hot2 fd V β'/\β'<=β/\V.next<=S.next+400*(f:Int)/\V.N.dead=S.N.dead/\V.N.broken=S.N.broken/\S.N.Like V.N/\V.T.logical=S.T.logical/\(∀d:Int,L.has S.t.dead d=true->L.has V.t.dead d=true)
 | f,S,β,k,h,hO,hsp,hot,hr3,hr5,hnx=>by
  by_cases hfr:(S.free:Int)>4
  ·refine⟨S,β,?_,h,hO.less (by omega),hfr,hsp,hot,Nat.le_refl _,by omega,rfl,rfl,Nand.Like.refl _,rfl,λ_ h=>h⟩;cases f with
   | zero=>rfl
   | succ f=>rw[Dv.roomGo,if_pos hfr]
  ·have h5:=rows_five hO h.inv hfr;have hg:=hO.gd.ok.bd16;cases f with
   | zero=>omega
   | succ f=>
    have hmul:(f+1)*(S.N.pages/2)=f*(S.N.pages/2)+S.N.pages/2:=Nat.succ_mul _ _;obtain⟨V,β1,w1,w2,w3,w4,w5,w6,w7,w8,w9,w10,w11,w12,w13,_⟩:=h.emptied (k:=Dv.costR*f+k) (by rw[Nat.mul_succ]at hO;exact hO.less (by omega)) hsp hfr hot (by omega) (by omega) f;have hpg:=w11.pages;obtain⟨U,β2,u1,u2,u3,u4,u5,u6,u7,u8,u9,u10,u11,u12,u13⟩:=go f V β1 k w2 w3 w4 w5 (by rw[hpg];omega) (by rw[hpg];omega) (by omega);exact⟨U,β2,by rw[w1,u1],u2,u3,u4,u5,u6,by omega,by omega,u9.trans w9,u10.trans w10,w11.trans u11,u12.trans w12,λd hd=>u13 d (w13 d hd)⟩
theorem room (h:Rmy fd W S) (hO:S.Ok (96+(Dv.costR*S.t.b+k)) m) (hot:Hot2 fd S β) (hr3:3*S.N.pages+β<=S.rows) (hβ:β<=1) (hnx:S.next<=1099511627775-4000000):
  ∃(V:Dv) (β':Nat),S.room=(V,0)/\Rmy fd W V/\V.Ok k m/\(V.free:Int)>4/\f7 (j5 V.t V.T) V.op V.t.b=[]/\Hot2 fd V β'/\β'<=β/\V.next<=S.next+6400/\V.N.dead=S.N.dead/\V.N.broken=S.N.broken/\S.N.Like V.N/\V.T.logical=S.T.logical/\(∀d:Int,L.has S.t.dead d=true->L.has V.t.dead d=true):=by
 have hg:=hO.gd.ok.bd16;have hb:=hO.t.b;obtain⟨U,u1,u2,u3,u4,u5,u6,u7,u8,u9,u10,u11,u12,u13,u14,u15⟩:=h.clear (β:=β) hO;have hpg:=u13.pages;have h8:8*(S.N.pages/2)<=S.t.b*(S.N.pages/2):=Nat.mul_le_mul_right _ (by omega);obtain⟨V,β',v1,v2,v3,v4,v5,v6,v7,v8,v9,v10,v11,v12,v13⟩:=go S.t.b U β k u2 u3 u4 (u15 hot) (by rw[hpg,u10];omega) (by rw[hpg,u10];omega) (by rw[u9];omega);refine⟨V,β',?_,v2,v3,v4,v5,v6,v7,by rw[u9]at v8;omega,v9.trans u11,v10.trans u12,u13.trans v11,by rw[v12,u6],λd hd=>v13 d (u14 d hd)⟩;unfold Dv.room;rw[u1];dsimp only;rw[if_neg (by decide),v1]
end Rmy
theorem b5c {T:Tb} (h:T.Ok):T.at_.length<=T.logical.toNat:=by
 have h1:=U5 (K:=T.at_.map (·.1)) (M:=(List.range T.logical.toNat).map λi:Nat=>(i:Int)) h.keys λx hx=>by
  obtain⟨y,hy,rfl⟩:=List.mem_map.1 hx;have:=h.rng y hy;exact List.mem_map.2 ⟨y.1.toNat,List.mem_range.2 (by omega),by omega⟩
 simpa using h1
theorem WOk.put {W:List (Int×En)} (h:WOk W) {e:En} (he:FitR e):WOk (Tb.put1 W e.lpn e):=λi x hx=>by
 rw[Tb.look_put1]at hx;split at hx
 ·rename_i e1;injection hx with hx;subst hx;exact⟨e1.symm,he⟩
 ·exact h i x hx
namespace Rmy
variable {fd : Int} {S : Dv} {k m β : Nat} {W : List (Int × En)}
theorem many (h:Rmy fd W S) (hO:S.Ok k m) (hfr:(S.free:Int)>4):5*S.N.pages<=S.rows:=by
 have:=h.inv.free_len hO;have h1:S.N.pages*5<=S.N.pages*S.t.blanks:=Nat.mul_le_mul_left _ (by omega);unfold Dv.rows;omega
end Rmy
theorem Dv.Ok.fault0 {S:Dv} {k m:Nat} (h:S.Ok k m) (kd x y z n xx:Int) (hk:kd≠1):({S with N:=(S.N.fault kd x y z n xx).2}:Dv).Ok k m:=
 ⟨h.gd.fault0 kd x y z n xx hk,h.t.like (Nand.like_fault _ _ _ _ _ _ _),h.T,h.sl,h.row,h.next⟩
namespace B18
def S0:Dv:=Dv.new 3 8 2 20
def S1:Dv:=(S0.pen [e18 1 1,e18 2 2,e18 3 3]).1
def S2:Dv:=(S1.pen [e18 3 3]).1
def S3:Dv:=(S2.carry 0 2).1
def S4:Dv:={S3 with N:=(S3.N.fault 4 2 0 0 0 0).2}
def S5:Dv:=(S4.step 2).1
def S6:Dv:=S5.room.1
def S7:Dv:=(S6.torn [e18 9 9]).1
theorem h1:(S0.pen [e18 1 1,e18 2 2,e18 3 3]).2=(2,0):=by kernel_rfl
theorem h2:(S1.pen [e18 3 3]).2=(1,0):=by kernel_rfl
theorem h3:(S2.carry 0 2).2=(2,0):=by kernel_rfl
theorem h4:Tb.look S3.T.at_ 1=some ⟨1,0,0,7,4,1⟩:=by kernel_rfl
theorem h5:S3.op=1:=by kernel_rfl
theorem h6:(S4.step 2).2=(1,0):=by kernel_rfl
theorem h7:S5.leftN=2:=by kernel_rfl
theorem h8:S5.N.broken=0:=by kernel_rfl
theorem h9:S5.room.2=0:=by kernel_rfl
theorem h10:(S6.torn [e18 9 9]).2=0:=by kernel_rfl
theorem h11:S7.clear.2=0:=by kernel_rfl
def U:Nat:=10000000000
theorem G0:S0.Ok (10*U) 0:=Dv.Ok.new 3 8 2 20 rfl _ (by decide)
theorem d3:∀s∈[e18 1 1,e18 2 2,e18 3 3],s.data.length=16:=by decide
theorem d1:∀s∈[e18 3 3],s.data.length=16:=by decide
theorem d9:∀s∈[e18 9 9],s.data.length=16:=by decide
theorem G1:S1.Ok (9*U) 0:=(Dv.pen_keep (G0.less (by decide:8*Dv.fuel+9*U<=_)) d3).1
theorem G2:S2.Ok (8*U) 0:=(Dv.pen_keep (G1.less (by decide:8*Dv.fuel+8*U<=_)) d1).1
theorem G3:S3.Ok (7*U) 0:=(Dv.carry_keep (G2.less (by decide:Dv.costC+7*U<=_)) 0 2).1
theorem G4:S4.Ok (7*U) 0:=Dv.Ok.fault0 G3 4 2 0 0 0 0 (by decide)
theorem G5:S5.Ok (6*U) 0:=(Dv.step_keep (G4.less (by decide:Dv.costS+6*U<=_)) 2).1
theorem G6:S6.Ok (5*U) 0:=(Dv.room_keep (G5.less (by decide:Dv.costM+5*U<=_))).1
theorem G7:S7.Ok (4*U) 0:=(Dv.tornGo_keep 1 S6 [e18 9 9] _ (G6.less (by decide:Dv.costT*1+4*U<=_)) d9).1
end B18
end Go.Proofs.YtgkpkpbnonmopaaGreat
namespace Go.Proofs.YtgkpkpbnonmopaaGreat
open Go Go.RowKit
open B18
theorem b1A:FP 158 [] [] (Ps (.bool true) []):=by
 refine FE [] Tryz.func158 λX F hX=>?_;refine J.qp (b1z) [] λ_=>?_;exact J.qx []
theorem b1x:FP 105 [] [] (Ps (.bool true) []):=by
 refine FE [] Tryz.func105 λX F hX=>?_;refine J.qc (b1w 3 8 2 rfl 20) [] λ_=>?_;rintro v As ⟨n,t,l,q,rfl,rfl⟩;refine⟨_,rfl,trivial,?_⟩;rw[show Dv.new 3 8 2 20=S0 from rfl];refine J.qF λ_=>?_;refine J.qp (V4 1 1) [] λ_=>?_;refine J.qp (V4 2 2) [] λ_=>?_;refine J.qp (V4 3 3) [] λ_=>?_;refine J.q λbx=>?_;refine J.ca hX (by kernel_rfl) (a0d q n t l S0 (9*U) 0 (G0.less (by decide)) (.pt (bx 0) 132 (d6 [e18 1 1,e18 2 2,e18 3 3])) (some ⟨bx 0,0,none⟩) 3 3 [e18 1 1,e18 2 2,e18 3 3] (a3M _ _ _ _ _ rfl) rfl (by decide) B18.d3) [1,2,3,4,5] 0 rfl rfl rfl rfl rfl rfl (λ_=>rfl) ?_;refine cpq ⟨_,rfl,trivial,?_⟩;rw[show(S0.pen [e18 1 1,e18 2 2,e18 3 3]).1=S1 from rfl,h1];refine J.qp (V4 3 3) [] λ_=>?_;refine J.q λby_=>?_;refine J.ca hX (by kernel_rfl) (a0d q n t l S1 (8*U) 0 (G1.less (by decide)) (.pt (by_ 0) 132 (d6 [e18 3 3])) (some ⟨by_ 0,0,none⟩) 1 1 [e18 3 3] (a3M _ _ _ _ _ rfl) rfl (by decide) B18.d1) [1,2,3,4,6] 0 rfl rfl rfl rfl rfl rfl (λ_=>rfl) ?_;refine cpq ⟨_,rfl,trivial,?_⟩;rw[show(S1.pen [e18 3 3]).1=S2 from rfl,h2];refine J.qp (a3A n t l q S2 (7*U) 0 (G2.less (by decide)) 0 2) [1,2,3,4] λ_=>?_;rw[show(S2.carry 0 2).1=S3 from rfl,h3];refine J.qp (a1R l S3.T 1) [4] λ_=>?_;rw[h4,Option.getD_some,Option.isSome_some];refine J.qp (W7 q n t l S3) [1] λ_=>?_;rw[h5];refine J.qp (a0A n S3.N G3.gd.ok 0 4 2 0 0 0 0) [2] λ_=>?_;rw[show(S3.N.fault 4 2 0 0 0 0).2=S4.N from rfl,show R5 q n t l S3=R5 q n t l S4 from rfl,show S3.t=S4.t from rfl,show S3.T=S4.T from rfl];refine J.qp (b0n n t l q S4 (6*U) 0 (G4.less (by decide)) (by decide) 2) [1,2,3,4] λ_=>?_;rw[show(S4.step 2).1=S5 from rfl,h6];refine J.qp (b1A) [] λ_=>?_;refine J.qp (b0o t l S5 (6*U) 0 G5) [3,4] λ_=>?_;rw[h7];refine J.qp (a1s n S5.N) [2] λ_=>?_;rw[h8];refine J.qp (a1i n t l q S5 (5*U) 0 (G5.less (by decide)) (by decide)) [1,2,3,4] λ_=>?_;rw[show S5.room.1=S6 from rfl,h9];refine J.qp (V4 9 9) [] λ_=>?_;refine J.q λ_=>?_;refine J.effG hX tk rfl rfl rfl (λ_=>rfl) (by(repeat' (first | exact Conj.nil | refine Conj.cons ?_ ?_ | omega | exact hq0 | (simpa using hq0) | (exactλh=>h) | exact rfl | (intro hq;have hq0:=hq;try simp only[Bool.and_eq_true,Bool.or_eq_true,decide_eq_true_eq,Bool.not_eq_true',decide_eq_false_iff_not]at hq) | (simp;done) | (simp;omega) | decide))) (λ_=>rfl) λbt=>⟨trivial,?_⟩;refine J.q λ_=>?_;refine J.ca hX (by kernel_rfl) (a6I n t l q S6 (4*U) 0 (.pt bt 132 (d6 [e18 9 9])) (some (bt,0)) 1 1 [e18 9 9] (a3M _ _ _ _ _ rfl) rfl (by decide) (by decide) (λh=>by cases h) B18.d9 (G6.less (by decide)) (by decide)) [1,2,3,4,8] 0 rfl rfl rfl rfl rfl rfl (λ_=>rfl) ?_;refine cpq ⟨_,rfl,trivial,?_⟩;rw[show(S6.torn [e18 9 9]).1=S7 from rfl,h10];refine J.qp (W7 q n t l S7) [1] λ_=>?_;refine J.q λ_=>?_;refine J.ca hX (by kernel_rfl) (a1j n t l S7.N S7.t S7.T (3*U) 0 (G7.gd.less (by decide) (Nat.le_refl _)) (by decide) G7.t S7.op) [2,3,4] 0 rfl rfl rfl rfl rfl rfl (λ_=>rfl) ?_;refine cpq ⟨_,rfl,trivial,?_⟩;rw[show(Dv.clearX S7.N S7.t S7.T S7.op).2.2=0 from h11];exact J.qx []
end Go.Proofs.YtgkpkpbnonmopaaGreat
namespace Go.Proofs.YtgkpkpbnonmopaaGreat
open Go Go.RowKit
namespace SqC
variable {D B P count i r k m : Nat} {S : Dv}
end SqC
namespace CutI
variable {C : En → Prop} {W : List (Int × En)} {S : Dv} {k m : Nat} {l : List En}
end CutI
namespace Hd
end Hd
theorem b1V (N:Nand) (x y:Int):N.Like (N.eraseN x y)/\(N.eraseN x y).dead=N.dead/\(N.eraseN x y).broken=N.broken/\(∀i j,j≠y.toNat->(N.eraseN x y).blk i j=N.blk i j)/\∀(d b r:Int) (c:NCell),(N.eraseN x y).pageAt d b r=some c->c.lost=true\/N.pageAt d b r=some c:=by
 have key:∀(M:Nand) (B':NBlock),M.blk=N.blk->(∀(r:Int) (c:NCell),B'.cells[r.toNat]? =some c->c.lost=true\/(N.blk x.toNat y.toNat).cells[r.toNat]? =some c)->(∀i j,j≠y.toNat->(M.setBlk x.toNat y.toNat B').blk i j=N.blk i j)/\∀(d b r:Int) (c:NCell),(M.setBlk x.toNat y.toNat B').pageAt d b r=some c->c.lost=true\/N.pageAt d b r=some c:=λM B' hM hB=>by
  have hb:∀i j,(M.setBlk x.toNat y.toNat B').blk i j=if i=x.toNat/\j=y.toNat then B' else N.blk i j:=λi j=>by rw[<- hM];rfl
  refine⟨λi j hj=>by rw[hb,if_neg (λe=>hj e.2)],λd b r c hc=>?_⟩;unfold Nand.pageAt at hc ⊢;rw[hb]at hc;split at hc
  ·rename_i e;rw[e.1,e.2];exact hB r c hc
  ·exact .inr hc
 unfold Nand.eraseN;dsimp only;split
 ·exact⟨Nand.Like.refl _,rfl,rfl,λ_ _ _=>rfl,λ_ _ _ _ h=> .inr h⟩
 split
 ·have:=key N.cutN {N.blk x.toNat y.toNat with cells:=((N.blk x.toNat y.toNat).cells++List.replicate (N.pages-(N.blk x.toNat y.toNat).cells.length) Nand.zcell).map λc=>{c with lost:=true}} rfl (λr c hc=>by
   left;dsimp only at hc;rw[List.getElem?_map]at hc;obtain⟨c0,_,rfl⟩:=Option.map_eq_some_iff.1 hc;rfl)
  exact⟨⟨rfl,rfl,rfl⟩,rfl,rfl,this⟩
 split
 ·have:=key N.cutN {N.blk x.toNat y.toNat with met:=true} rfl (λr c hc=> .inr hc);exact⟨⟨rfl,rfl,rfl⟩,rfl,rfl,this⟩
 ·have:=key N.cutN {N.blk x.toNat y.toNat with cells:=[],worn:=(N.blk x.toNat y.toNat).worn+1} rfl (λr c hc=>by simp at hc);exact⟨⟨rfl,rfl,rfl⟩,rfl,rfl,this⟩
structure ErsP (N N':Nand) (l:List Int):Prop where
 like:N.Like N'
 dead:N'.dead=N.dead
 broken:N'.broken=N.broken
 rest:∀i j,(∀y∈l,j≠y.toNat)->N'.blk i j=N.blk i j
 less:∀(d b r:Int) (c:NCell),N'.pageAt d b r=some c->c.lost=true\/N.pageAt d b r=some c
theorem ErsP.refl (N:Nand) (l:List Int):ErsP N N l:=⟨Nand.Like.refl _,rfl,rfl,λ_ _ _=>rfl,λ_ _ _ _ h=> .inr h⟩
theorem ErsP.trans {N N' N'':Nand} {l:List Int} (h:ErsP N N' l) (h2:ErsP N' N'' l):ErsP N N'' l:=
 ⟨h.like.trans h2.like,h2.dead.trans h.dead,h2.broken.trans h.broken,λi j hj=>(h2.rest i j hj).trans (h.rest i j hj),λd b r c hc=>by
  rcases h2.less d b r c hc with e | e
  ·exact .inl e
  ·exact h.less d b r c e⟩
theorem a4x (N:Nand) (t:Tl) (b mk:Int):∀(q:List Nat) (x:Nand×Tl×Int),ErsP x.1 (q.foldl (Dv.eraseD b mk) x).1 [b]
 | [],x=>ErsP.refl _ _
 | d::q,x=>by
  rw[List.foldl_cons];refine ErsP.trans (N':=(Dv.eraseD b mk x d).1) ?_ (a4x N t b mk q _);unfold Dv.eraseD;split
  ·exact ErsP.refl _ _
  split
  ·exact ErsP.refl _ _
  ·obtain⟨e1,e2,e3,e4,e5⟩:=b1V x.1 d b;exact⟨e1,e2,e3,λi j hj=>e4 i j (hj b (by simp)),e5⟩
theorem a2O:∀(l:List Int) (N:Nand) (t:Tl),ErsP N (Dv.clearGo l N t).1 l
 | [],N,t=>ErsP.refl _ _
 | b::l,N,t=>by
  have h1:ErsP N (Dv.erase N t b).1 (b::l):=by
   have h2:ErsP N (Dv.eraseB N t b).1 [b]:=a4x N t b (t.mask b) _ (N,t,0);have h3:ErsP N (Dv.eraseB N t b).1 (b::l):=⟨h2.like,h2.dead,h2.broken,λi j hj=>h2.rest i j λy hy=>hj y (by simp at hy;simp[hy]),h2.less⟩;unfold Dv.erase;dsimp only;split
   ·exact h3
   ·exact h3
  rw[Dv.clearGo];split
  ·exact h1
  ·have ih:=a2O l (Dv.erase N t b).1 (Dv.erase N t b).2.1;exact h1.trans ⟨ih.like,ih.dead,ih.broken,λi j hj=>ih.rest i j λy hy=>hj y (by simp[hy]),ih.less⟩
theorem mem_masks {N:Nand} {b r m:Int}:m∈M.masks N b r↔∃i:Nat,i<N.dies/\(M.look N (i:Nat) b r).2=1/\(M.look N (i:Nat) b r).1.mask=m:=by
 unfold M.masks;rw[(a4z _ (a8l _)).2,a9t,List.mem_filterMap];unfold M.rowN;constructor
 ·rintro⟨z,hz,hm⟩;obtain⟨i,hi,rfl⟩:=List.mem_map.1 hz;unfold M.maskOf at hm;split at hm
  ·rename_i h1;injection hm with hm;exact⟨i,List.mem_range.1 hi,h1,hm⟩
  ·cases hm
 ·rintro⟨i,hi,h1,h2⟩;refine⟨_,List.mem_map_of_mem (List.mem_range.2 hi),?_⟩;unfold M.maskOf;rw[if_pos h1,h2]
theorem one_iff {N:Nand} {b r m d:Int}:(R.one N b r m d).2=true↔(M.look N d b r).2=1/\(M.look N d b r).1.mask=m:=by
 unfold R.one;simp
theorem b0r {N:Nand} {b r m:Int} {k:Nat} (hk:(k:Int)<G.slots m):(R.look N b r m).good.getD k false=(R.one N b r m (G.die m b r (k:Nat))).2/\(R.look N b r m).slots.getD k Sh.zero=(R.one N b r m (G.die m b r (k:Nat))).1:=by
 have hk2:k<(G.slots m).toNat:=by omega
 unfold R.look R.ones;simp only[List.getD_eq_getElem?_getD,List.getElem?_map,List.getElem?_range hk2,Option.map_some,Option.getD_some,and_self]
structure Ev (C:En->Prop) (N:Nand) (b r m:Int) (l:List En):Prop where
 is:RowIs N b r m l
 inn:RowIn N b r m l
 kind:∀e∈l,e.role=3\/C e
structure Old (d:Nat) (E:En->Prop) (N:Nand) (b r:Int) (l:List En):Prop where
 is:RowIs N b r (L.all N.dies) l
 inn:∀x∈R.job b r (L.all N.dies) l,x.1=(d:Int)->∀c,N.pageAt (d:Int) b r=some c->a4O x.2 c
 kind:∀e∈l,e.role=3\/E e
inductive DscG (fd:Int) (C E:En->Prop) (N:Nand) (b r:Int):Prop
 | none:(∀(d:Int) (c:NCell),N.pageAt d b r=some c->c.lost=true)->DscG fd C E N b r
 | all (l:List En):Ev C N b r (L.all N.dies) l->DscG fd C E N b r
 | but (d:Nat) (l:List En):fd=(d:Int)->d<N.dies->Ev C N b r (L.without (L.all N.dies) (d:Nat)) l->((∀c,N.pageAt (d:Int) b r=some c->c.lost=true)\/∃l',Old d E N b r l')->DscG fd C E N b r
theorem Ev.look {C:En->Prop} {N:Nand} {b r m:Int} {l:List En} (h:Ev C N b r m l) {x:Int×Sh} (hx:x∈R.job b r m l) (h1:(M.look N x.1 b r).2=1):M.look N x.1 b r=(x.2,1):=by
 cases hp:N.pageAt x.1 b r with
 | none=>exact absurd h1 (X0 hp)
 | some c=>exact a0D (h.is.sh x hx).1 hp (h.inn x hx c hp) h1
theorem Ev.found {C:En->Prop} {N:Nand} {b r m:Int} {l:List En} (h:Ev C N b r m l) (hoff:N.off=false) {f:Fnd} (hf:f∈R.allM N b r m):C f.en/\f.mask=m/\∃k:Nat,k<l.length/\f.slot=k/\f.en=l.getD k En.zero/\R.read N b r f.slot m=(f.en,0)/\f.whole=gOf N b r m l l.length:=by
 have hp:=h.inn.part h.is;rw[hp.allM h.is]at hf;unfold b5L at hf;obtain⟨k,hk,hx⟩:=List.mem_filterMap.1 hf;have hk:=List.mem_range.1 hk;split at hx
 ·rename_i hok;rw[Bool.and_eq_true]at hok;injection hx with hx;subst hx;have hrd:=hp.read h.is hoff hk;rw[hok.1,if_pos rfl]at hrd;refine⟨?_,rfl,k,hk,rfl,rfl,hrd,rfl⟩;rcases h.kind _ (D2 hk)with e | e
  ·have:=hok.2;rw[e]at this;cases this
  ·exact e
 ·cases hx
theorem Old.found {d:Nat} {E:En->Prop} {N:Nand} {b r:Int} {l:List En} (h:Old d E N b r l) (h6:3<=N.dies/\N.dies<=6) (hno:∀i:Nat,i<N.dies->i≠d->(M.look N (i:Nat) b r).2=1->(M.look N (i:Nat) b r).1.mask≠L.all N.dies) {f:Fnd} (hf:f∈R.allM N b r (L.all N.dies)):E f.en:=by
 have hsl:=(a5k N.dies (by omega) h6.1).1;have hlen:=h.is.len;have hone:∀x∈R.job b r (L.all N.dies) l,(R.one N b r (L.all N.dies) x.1).2=true->x.1=(d:Int)/\(R.one N b r (L.all N.dies) x.1).1=x.2:=λx hx h1=>by
  obtain⟨g1,g2⟩:=one_iff.1 h1;obtain⟨n1,n2,_⟩:=h.is.inn x hx;have hto:((x.1.toNat:Nat):Int)=x.1:=Int.toNat_of_nonneg n1;have hxd:x.1=(d:Int):=Classical.byContradiction λhne=>hno x.1.toNat (by omega) (by omega) (by rw[hto];exact g1) (by rw[hto];exact g2);refine⟨hxd,?_⟩;cases hp:N.pageAt x.1 b r with
  | none=>exact absurd g1 (X0 hp)
  | some c=>
   have:=a0D (h.is.sh x hx).1 hp (h.inn x hx hxd c (by rw[<- hxd];exact hp)) g1;unfold R.one;rw[this]
 unfold R.allM at hf;obtain⟨k,hk,hx⟩:=List.mem_filterMap.1 hf;have hk:=List.mem_range.1 hk;rw[(D1 N b r _).1]at hk;unfold R.fnd at hx;split at hx
 ·rename_i hok;rw[Bool.and_eq_true]at hok;injection hx with hx;subst hx;have hkl:k<l.length:=by omega
  have hj:=List.mem_of_getElem? (a2e b r (L.all N.dies) l k hkl);obtain⟨a1,a2⟩:=b0r (N:=N) (b:=b) (r:=r) (m:=L.all N.dies) (k:=k) (by omega);cases hg:(R.look N b r (L.all N.dies)).good.getD k false with
  | true=>
   rw[hg]at a1;obtain⟨_,e2⟩:=hone _ hj a1.symm;have he:R.enAt (R.look N b r (L.all N.dies)) k=l.getD k En.zero:=by
    unfold R.enAt;rw[hg,if_pos rfl,a2,e2];rfl
   show E (R.enAt (R.look N b r (L.all N.dies)) k);rcases h.kind _ (D2 hkl)with e | e
   ·have:=hok.2;rw[he,e]at this;cases this
   ·rw[he];exact e
  | false=>
   exfalso
   have hm:R.mendB (R.look N b r (L.all N.dies)) k=true:=by
    have:=hok.1;unfold R.okAt at this;rw[hg,Bool.false_or]at this;exact this
   unfold R.mendB at hm;simp only[Bool.and_eq_true]at hm;have hrest:=hm.1.1;have hwh:(R.one N b r (L.all N.dies) (G.parity (L.all N.dies) b r)).2=true:=hm.1.2;obtain⟨j,hjk,hjl⟩:∃j,j≠k/\j<l.length:=⟨if k=0 then 1 else 0,by split<;>omega,by split<;>omega⟩;unfold R.rest at hrest;rw[List.all_eq_true]at hrest;have h1:=hrest j (List.mem_range.2 (by rw[(D1 N b r _).1];omega));have h1:(R.look N b r (L.all N.dies)).good.getD j false=true:=by
    rw[Bool.or_eq_true]at h1;rcases h1 with e | e
    ·exact absurd (eq_of_beq e) hjk
    ·exact e
   rw[(b0r (by omega)).1]at h1;have d1:=(hone _ (List.mem_of_getElem? (a2e b r (L.all N.dies) l j hjl)) h1).1;have d2:=(hone _ (List.mem_of_getElem? (M4 b r (L.all N.dies) l)) hwh).1;have hnd:=h.is.nodup;have e3:((R.job b r (L.all N.dies) l).map (·.1))[j]? =((R.job b r (L.all N.dies) l).map (·.1))[l.length]?:=by
    rw[List.getElem?_map,List.getElem?_map,a2e b r (L.all N.dies) l j hjl,M4];exact congrArg some (d1.trans d2.symm)
   have:=(List.getElem?_inj (by rw[List.length_map];simp[R.job];omega) hnd).1 e3;omega
 ·cases hx
namespace DscG
variable {fd : Int} {C C' E E' : En → Prop} {N N' : Nand} {b r : Int}
theorem mono (h:DscG fd C E N b r) (hC:∀e,C e->C' e) (hE:∀e,E e->E' e):DscG fd C' E' N b r:=by
 cases h with
 | none h=>exact .none h
 | all l h=>exact .all l ⟨h.is,h.inn,λe he=>(h.kind e he).imp id (hC e)⟩
 | but d l e hd h o=>exact .but d l e hd ⟨h.is,h.inn,λe he=>(h.kind e he).imp id (hC e)⟩ (o.imp id λ⟨l',o⟩=>⟨l',o.is,o.inn,λe he=>(o.kind e he).imp id (hE e)⟩)
theorem less (h:DscG fd C E N b r) (hl:N.Like N') (hp:∀(d:Int) (c:NCell),N'.pageAt d b r=some c->c.lost=true\/∃c0,N.pageAt d b r=some c0/\(∀s,a4O s c0->a4O s c)/\(c0.lost=true->c.lost=true)):DscG fd C E N' b r:=by
 have hev:∀m l,Ev C N b r m l->Ev C N' b r m l:=λm l h=>⟨h.is.like hl,λx hx c hc=>by
  rcases hp _ c hc with e | ⟨c0,h1,h2,_⟩
  ·exact .inl e
  ·exact h2 _ (h.inn x hx c0 h1),h.kind⟩
 cases h with
 | none h=>
  refine .none λd c hc=>?_;rcases hp d c hc with e | ⟨c0,h1,_,h3⟩
  ·exact e
  ·exact h3 (h d c0 h1)
 | all l h=>exact .all l (by rw[hl.dies];exact hev _ _ h)
 | but d l e hd h o=>
  refine .but d l e (by rw[hl.dies];exact hd) (by rw[hl.dies];exact hev _ _ h) ?_;rcases o with o | ⟨l',o⟩
  ·left;intro c hc;rcases hp _ c hc with e | ⟨c0,h1,_,h3⟩
   ·exact e
   ·exact h3 (o c0 h1)
  ·right;refine⟨l',by rw[hl.dies];exact o.is.like hl,λx hx hxd c hc=>?_,o.kind⟩;rw[hl.dies]at hx;rcases hp _ c hc with e | ⟨c0,h1,h2,_⟩
   ·exact .inl e
   ·exact h2 _ (o.inn x hx hxd c0 h1)
theorem gone (h:DscG fd C E N b r) (hl:N.Like N') (hp:∀(d:Int) (c:NCell),N'.pageAt d b r=some c->c.lost=true\/N.pageAt d b r=some c):DscG fd C E N' b r:=
 h.less hl λd c hc=>(hp d c hc).imp id λh=>⟨c,h,λ_ h=>h,λh=>h⟩
theorem fnd (h:DscG fd C E N b r) (hoff:N.off=false) (h6:3<=N.dies/\N.dies<=6) {f:Fnd} (hf:f∈R.all N b r):
  E f.en\/C f.en/\(f.mask=L.all N.dies\/∃d:Nat,fd=(d:Int)/\d<N.dies/\f.mask=L.without (L.all N.dies) (d:Nat))/\∃l,Ev C N b r f.mask l/\∃k:Nat,k<l.length/\f.slot=k/\f.en=l.getD k En.zero/\R.read N b r f.slot f.mask=(f.en,0)/\f.whole=gOf N b r f.mask l l.length:=by
 have hall:=L.all_has N.dies (by omega);unfold R.all at hf;obtain⟨m,hm,hf⟩:=List.mem_flatMap.1 hf;obtain⟨i,hi,g1,g2⟩:=mem_masks.1 hm;have hfin:∀m l,Ev C N b r m l->f∈R.allM N b r m->C f.en/\f.mask=m/\∃l,Ev C N b r f.mask l/\∃k:Nat,k<l.length/\f.slot=k/\f.en=l.getD k En.zero/\R.read N b r f.slot f.mask=(f.en,0)/\f.whole=gOf N b r f.mask l l.length:=λm l h hf=>by
  obtain⟨a1,a2,a3⟩:=h.found hoff hf;subst a2;exact⟨a1,rfl,l,h,a3⟩
 have hpg:∃c,N.pageAt (i:Int) b r=some c/\c.lost=false:=by
  cases hp:N.pageAt (i:Int) b r with
  | none=>exact absurd g1 (X0 hp)
  | some c=>
   refine⟨c,rfl,?_⟩;cases hl:c.lost with
   | false=>rfl
   | true=>
    exfalso
    have:(M.look N (i:Nat) b r).2≠1:=b1s (by
     unfold Nand.readE;split
     ·assumption
     ·rw[hp];dsimp only;rw[hl];exact(by decide:(6:Int)≠0))
    exact this g1
 obtain⟨c,hc,hcl⟩:=hpg;cases h with
 | none h=>rw[h _ c hc]at hcl;cases hcl
 | all l h=>
  right;obtain⟨x,hx,hxi⟩:=h.is.on (d:=i) (by rw[hall,decide_eq_true (by omega),decide_eq_true (by omega)];rfl);have h1:=h.look hx (by rw[hxi];exact g1);rw[hxi]at h1;rw[h1]at g2;have:m=L.all N.dies:=g2.symm.trans (h.is.sh x hx).2;subst this;obtain⟨a1,a2,a3⟩:=hfin _ l h hf;exact⟨a1, .inl a2,a3⟩
 | but d l e hd h o=>
  have hwo:=L.without_has (L.set_all N.dies (by omega)) (d:=(d:Int)) (by omega);have hmain:∀j:Nat,j<N.dies->j≠d->(M.look N (j:Nat) b r).2=1->(M.look N (j:Nat) b r).1.mask=L.without (L.all N.dies) (d:Nat):=λj hj hjd k1=>by
   obtain⟨x,hx,hxi⟩:=h.is.on (d:=j) (by rw[hwo,hall,decide_eq_true (by omega),decide_eq_true (by omega),decide_eq_false (by omega)];rfl);have h1:=h.look hx (by rw[hxi];exact k1);rw[hxi]at h1;rw[h1];exact(h.is.sh x hx).2
  by_cases hid:i=d
  ·subst hid;rcases o with o | ⟨l',o⟩
   ·rw[o c hc]at hcl;cases hcl
   ·obtain⟨x,hx,hxi⟩:=o.is.on (d:=i) (by rw[hall,decide_eq_true (by omega),decide_eq_true (by omega)];rfl);have h1:=a0D (o.is.sh x hx).1 (by rw[hxi];exact hc) (o.inn x hx hxi c hc) (by rw[hxi];exact g1);rw[hxi]at h1;rw[h1]at g2;have:m=L.all N.dies:=g2.symm.trans (o.is.sh x hx).2;subst this;left;refine o.found h6 (λj hj hjd k1 k2=>?_) hf;have:=hmain j hj hjd k1;rw[k2]at this;have h2:L.has (L.all N.dies) (i:Int)=L.has (L.without (L.all N.dies) (i:Nat)) (i:Int):=congrArg (λz=>L.has z (i:Int)) this;rw[hwo,hall,decide_eq_true (by omega),decide_eq_true (by omega)]at h2;simp at h2
  ·right;have:m=L.without (L.all N.dies) (d:Nat):=g2.symm.trans (hmain i hi hid g1);subst this;obtain⟨a1,a2,a3⟩:=hfin _ l h hf;exact⟨a1, .inr ⟨d,e,hd,a2⟩,a3⟩
end DscG
theorem Full.found2 {fd:Int} {N:Nand} {b r m:Int} {l:List En} (h:Full fd N b r m l) (hoff:N.off=false) (hdead:∀i:Nat,(i:Int)≠fd->N.dead.getD i false=false) (hm:∃i:Nat,(i:Int)≠fd/\L.has m (i:Nat)=true) {j:Nat} (hj:j<l.length) (hr:(l.getD j En.zero).role≠3):∃f∈R.all N b r,f.en=l.getD j En.zero/\f.mask=m/\f.slot=j:=by
 obtain⟨i,hi,hmi⟩:=hm;obtain⟨x,hx,hxi⟩:=h.is.on hmi;obtain⟨n1,n2,_⟩:=h.is.inn x hx;obtain⟨t,ht⟩:=h.good x hx (by rw[hxi];exact hi);have hrf:N.refuses x.1 b r=0:=by
  unfold Nand.refuses;rw[hoff,if_neg (by decide),Nand.geoIn_of ⟨n1,n2⟩ h.is.blk h.is.row,if_neg (by decide),hdead _ (by omega)];rfl
 have hlk:=a1u (h.is.sh x hx).1 hrf ht;have hmem:m∈M.masks N b r:=mem_masks.2 ⟨i,by omega,by rw[<- hxi,hlk],by rw[<- hxi,hlk];exact(h.is.sh x hx).2⟩;refine⟨⟨l.getD j En.zero,b,r,j,m,gOf N b r m l l.length,!(gOf N b r m l j)⟩,?_,rfl,rfl,rfl⟩;unfold R.all;refine List.mem_flatMap.2 ⟨m,hmem,?_⟩;rw[(h.inn.part h.is).allM h.is];unfold b5L;refine List.mem_filterMap.2 ⟨j,List.mem_range.2 hj,?_⟩;rw[if_pos];rw[h.okAll hoff hdead hj,Bool.true_and];exact bne_iff_ne.2 hr
theorem Full.mask_eq {fd:Int} {C:En->Prop} {N:Nand} {b r m m':Int} {l l':List En} (h:Full fd N b r m l) (hoff:N.off=false) (hdead:∀i:Nat,(i:Int)≠fd->N.dead.getD i false=false) {i:Nat} (hi:(i:Int)≠fd) (hm:L.has m (i:Nat)=true) (hm':L.has m' (i:Nat)=true) (h2:Ev C N b r m' l'):m'=m:=by
 obtain⟨x,hx,hxi⟩:=h.is.on hm;obtain⟨n1,n2,_⟩:=h.is.inn x hx;obtain⟨t,ht⟩:=h.good x hx (by rw[hxi];exact hi);have hrf:N.refuses x.1 b r=0:=by
  unfold Nand.refuses;rw[hoff,if_neg (by decide),Nand.geoIn_of ⟨n1,n2⟩ h.is.blk h.is.row,if_neg (by decide),hdead _ (by omega)];rfl
 have hlk:=a1u (h.is.sh x hx).1 hrf ht;obtain⟨y,hy,hyi⟩:=h2.is.on hm';have hyx:y.1=x.1:=by rw[hxi,hyi]
 have hl2:=h2.look hy (by rw[hyx,hlk]);rw[hyx,hlk]at hl2;injection hl2 with hl2 _;rw[<- (h2.is.sh y hy).2,<- (h.is.sh x hx).2,hl2]
def CS (W:List (Int×En)) (T:Tb) (b r:Int) (e:En):Prop:=∃w a,Tb.look W e.lpn=some w/\Tb.look T.at_ e.lpn=some a/\(e.seq<a.seq\/e.seq=a.seq/\a.block=b/\a.row=r/\e.role=w.role/\e.data=w.data)
def CE (T:Tb) (e:En):Prop:=∃a,Tb.look T.at_ e.lpn=some a/\e.seq<a.seq
structure GI (fd:Int) (W:List (Int×En)) (S:Dv):Prop where
 inv:Inv fd S
 hd:Hd S W
 wok:WOk W
 msk:∀i a,Tb.look S.T.at_ i=some a->Msk S.N.dies fd a.mask
 dsc:∀b r:Nat,b<S.N.blocks->r<S.N.pages->DscG fd (CS W S.T b r) (CE S.T) S.N b r
 ff:(∀i:Nat,S.N.dead.getD i false=false)->∀i j:Nat,(S.N.blk i j).fails=false
theorem a7w {W:List (Int×En)} {l:List En} (h:WOk W) (hf:∀e∈l,FitR e):∀n,n<=l.length->WOk (M8 W l n)
 | 0,_=>h
 | n+1,hn=>by
  rw[P5];exact(a7w h hf n (by omega)).put (hf _ (D2 (by omega)))
theorem a5R {l:List En} (hnd:(l.map (·.lpn)).Nodup) {n:Nat} (hn:n<=l.length):∀a b,a<b->b<n->(l.getD a En.zero).lpn≠(l.getD b En.zero).lpn:=λa b hab hb e=>by
 have g1:a<l.length:=by omega
 have g2:b<l.length:=by omega
 have h3:(l.map (·.lpn))[a]? =(l.map (·.lpn))[b]?:=by
  rw[List.getElem?_map,List.getElem?_map,List.getElem?_eq_getElem g1,List.getElem?_eq_getElem g2];rw[List.getD_eq_getElem?_getD,List.getD_eq_getElem?_getD,List.getElem?_eq_getElem g1,List.getElem?_eq_getElem g2]at e;exact congrArg some e
 have:=(List.getElem?_inj (by rw[List.length_map];exact g1) hnd).1 h3;omega
namespace GI
variable {fd : Int} {W : List (Int × En)} {S Q : Dv} {k m : Nat} {l : List En}
theorem at1 (h:GI fd W S) (hO:S.Ok k m) (h0:¬(S.left=false/\S.pick<0)):GI fd W S.at1:=by
 have hat:=Dv.at1_like S;have hw:Went fd S S.at1 0:=by
  unfold Dv.at1;cases hl:S.left with
  | true=>rw[if_pos rfl];exact Went.refl h.inv
  | false=>rw[if_neg Bool.false_ne_true];exact(h.inv.opens hO hl λe=>h0 ⟨hl,e⟩).1
 refine⟨hw.inv,h.hd.went h.inv hw,h.wok,λi a ha=>?_,λb r hb hr=>?_,by rw[hat.1];exact h.ff⟩
 ·rw[hat.2.1]at ha;rw[hat.1];exact h.msk i a ha
 ·rw[hat.1]at hb hr ⊢;rw[hat.2.1];exact h.dsc b r hb hr
theorem wrote (h:GI fd W Q) (hO:Q.Ok k m) (hl:Last fd Q l) (hf:∀e∈l,FitR e) (hnd:(l.map (·.lpn)).Nodup) (hlg:∀e∈l,e.lpn<Q.T.logical):GI fd (M8 W l (Q.fit l)) (t7 Q l):=by
 have hg:=hO.gd.ok.bd16;obtain⟨l1,l2⟩:=hl.look h.inv hO hf hlg hnd;have hH:=h.hd.wrote h.inv hO hl hf hlg hnd;have hlk:Q.N.Like (t7 Q l).N:=hl.turn.like;have hfit:=Dv.fit_le Q l;have hfd:Q.fit l=min l.length (G.slots Q.mask).toNat:=rfl;obtain⟨n,hn⟩:∃n,Q.fit l=n:=⟨_,rfl⟩;rw[hn]at l1 l2 hH hfit hfd ⊢;obtain⟨w1,w2⟩:=K0 (W:=W) (l:=l) n (a5R hnd hfit.2.1);have hR:=h.inv.rowIs hO hl.left hf hl.bd;have ho:=h.inv.opn hl.left;have hrdy:RdyW Q.N Q.op Q.row Q.mask:=⟨h.inv.lit,λd hd ha=>(ho.cells d hd).2 ha⟩;have hq:=hrdy.rdy hR;have w3:WroteR Q.N (t7 Q l).N Q.op Q.row (R.job Q.op Q.row Q.mask (Q.es l)):=(a6i hrdy hR).2.2;have hF:Full fd (t7 Q l).N Q.op Q.row Q.mask (Q.es l):=hl.turn.full;have hsq:∀i a,Tb.look Q.T.at_ i=some a->a.seq<Q.next:=λi a ha=>(h.inv.st i a ha).seq.2;have hmono:∀b r e,CS W Q.T b r e->CS (M8 W l n) (t7 Q l).T b r e:=λb r e ⟨w,a,h1,h2,h3⟩=>by
  by_cases hex:∃j,j<n/\(l.getD j En.zero).lpn=e.lpn
  ·obtain⟨j,hj,hje⟩:=hex;have x1:=l1 j hj;have x2:=w1 j hj;have ha:=hsq _ _ h2;rw[hje]at x1 x2;refine⟨_,_,x2,x1, .inl ?_⟩;show e.seq<Q.next+(j:Int);omega
  ·have hno:∀j,j<n->(l.getD j En.zero).lpn≠e.lpn:=λj hj hh=>hex ⟨j,hj,hh⟩;exact⟨w,a,by rw[w2 _ hno];exact h1,by rw[l2 _ hno];exact h2,h3⟩
 have hmonoE:∀e,CE Q.T e->CE (t7 Q l).T e:=λe ⟨a,h2,h3⟩=>by
  by_cases hex:∃j,j<n/\(l.getD j En.zero).lpn=e.lpn
  ·obtain⟨j,hj,hje⟩:=hex;have x1:=l1 j hj;have ha:=hsq _ _ h2;rw[hje]at x1;refine⟨_,x1,?_⟩;show e.seq<Q.next+(j:Int);omega
  ·have hno:∀j,j<n->(l.getD j En.zero).lpn≠e.lpn:=λj hj hh=>hex ⟨j,hj,hh⟩;exact⟨a,by rw[l2 _ hno];exact h2,h3⟩
 have hold:∀e,CS W Q.T Q.op Q.row e->CE (t7 Q l).T e:=λe ⟨w,a,_,h2,h3⟩=>by
  refine hmonoE e ⟨a,h2,?_⟩;rcases h3 with h3 | ⟨_,h4,h5,_⟩
  ·exact h3
  ·have:=(h.inv.st _ _ h2).below h4;omega
 refine⟨hl.inv h.inv hO,hH,a7w h.wok hf n hfit.2.1,λi a ha=>?_,λb r hb hr=>?_,λhd i j=>?_⟩
 rotate_right
 ·have hd:∀i:Nat,(Q.wrote l).N.dead.getD i false=false:=hd;rw[hl.turn.dead]at hd;show((Q.wrote l).N.blk i j).fails=false;rw[(hl.turn.flags i j).2.1];exact h.ff hd i j
 ·by_cases hex:∃j,j<n/\(l.getD j En.zero).lpn=i
  ·obtain⟨j,hj,rfl⟩:=hex;rw[l1 j hj]at ha;injection ha with ha;rw[<- ha,hlk.dies];exact ho.mask
  ·rw[l2 i λj hj e=>hex ⟨j,hj,e⟩]at ha;rw[hlk.dies];exact h.msk i a ha
 ·by_cases e:(b:Int)=Q.op/\(r:Int)=Q.row
  ·have hev:Ev (CS (M8 W l n) (t7 Q l).T Q.op Q.row) (t7 Q l).N Q.op Q.row Q.mask (Q.es l):=⟨hF.is,hF.inn,λx hx=>by
    rcases b0l hx with⟨i,hi,hin,rfl⟩ | rfl
    ·right;have hin2:i<n:=by rw[hfd];omega
     exact⟨_,_,w1 i hin2,l1 i hin2, .inr ⟨rfl,rfl,rfl,rfl,rfl⟩⟩
    ·exact .inl rfl⟩
   rw[e.1,e.2];rcases ho.mask.eq hg.1 with⟨hm,_⟩ | ⟨f0,f1,fno,hm⟩
   ·refine .all (Q.es l) ?_;rw[hlk.dies,<- hm];exact hev
   ·obtain⟨d,rfl⟩:=Int.eq_ofNat_of_zero_le f0;have hd:d<Q.N.dies:=by omega
    have hpg:(t7 Q l).N.pageAt (d:Int) Q.op Q.row=Q.N.pageAt (d:Int) Q.op Q.row:=by
     unfold Nand.pageAt;rw[Int.toNat_natCast,w3.rest d Q.op.toNat (.inr λx hx he=>by
      obtain⟨n1,_,n3⟩:=hR.inn x hx;rw[show x.1=(d:Int)from by omega,fno]at n3;cases n3)]
    refine .but d (Q.es l) rfl (by rw[hlk.dies];exact hd) (by rw[hlk.dies,<- hm];exact hev) ?_;have hb0:=ho.blk;have hr0:=ho.row;have hrp:=(Dv.left_spec hl.left).2.1;have h0:=h.dsc Q.op.toNat Q.row.toNat (by omega) (by omega);rw[Int.toNat_of_nonneg hb0.1,Int.toNat_of_nonneg hr0.1]at h0;cases h0 with
    | none h0=>exact .inl λc hc=>h0 d c (by rw[<- hpg];exact hc)
    | all l0 h0=>
     refine .inr ⟨l0,by rw[hlk.dies];exact h0.is.like hlk,λx hx hxd c hc=>?_,λe he=>(h0.kind e he).imp id (hold e)⟩;rw[hlk.dies]at hx;exact h0.inn x hx c (by rw[hxd,<- hpg];exact hc)
    | but d' l0 e' hd' h0 o=>
     obtain rfl:d'=d:=by omega
     rcases o with o | ⟨l',o⟩
     ·exact .inl λc hc=>o c (by rw[<- hpg];exact hc)
     ·refine .inr ⟨l',by rw[hlk.dies];exact o.is.like hlk,λx hx hxd c hc=>?_,λe he=>(o.kind e he).imp id (hmonoE e)⟩;rw[hlk.dies]at hx;exact o.inn x hx hxd c (by rw[<- hpg];exact hc)
  ·refine((h.dsc b r (by rw[<- hlk.blocks];exact hb) (by rw[<- hlk.pages];exact hr)).gone hlk λd c hc=> .inr ?_).mono (hmono b r) hmonoE;rw[a9g]at hc ⊢;rw[<- w3.page hq (Int.natCast_nonneg _) (Int.natCast_nonneg _) (Int.natCast_nonneg _) λe1 e2=>e ⟨e1,e2⟩];exact hc
theorem pen (h:GI fd W S) (hO:S.Ok (8*Dv.fuel+k) m) (hot:Hot2 fd S 0) (hf:∀e∈l,FitR e) (hl0:l.length≠0) (hnd:(l.map (·.lpn)).Nodup) (hlg:∀e∈l,e.lpn<S.T.logical) (hnx:S.next<=1099511627775-1200):
  S.pen l=(S,0,11)/\S.rows=0\/∃(V:Dv) (n:Nat),S.pen l=(V,(n:Int),0)/\Pnd fd S l V n 0/\V.Ok k m/\GI fd (M8 W l n) V/\Hot2 fd V 0:=by
 by_cases hr:S.rows=0
 ·obtain⟨e1,e2⟩:=h.inv.full (hO.less (Nat.le_refl _)) hr;left;refine⟨?_,hr⟩;show Dv.write (159+1) S l=_;rw[Dv.write_succ,if_neg hl0,if_pos ⟨e1,e2⟩]
 ·right;obtain⟨V,n,γ,p1,p2,p3,p4⟩:=h.inv.pen_step hO hot (by omega) hf hl0 hnd hlg hnx h.hd;obtain⟨γ',Q,g1,g2,g3,g4,g5,_,_,_,g9⟩:=h.inv.write_go (l:=l) 0 159 S k (m:=m) hO hot.hot (by omega) hf hl0 (by omega);obtain rfl:γ'=0:=by omega
  obtain rfl:=g9 rfl;obtain⟨q1,q2⟩:=p2.hot 0 hot;obtain rfl:γ=0:=by omega
  have hp:S.pen l=(t7 S.at1 l,(S.at1.fit l:Int),(0:Int)):=g5;rw[hp]at p1;have e1:=congrArg Prod.fst p1;have e2:=congrArg (λz=>z.2.1) p1;dsimp only at e1 e2;have hns:¬(S.left=false/\S.pick<0):=λe=>by
   rcases h.inv.rows_pos (hO.less (Nat.le_refl _)) (by omega)with e2 | e2
   ·rw[e.1]at e2;cases e2
   ·exact e2 e.2
  have hat:=Dv.at1_like S;have hG:=(h.at1 (hO.less (Nat.le_refl _)) hns).wrote g3 g4 hf hnd (λe he=>by rw[hat.2.1];exact hlg e he);subst e1;have e2:S.at1.fit l=n:=by omega
  rw[e2]at hG hp;exact⟨_,n,hp,p2,p3,hG,q2⟩
theorem swap {E:List En} {n:Nat} (h:GI fd (M8 W E n) S) (hW:WOk W) (hE:∀j,j<n->∃e sq,Tb.look W (E.getD j En.zero).lpn=some e/\E.getD j En.zero={e with seq:=sq}) (hd:∀i j,i<j->j<n->(E.getD i En.zero).lpn≠(E.getD j En.zero).lpn):GI fd W S:=by
 obtain⟨w1,w2⟩:=K0 (W:=W) (l:=E) n hd;refine⟨h.inv,h.hd.swap hE hd,hW,h.msk,λb r hb hr=>(h.dsc b r hb hr).mono (λe ⟨w,a,x1,x2,x3⟩=>?_) λe he=>he,h.ff⟩
 by_cases hex:∃j,j<n/\(E.getD j En.zero).lpn=e.lpn
 ·obtain⟨j,hj,hje⟩:=hex;obtain⟨e0,sq,y1,y2⟩:=hE j hj;have z1:=w1 j hj;rw[hje]at z1 y1;rw[z1]at x1;injection x1 with x1;refine⟨e0,a,y1,x2,x3.imp id λ⟨z2,z3,z4,z5,z6⟩=>⟨z2,z3,z4,?_,?_⟩⟩
  ·rw[z5,<- x1,y2]
  ·rw[z6,<- x1,y2]
 ·exact⟨w,a,by rw[<- w2 _ λj hj hh=>hex ⟨j,hj,hh⟩];exact x1,x2,x3⟩
theorem carry_go:∀(f:Nat) (S:Dv) (I:List Int) (done:Int) (k:Nat),GI fd W S->S.Ok (Dv.cost*f+k) m->Hot2 fd S 0->I.length<=f->(∀i∈I,(Tb.look W i).isSome=true)->I.Nodup->S.next+1000*(f:Int)<=1099511627775-1300->
  ∃(V:Dv) (n e:Int),Dv.carryGo f S I done=(V,n,e)/\GI fd W V/\V.Ok k m/\Hot2 fd V 0/\V.next<=S.next+1000*(f:Int)/\V.T.logical=S.T.logical/\S.N.Like V.N
 | 0,S,I,done,k,h,hO,hot,hL,_,_,_=>⟨S,done,0,rfl,h,hO.less (by omega),hot,by omega,rfl,Nand.Like.refl _⟩
 | f+1,S,I,done,k,h,hO,hot,hL,hin,hnd,hnx=>by
  by_cases hl0:I.length=0
  ·have:I=[]:=List.eq_nil_of_length_eq_zero hl0;subst this;exact⟨S,done,0,by rw[Dv.carryGo,if_pos (show([]:List Int).length=0 from rfl)],h,hO.less (by omega),hot,by omega,rfl,Nand.Like.refl _⟩
  ·have hg:=hO.gd.ok.bd16;obtain⟨c,hc⟩:∃c,(max S.slots 1).toNat=c:=⟨_,rfl⟩;have hc2:1<=c:=by omega
   obtain⟨E,e1,e2,e3,e4,e5⟩:=h.hd.rds h.wok (I.take c) λi hi=>hin i (List.mem_of_mem_take hi);have hEl:E.length=min c I.length:=by rw[e2,List.length_take]
   have hnd2:(E.map (·.lpn)).Nodup:=by rw[e3];exact hnd.sublist (List.take_sublist _ _)
   have hlgE:∀e∈E,e.lpn<S.T.logical:=λe he=>by
    have:e.lpn∈I.take c:=by rw[<- e3];exact List.mem_map_of_mem he
    have h1:=hin _ (List.mem_of_mem_take this);obtain⟨w,hw⟩:=Option.isSome_iff_exists.1 h1;obtain⟨_,a,ha,_⟩:=h.hd.each _ _ hw;exact(hO.T.rng _ (Tb.look_mem ha)).2
   have hstep:Dv.carryGo (f+1) S I done=(let w:=S.pen E;if w.2.2≠0 then(w.1,done+w.2.1,w.2.2)else Dv.carryGo f w.1 (I.drop w.2.1.toNat) (done+w.2.1)):=by
    rw[Dv.carryGo,if_neg hl0,hc];dsimp only;rw[e1];dsimp only;rw[if_neg (by decide)]
   rcases h.pen (k:=Dv.cost*f+k) (m:=m) (by have:Dv.cost*(f+1)=Dv.cost*f+Dv.cost:=Nat.mul_succ _ _;exact hO.less (by unfold Dv.cost at this ⊢;omega)) hot e4 (by omega) hnd2 hlgE (by omega)with⟨p1,_⟩ | ⟨V,n,p1,p2,p3,p4,p5⟩
   ·rw[hstep,p1];dsimp only;rw[if_pos (by decide)];exact⟨S,_,11,rfl,h,hO.less (by omega),hot,by omega,rfl,Nand.Like.refl _⟩
   ·have hnE:=p2.n1;have hV:GI fd W V:=p4.swap h.wok (λj hj=>e5 j (by rw[<- e2];omega)) (a5R hnd2 hnE);rw[hstep,p1];dsimp only;rw[if_neg (by decide),Int.toNat_natCast];have hdl:(I.drop n).length=I.length-n:=List.length_drop;have hn1:=p2.n3;have hnx2:=p2.next;obtain⟨U,n2,e2',r1,r2,r3,r4,r5,r6,r7⟩:=carry_go f V (I.drop n) (done+(n:Int)) k hV p3 p5 (by omega) (λi hi=>hin i (List.mem_of_mem_drop hi)) (hnd.sublist (List.drop_sublist _ _)) (by omega);exact⟨U,n2,e2',r1,r2,r3,r4,by omega,r6.trans p2.logical,p2.like.trans r7⟩
theorem carry (h:GI fd W S) (hO:S.Ok (Dv.costC+k) m) (hot:Hot2 fd S 0) (hlg:S.T.logical<=1000) (hnx:S.next<=1099511627775-2000000) (b most:Int):
  ∃(V:Dv) (n e:Int),S.carry b most=(V,n,e)/\GI fd W V/\V.Ok k m/\Hot2 fd V 0/\V.next<=S.next+1000000/\V.T.logical=S.T.logical/\S.N.Like V.N:=by
 obtain⟨I,hI⟩:∃I,(S.T.ins b).take (max most 0).toNat=I:=⟨_,rfl⟩;have hsub:∀j∈I,j∈S.T.ins b:=λj hj=>by rw[<- hI]at hj;exact List.mem_of_mem_take hj
 have hlen:I.length<=1000:=by
  have h1:=ins_len hO.T b;have h2:Tb.cntB S.T.at_ b<=S.T.at_.length:=List.countP_le_length;have h3:=b5c hO.T;rw[<- hI,List.length_take];omega
 have hnd:I.Nodup:=by
  rw[<- hI];refine List.Nodup.sublist (List.take_sublist _ _) ?_;unfold Tb.ins;split
  ·exact List.nodup_nil
  ·unfold Tb.inK;exact List.pairwise_map.2 ((List.nodup_range.filter _).imp λhne e=>hne (by omega))
 have hcost:Dv.cost*I.length<=Dv.costC:=Nat.mul_le_mul_left _ (by omega);obtain⟨V,n,e,r1,r2,r3,r4,r5,r6,r7⟩:=carry_go I.length S I 0 k h (hO.less (by omega)) hot (Nat.le_refl _) (λj hj=>by
  obtain⟨a,ha,_⟩:=b4l (hsub j hj);cases hw:Tb.look W j with
  | none=>rw[h.hd.none hw]at ha;cases ha
  | some e=>rfl) hnd (by omega)
 refine⟨V,n,e,?_,r2,r3,r4,by omega,r6,r7⟩;unfold Dv.carry;rw[hI];exact r1
theorem cleared (h:GI fd W S) {N':Nand} {t':Tl} (c1:S.clear=({S with N:=N',t:=t'},0)) (c2:Inv.Cleared fd S (f7 (j5 S.t S.T) S.op S.t.b) N' t') (c3:Hd {S with N:=N',t:=t'} W):GI fd W {S with N:=N',t:=t'}:=by
 have hers:ErsP S.N N' (f7 (j5 S.t S.T) S.op S.t.b):=by
  have:=a2O (f7 (j5 S.t S.T) S.op S.t.b) S.N S.t;have e:S.clear.1.N=(Dv.clearGo (f7 (j5 S.t S.T) S.op S.t.b) S.N S.t).1:=rfl;rw[<- e,c1]at this;exact this
 refine⟨c2.inv,c3,h.wok,λi a ha=>?_,λb r hb hr=>?_,λhd=>?_⟩
 rotate_right
 ·have hd:∀i:Nat,N'.dead.getD i false=false:=hd;rw[c2.dead]at hd;exact(c2.nofl ⟨hd,h.ff hd⟩).1.2
 ·show Msk N'.dies fd a.mask;rw[c2.like.dies];exact h.msk i a ha
 ·have hb:b<N'.blocks:=hb;have hr:r<N'.pages:=hr;rw[c2.like.blocks]at hb;rw[c2.like.pages]at hr;exact(h.dsc b r hb hr).gone c2.like λd c hc=>hers.less d b r c hc
theorem clear(h:GI fd W S) (hO:S.Ok (96+k) m):∃V,S.clear=(V,0)/\GI fd W V/\V.Ok k m/\V.next=S.next/\V.T=S.T/\V.op=S.op/\S.N.Like V.N/\(Hot2 fd S 0->Hot2 fd V 0):=by
 have hk:=Dv.clear_keep hO;obtain⟨N',t',c1,c2,c3⟩:=h.inv.clear_hd hO h.hd;have hG:=h.cleared c1 c2 c3;rw[c1]at hk;refine⟨_,c1,hG,hk.1,rfl,rfl,rfl,c2.like,λhh=>?_⟩;cases hh with
 | calm hno=>
  have hnf:=c2.nofl ⟨hno.dead,h.ff hno.dead⟩;exact .calm ⟨λi=>by show N'.dead.getD i false=false;rw[c2.dead];exact hno.dead i,List.eq_nil_iff_forall_not_mem.2 λa ha=>(by have:=c2.plan a ha;rw[hno.plan]at this;cases this),λi j=>by show(N'.blk i j).met=false;rw[hnf.2];exact hno.met i j⟩
 | cold h1 h2=>exact .cold (c2.td fd h1) h2
theorem room_go:∀(f:Nat) (S:Dv) (k:Nat),GI fd W S->S.Ok (Dv.costR*f+k) m->Hot2 fd S 0->S.T.logical<=1000->S.next+1000000*(f:Int)<=1099511627775-2000000->
  ∃(V:Dv) (e:Int),Dv.roomGo f S=(V,e)/\GI fd W V/\Hot2 fd V 0
 | 0,S,k,h,hO,hot,_,_=>⟨S,0,rfl,h,hot⟩
 | f+1,S,k,h,hO,hot,hlg,hnx=>by
  rw[Nat.mul_succ]at hO;rw[Dv.roomGo];split
  ·exact⟨S,0,rfl,h,hot⟩
  split
  ·exact⟨S,0,rfl,h,hot⟩
  obtain⟨U,n,e,c1,c2,c3,c4,c5,c6,c7⟩:=h.carry (k:=96+(Dv.costR*f+k)) (hO.less (by unfold Dv.costR;omega)) hot hlg (by omega) S.victim (S.T.count S.victim);dsimp only;rw[c1];dsimp only;split
  ·exact⟨U,e,rfl,c2,c4⟩
  ·obtain⟨V,d1,d2,d3,d4,d5,_,_,d8⟩:=c2.clear (k:=Dv.costR*f+k) c3;rw[d1];dsimp only;rw[if_neg (by decide)];exact room_go f V k d2 d3 (d8 c4) (by rw[d5,c6];exact hlg) (by omega)
theorem room (h:GI fd W S) (hO:S.Ok (Dv.costM+k) m) (hot:Hot2 fd S 0) (hlg:S.T.logical<=1000) (hnx:S.next<=1099511627775-20000000):GI fd W S.room.1/\Hot2 fd S.room.1 0:=by
 have hg:=hO.gd.ok.bd16;have htb:=hO.t.b;obtain⟨U,u1,u2,u3,u4,u5,_,_,u8⟩:=h.clear (k:=Dv.costR*16+k) (hO.less (by unfold Dv.costM;omega));have hm:Dv.costR*S.t.b<=Dv.costR*16:=Nat.mul_le_mul_left _ (by omega);obtain⟨V,e,v1,v2,v3⟩:=room_go S.t.b U k u2 (u3.less (by omega)) (u8 hot) (by rw[u5];exact hlg) (by omega);unfold Dv.room;rw[u1];dsimp only;rw[if_neg (by decide),v1];exact⟨v2,v3⟩
theorem same (h:GI fd W S) {N':Nand} (hl:S.N.Like N') (hb:N'.blk=S.N.blk) (hd:N'.dead=S.N.dead) (hp:N'.plan=S.N.plan) (hlit:N'.Lit) (hi:Inv fd {S with N:=N'}) (hH:Hd {S with N:=N'} W):GI fd W {S with N:=N'}:=by
 refine⟨hi,hH,h.wok,λi a ha=>?_,λb r hb' hr'=>?_,λhdd i j=>?_⟩
 ·show Msk N'.dies fd a.mask;rw[hl.dies];exact h.msk i a ha
 ·have hb':b<N'.blocks:=hb';have hr':r<N'.pages:=hr';rw[hl.blocks]at hb';rw[hl.pages]at hr';refine(h.dsc b r hb' hr').gone hl λd c hc=> .inr ?_;have hc:N'.pageAt d b r=some c:=hc;unfold Nand.pageAt at hc ⊢;rw[hb]at hc;exact hc
 ·have hdd:∀i:Nat,N'.dead.getD i false=false:=hdd;rw[hd]at hdd;show(N'.blk i j).fails=false;rw[hb];exact h.ff hdd i j
end GI
def lgN (d b p:Nat):Nat:=((b-5)*p*(d-2)+1)/2
theorem b3R (d b p:Nat) (hd:2<=d) (hb:5<=b):(((b:Int)-5)*p*((d:Int)-2)+1).tdiv 2=(lgN d b p:Int):=by
 have e1:(b:Int)-5=((b-5:Nat):Int):=by omega
 have e2:(d:Int)-2=((d-2:Nat):Int):=by omega
 rw[e1,e2,<- Int.natCast_mul,<- Int.natCast_mul,show(((b-5)*p*(d-2):Nat):Int)+1=(((b-5)*p*(d-2)+1:Nat):Int)from by omega,Int.tdiv_eq_ediv_of_nonneg (by omega)];unfold lgN;omega
namespace Tl
def ofD (N:Nand) (b:Nat) (t:Tl) (d:Nat):Tl:=
 let t:=t.wore b (N.wornAt d b)
 if L.has (t.mask b) d&&decide ((N.next d b:Int)>0)then t.clean b false else t
def ofB (N:Nand) (t:Tl) (b:Nat):Tl:=(List.range N.dies).foldl (ofD N b) t
def of (N:Nand):Tl:=(List.range N.blocks).foldl (ofB N) (Dv.seeDead N (Tl.new N.dies N.blocks N.pages))
end Tl
structure Fv where
 S:Dv
 L:List En
 nx:Int
 off:Bool
namespace Fv
def lg (F:Fv):Int:=lgN F.S.N.dies F.S.N.blocks F.S.N.pages
def ask (F:Fv):Fv:={F with off:=F.off||F.S.N.off}
def told (F:Fv) (e:Int):Fv:={F with off:=F.off||e==9}
def get (F:Fv) (i:Int):List UInt8×Int:=
 if(V9 F.L i).2 then((V9 F.L i).1.data,0)
 else match Tb.look F.S.T.at_ i with
  | none=>(zeros16,0)
  | some a=>
   if a.role=2 then(zeros16,0)else if a.role=4 then(zeros16,10)
   else
    let x:=R.read F.S.N a.block a.row a.slot a.mask
    if x.2≠0\/x.1.lpn≠i\/x.1.seq≠a.seq then(zeros16,10)else(x.1.data,0)
def read (F:Fv) (i:Int):Fv×List UInt8×Int:=
 if F.ask.off then(F.ask,zeros16,9)
 else if i<0\/i>=F.ask.lg then(F.ask,zeros16,3)
 else(F.ask,F.ask.get i)
def writes (F:Fv):Fv×Int:=
 let r:=F.S.room
 if r.2≠0 then({F with S:=r.1}.told r.2,r.2)
 else
  let w:=r.1.pen F.L
  ({F with S:=w.1,L:=J6 F.L (F.L.take w.2.1.toNat)}.told w.2.2,w.2.2)
def put (F:Fv) (e:En):Fv:={F with L:=I6 F.L {e with seq:=F.nx},nx:=F.nx+1}
def waits (F:Fv) (e:En):Fv×Int:=
 if F.ask.off then(F.ask,9)
 else if e.lpn<0\/e.lpn>=F.ask.lg then(F.ask,3)
 else if(F.ask.L.length:Int)>=F.ask.S.slots then
  let w:=F.ask.writes
  if w.2≠0 then w else(w.1.put e,0)
 else(F.ask.put e,0)
def write (F:Fv) (i:Int) (d:List UInt8):Fv×Int:=F.waits ⟨i,0,1,d⟩
def trim (F:Fv) (i:Int):Fv×Int:=F.waits ⟨i,0,2,zeros16⟩
def flushGo:Nat->Fv->Fv×Int
 | 0,F=>(F,0)
 | k+1,F=>
  if F.L.length=0 then(F,0)
  else
   let w:=F.writes
   if w.2≠0 then w else flushGo k w.1
def flush (F:Fv):Fv×Int:=if F.ask.off then(F.ask,9)else flushGo F.L.length F.ask
def tick (F:Fv):Fv×Int:=
 if F.ask.off then(F.ask,9)
 else
  let s:=F.ask.S.step 4
  ({F.ask with S:=s.1}.told s.2.2,s.2.2)
def whole (F:Fv):Fv×Bool:=
 if F.ask.off then(F.ask,false)
 else({F.ask with S:=F.ask.S.seen},F.ask.S.seen.leftN==0)
end Fv
namespace Dv
def holds (S:Dv) (l:List Int) (on:Bool):Dv:={S with t:=l.foldl (λt b=>t.hold b on) S.t}
end Dv
def x5 (N:Nand):Dv×Int:=
 let s:=V.scan N (lgN N.dies N.blocks N.pages)
 let S:Dv:=⟨N,Tl.of N,s.tb,-1,0,0,max s.next 1⟩
 let a:=(S.holds s.held true).torn (s.torn.take s.first)
 if a.2≠0 then a
 else
  let b:=(a.1.holds s.held false).clear
  if b.2≠0 then b
  else
   let c:=b.1.torn (s.torn.drop s.first)
   if c.2≠0 then c else c.1.room
def Fv.of (S:Dv):Fv:=⟨S,[],0,false⟩
theorem a5B {α:Type} [BEq α] [LawfulBEq α]:∀{K M:List α},K.Nodup->(∀x∈K,x∈M)->K.length<=M.length
 | [],M,_,_=>Nat.zero_le _
 | x::K,M,h,hs=>by
  obtain⟨h1,h2⟩:=List.nodup_cons.1 h;have hx:=hs x (by simp);have h3:=a5B (M:=M.erase x) h2 λy hy=>by
   have hne:y≠x:=λe=>h1 (by rw[<- e];exact hy);exact(List.mem_erase_of_ne hne).2 (hs y (by simp[hy]))
  rw[List.length_erase_of_mem hx]at h3;have:0<M.length:=List.length_pos_of_mem hx;rw[List.length_cons];omega
theorem X1 {N:Nand} (h:N.Ok):1<=lgN N.dies N.blocks N.pages/\lgN N.dies N.blocks N.pages<=200:=by
 obtain⟨hd,hb,hp⟩:=h.bd16;generalize N.dies=d at*;generalize N.blocks=b at*;generalize N.pages=p at*;have h2:3*2<=(b-5)*p:=Nat.mul_le_mul (by omega) hp.1;have h3:6*1<=(b-5)*p*(d-2):=Nat.mul_le_mul h2 (by omega);have h4:(b-5)*p<=11*8:=Nat.mul_le_mul (by omega) hp.2;have h5:(b-5)*p*(d-2)<=88*4:=Nat.mul_le_mul h4 (by omega);unfold lgN;omega
theorem a8f {N N':Nand} (h:N.Like N'):lgN N'.dies N'.blocks N'.pages=lgN N.dies N.blocks N.pages:=by rw[h.dies,h.blocks,h.pages]
theorem a0o {α:Type} {M:Nand} (f:Tl->α->Tl) (hf:∀t a,t.Fit M->(f t a).Fit M):∀(q:List α) (t:Tl),t.Fit M->(q.foldl f t).Fit M
 | [],_,h=>h
 | a::q,t,h=>a0o f hf q (f t a) (hf t a h)
theorem Tl.Fit.ofD {M N:Nand} {t:Tl} (h:t.Fit M) (b d:Nat):(Tl.ofD N b t d).Fit M:=by
 unfold Tl.ofD;dsimp only;split
 ·exact(h.wore _ _).clean _ _
 ·exact h.wore _ _
theorem Tl.Fit.ofB {M N:Nand} {t:Tl} (h:t.Fit M) (b:Nat):(Tl.ofB N t b).Fit M:=a0o _ (λ_ d h=>h.ofD b d) _ _ h
theorem Tl.Fit.new (N:Nand):(Tl.new N.dies N.blocks N.pages).Fit N:=⟨rfl,rfl,rfl,by show(List.replicate N.blocks Sb.zero).length=N.blocks;rw[List.length_replicate]⟩
theorem Tl.Fit.seeDead {M N:Nand} {t:Tl} (h:t.Fit M):(Dv.seeDead N t).Fit M:=a0o _ (λt d h=>by split;(· exact h.die _);exact h) _ _ h
theorem Tl.Fit.of (N:Nand):(Tl.of N).Fit N:=a0o _ (λ_ b h=>h.ofB b) _ _ (Tl.Fit.new N).seeDead
theorem b7Y {N:Nand} (hN:N.Ok) {b r:Int} {f:Fnd} (h:f∈R.all N b r):(0<=f.slot/\f.slot<=1000)/\f.en.data.length=16:=by
 unfold R.all at h;rw[List.mem_flatMap]at h;obtain⟨m,_,h⟩:=h;unfold R.allM at h;rw[List.mem_filterMap]at h;obtain⟨k,hk,h⟩:=h;rw[List.mem_range,(D1 N b r m).1]at hk;have hs:=Dv.slots_le m;unfold R.fnd at h;split at h
 ·injection h with h;subst h;refine⟨by show(0:Int)<=((k:Nat):Int)/\((k:Nat):Int)<=1000;omega,?_⟩;show(R.enAt (R.look N b r m) k).data.length=16;unfold R.enAt;split
  ·have hl:=(D1 N b r m).1;rw[List.getD_eq_getElem?_getD,List.getElem?_eq_getElem (by omega)];exact(V0 hN b r m).1 _ (List.getElem_mem _)
  ·exact a7Z hN b r m k
 ·cases h
theorem b8p {N:Nand} (hN:N.Ok) {f:Fnd} (h:f∈V.all N):(0<=f.slot/\f.slot<=1000)/\f.en.data.length=16:=by
 unfold V.all at h;rw[List.mem_flatMap]at h;obtain⟨b,_,h⟩:=h;rw[List.mem_flatMap]at h;obtain⟨r,_,h⟩:=h;exact b7Y hN h
theorem b4A {N:Nand} (hN:N.Ok) (n:Int):∀k,(∀x∈(V.goS N (V.all N) n k).tb.at_,0<=x.2.slot/\x.2.slot<=1000)/\(∀s∈(V.goS N (V.all N) n k).torn,s.data.length=16)/\∀s∈(V.goS N (V.all N) n k).others,s.data.length=16
 | 0=>⟨λx hx=>by simp[V.goS,Tb.new]at hx,λs hs=>by simp[V.goS]at hs,λs hs=>by simp[V.goS]at hs⟩
 | k+1=>by
  obtain⟨h1,h2,h3⟩:=b4A hN n k;rw[V.goS_succ];unfold V.step;split
  ·rename_i hs;have hm:=V.standOf_mem hs;unfold V.of at hm;obtain⟨e1,e2⟩:=b8p hN (List.mem_filter.1 hm).1;have hp:=Tb.put_slot (e:=(V.standOf (V.of (V.all N) k)).1.en) (b:=(V.standOf (V.of (V.all N) k)).1.block) (r:=(V.standOf (V.of (V.all N) k)).1.row) (m:=(V.standOf (V.of (V.all N) k)).1.mask) h1 e1;have ha:∀l:List En,(∀s∈l,s.data.length=16)->∀s∈l++[(V.standOf (V.of (V.all N) k)).1.en],s.data.length=16:=λl hl s hs=>by
    rcases List.mem_append.1 hs with hs | hs
    ·exact hl s hs
    ·rw[List.mem_singleton]at hs;rw[hs];exact e2
   split
   ·exact⟨hp,h2,h3⟩
   split
   ·exact⟨hp,ha _ h2,h3⟩
   ·exact⟨hp,h2,ha _ h3⟩
  ·exact⟨h1,h2,h3⟩
theorem a6t {N:Nand} (hN:N.Ok) (n:Int):(V.scan N n).tb.Ok/\(∀x∈(V.scan N n).tb.at_,0<=x.2.slot/\x.2.slot<=1000)/\(∀s∈(V.scan N n).torn,s.data.length=16)/\(1<=(V.scan N n).next/\(V.scan N n).next<=1099511627776):=by
 obtain⟨h1,h2,h3⟩:=b4A hN n (V.size n);refine⟨V.goS_ok N (V.all N) n (V.size n),h1,λs hs=>?_,V.nextOf_bd λf hf=>(a9O hf).2⟩;have hs:s∈(V.goS N (V.all N) n (V.size n)).torn++(V.goS N (V.all N) n (V.size n)).others:=hs;rcases List.mem_append.1 hs with hs | hs
 ·exact h2 s hs
 ·exact h3 s hs
theorem a5o {N:Nand} {m:Nat} (hm:m<=65536):(V.scan N m).first<=(V.scan N m).torn.length/\((V.scan N m).torn.take (V.scan N m).first).length<=m/\((V.scan N m).torn.drop (V.scan N m).first).length<=m/\(V.scan N m).torn.length<=2*m:=by
 have hsz:V.size (m:Int)=m:=by unfold V.size;omega
 have h1:=V.goS_len N (V.all N) m (V.size m);rw[hsz]at h1;have e1:(V.scan N m).first=(V.goS N (V.all N) m m).torn.length:=by show(V.goS N (V.all N) m (V.size m)).torn.length=_;rw[hsz]
 have e2:(V.scan N m).torn=(V.goS N (V.all N) m m).torn++(V.goS N (V.all N) m m).others:=by show(V.goS N (V.all N) m (V.size m)).torn++(V.goS N (V.all N) m (V.size m)).others=_;rw[hsz]
 rw[e1,e2,List.length_take,List.length_drop,List.length_append];omega
theorem b0Y {N:Nand} (hN:N.Ok) (n:Int):(V.scan N n).held.length<=6000:=by
 have h1:=V.goS_held N (V.all N) n (V.size n);have h2:=b0G N hN;have h3:=b1p (V.goS N (V.all N) n (V.size n)).held;show(a3Z (V.goS N (V.all N) n (V.size n)).held).length<=_;omega
namespace Dv
variable {S : Dv} {N : Nand} {k m : Nat}
theorem Ok.holds (h:S.Ok k m) (l:List Int) (on:Bool):(S.holds l on).Ok k m:=⟨h.gd,a0o _ (λ_ _ h=>h.hold _ _) _ _ h.t,h.T,h.sl,h.row,h.next⟩
def mt0 (N:Nand):Dv:=⟨N,Tl.of N,(V.scan N (lgN N.dies N.blocks N.pages)).tb,-1,0,0,max (V.scan N (lgN N.dies N.blocks N.pages)).next 1⟩
theorem Ok.mt0 (hG:N.Gd k m):(Dv.mt0 N).Ok k m:=by
 obtain⟨h1,h2,_,h4⟩:=a6t hG.ok (lgN N.dies N.blocks N.pages);refine⟨hG,Tl.Fit.of N,h1,h2,by show(0:Int)<=0/\(0:Int)<=8;omega,?_⟩;show 1<=max (V.scan N (lgN N.dies N.blocks N.pages)).next 1/\max (V.scan N (lgN N.dies N.blocks N.pages)).next 1<=_;omega
theorem mt0_log (hG:N.Gd k m):(Dv.mt0 N).T.logical=(lgN N.dies N.blocks N.pages:Int):=by
 have h:=X1 hG.ok;have:=V.goS_log N (V.all N) (lgN N.dies N.blocks N.pages) (V.size (lgN N.dies N.blocks N.pages));show(V.goS N (V.all N) (lgN N.dies N.blocks N.pages) (V.size (lgN N.dies N.blocks N.pages))).tb.logical=_;rw[this];omega
theorem torn_keep {l:List En} {c:Nat} (h:S.Ok (costT*c+k) m) (hl:l.length<=c) (hd:∀s∈l,s.data.length=16):(S.torn l).1.Ok k m/\S.N.Like (S.torn l).1.N/\(S.torn l).1.T.logical=S.T.logical:=
 tornGo_keep _ S l k (h.less (by have:=Nat.mul_le_mul_left costT hl;omega)) hd
def costK:Nat:=costT*200+(96+(costT*200+costM))
end Dv
theorem a4e (N:Nand):x5 N=(let s:=V.scan N (lgN N.dies N.blocks N.pages)
 let a:=((Dv.mt0 N).holds s.held true).torn (s.torn.take s.first)
 if a.2≠0 then a
 else
  let b:=(a.1.holds s.held false).clear
  if b.2≠0 then b
  else
   let c:=b.1.torn (s.torn.drop s.first)
   if c.2≠0 then c else c.1.room):=rfl
theorem a4d {N:Nand} {k m:Nat} (hG:N.Gd (Dv.costK+k) m):(x5 N).1.Ok k m/\N.Like (x5 N).1.N/\(x5 N).1.T.logical=(lgN N.dies N.blocks N.pages:Int):=by
 have h200:=X1 hG.ok;obtain⟨t1,t2,t3,_⟩:=a5o (N:=N) (m:=lgN N.dies N.blocks N.pages) (by omega);obtain⟨_,_,hd,_⟩:=a6t hG.ok (lgN N.dies N.blocks N.pages);have h0:=Dv.Ok.mt0 hG;have hlog:=Dv.mt0_log hG;have hd1:∀s∈(V.scan N (lgN N.dies N.blocks N.pages)).torn.take (V.scan N (lgN N.dies N.blocks N.pages)).first,s.data.length=16:=λs hs=>hd s (List.mem_of_mem_take hs)
 have hd2:∀s∈(V.scan N (lgN N.dies N.blocks N.pages)).torn.drop (V.scan N (lgN N.dies N.blocks N.pages)).first,s.data.length=16:=λs hs=>hd s (List.mem_of_mem_drop hs)
 rw[a4e];dsimp only;have ha:=Dv.torn_keep (k:=96+(Dv.costT*200+(Dv.costM+k))) (c:=200) ((h0.holds (V.scan N (lgN N.dies N.blocks N.pages)).held true).less (by unfold Dv.costK;omega)) (by omega) hd1;have ea:((Dv.mt0 N).holds (V.scan N (lgN N.dies N.blocks N.pages)).held true).N=N:=rfl;have ea2:((Dv.mt0 N).holds (V.scan N (lgN N.dies N.blocks N.pages)).held true).T=(Dv.mt0 N).T:=rfl;rw[ea,ea2,hlog]at ha;split
 ·exact⟨ha.1.less (by omega),ha.2⟩
 generalize(((Dv.mt0 N).holds (V.scan N (lgN N.dies N.blocks N.pages)).held true).torn ((V.scan N (lgN N.dies N.blocks N.pages)).torn.take (V.scan N (lgN N.dies N.blocks N.pages)).first)).1=A at ha;have hb:=Dv.clear_keep (ha.1.holds (V.scan N (lgN N.dies N.blocks N.pages)).held false);have eb:(A.holds (V.scan N (lgN N.dies N.blocks N.pages)).held false).N=A.N:=rfl;have eb2:(A.holds (V.scan N (lgN N.dies N.blocks N.pages)).held false).T=A.T:=rfl;rw[eb,eb2]at hb;split
 ·exact⟨hb.1.less (by omega),ha.2.1.trans hb.2.1,by rw[hb.2.2];exact ha.2.2⟩
 have hc:=Dv.torn_keep (k:=Dv.costM+k) (c:=200) hb.1 (Nat.le_trans t3 h200.2) hd2;split
 ·exact⟨hc.1.less (by omega),(ha.2.1.trans hb.2.1).trans hc.2.1,by rw[hc.2.2,hb.2.2];exact ha.2.2⟩
 have hr:=Dv.room_keep hc.1;exact⟨hr.1,((ha.2.1.trans hb.2.1).trans hc.2.1).trans hr.2.1,by rw[hr.2.2,hc.2.2,hb.2.2];exact ha.2.2⟩
structure Fv.Ok (F:Fv) (k m:Nat):Prop where
 dv:F.S.Ok k m
 dat:∀e∈F.L,e.data.length=16
 rng:∀e∈F.L,0<=e.lpn/\e.lpn<F.lg
 nd:(F.L.map (·.lpn)).Nodup
 nx:0<=F.nx/\F.nx+(k:Int)<=4611686018427387904
namespace Fv
variable {F : Fv} {k m : Nat}
theorem lg_like {F G:Fv} (h:F.S.N.Like G.S.N):G.lg=F.lg:=by unfold lg;rw[a8f h]
theorem lg_bd (h:F.S.N.Ok):1<=F.lg/\F.lg<=200:=by have:=X1 h;unfold lg;omega
theorem Ok.less (h:F.Ok k m) {k':Nat} (hk:k'<=k):F.Ok k' m:=⟨h.dv.less hk,h.dat,h.rng,h.nd,by have:=h.nx;omega⟩
theorem Ok.len (h:F.Ok k m):F.L.length<=200:=by
 have hb:=lg_bd h.dv.gd.ok;have h1:=a5B (K:=F.L.map (·.lpn)) (M:=(List.range F.lg.toNat).map λi:Nat=>(i:Int)) h.nd λx hx=>by
  obtain⟨e,he,rfl⟩:=List.mem_map.1 hx;have:=h.rng e he;exact List.mem_map.2 ⟨e.lpn.toNat,List.mem_range.2 (by omega),by omega⟩
 simp at h1;omega
theorem Ok.ask (h:F.Ok k m):F.ask.Ok k m:=⟨h.dv,h.dat,h.rng,h.nd,h.nx⟩
def cW:Nat:=Dv.costM+8*Dv.fuel
theorem done_sub (L l:List En):(J6 L l).Sublist L:=List.filter_sublist
theorem done_lt {L:List En} {n:Nat} (h:L.length≠0) (hn:1<=n):(J6 L (L.take n)).length<L.length:=by
 unfold J6;rw[List.length_filter_lt_length_iff_exists];cases L with
 | nil=>exact absurd rfl h
 | cons x L=>
  refine⟨x,List.mem_cons_self ..,?_⟩;obtain⟨c,rfl⟩:∃c,n=c+1:=⟨n-1,by omega⟩;simp
structure Kept (F G:Fv):Prop where
 like:F.S.N.Like G.S.N
 log:G.S.T.logical=F.S.T.logical
theorem Kept.refl (F:Fv):Kept F F:=⟨Nand.Like.refl _,rfl⟩
theorem Kept.ask (F:Fv):Kept F F.ask:=⟨Nand.Like.refl _,rfl⟩
theorem Kept.trans {F G H:Fv} (h:Kept F G) (h2:Kept G H):Kept F H:=⟨h.like.trans h2.like,h2.log.trans h.log⟩
theorem Ok.with_ {S:Dv} {L:List En} {off:Bool} {k':Nat} (h:F.Ok k' m) (hS:S.Ok k m) (hk:k<=k') (hl:F.S.N.Like S.N) (hL:L.Sublist F.L):(⟨S,L,F.nx,off⟩:Fv).Ok k m:=
 ⟨hS,λe he=>h.dat e (hL.subset he),λe he=>by rw[lg_like (F:=F) (G:=⟨S,L,F.nx,off⟩) hl];exact h.rng e (hL.subset he),h.nd.sublist (hL.map _),by have:=h.nx;show 0<=F.nx/\F.nx+(k:Int)<=_;omega⟩
theorem writes_keep (h:F.Ok (cW+k) m):F.writes.1.Ok k m/\Kept F F.writes.1/\F.writes.1.L.length<=F.L.length/\(F.writes.2=0->F.L.length≠0->F.writes.1.L.length<F.L.length):=by
 have hr:=Dv.room_keep (S:=F.S) (k:=8*Dv.fuel+k) (m:=m) (h.dv.less (by unfold cW;omega));have he:F.writes=(let r:=F.S.room
  if r.2≠0 then({F with S:=r.1}.told r.2,r.2)
  else
   let w:=r.1.pen F.L
   ({F with S:=w.1,L:=J6 F.L (F.L.take w.2.1.toNat)}.told w.2.2,w.2.2)):=rfl
 dsimp only at he
 by_cases h0:F.S.room.2≠0
 ·rw[if_pos h0]at he;rw[he];exact⟨h.with_ (hr.1.less (by omega)) (by omega) hr.2.1 (List.Sublist.refl _),⟨hr.2.1,hr.2.2⟩,Nat.le_refl _,λe=>absurd e h0⟩
 ·rw[if_neg h0]at he;have hp:=Dv.pen_keep hr.1 h.dat
  have ht:=λe hl=>Dv.pen_took hr.1 h.dat e hl;rw[he];refine⟨h.with_ hp.1 (by omega) (hr.2.1.trans hp.2.1) (done_sub _ _),⟨hr.2.1.trans hp.2.1,hp.2.2.trans hr.2.2⟩,(done_sub _ _).length_le,λe hl=>?_⟩;have:=ht e hl;exact done_lt hl (by omega)
theorem flushGo_keep:∀(f:Nat) (F:Fv) (k:Nat),F.Ok (cW*f+k) m->(flushGo f F).1.Ok k m/\Kept F (flushGo f F).1
 | 0,F,k,h=>⟨h.less (by omega), .refl _⟩
 | f+1,F,k,h=>by
  rw[flushGo];split
  ·exact⟨h.less (by omega), .refl _⟩
  have hw:=writes_keep (F:=F) (k:=cW*f+k) (h.less (by rw[Nat.mul_succ];omega));dsimp only;split
  ·exact⟨hw.1.less (by omega),hw.2.1⟩
  ·have ih:=flushGo_keep f F.writes.1 k hw.1;exact⟨ih.1,hw.2.1.trans ih.2⟩
theorem flush_keep (h:F.Ok (cW*200+k) m):F.flush.1.Ok k m/\Kept F F.flush.1:=by
 unfold flush;split
 ·exact⟨h.ask.less (by omega), .ask _⟩
 ·have hl:=h.len;have hm:cW*F.L.length<=cW*200:=Nat.mul_le_mul_left _ hl;have r:=flushGo_keep F.L.length F.ask k (h.ask.less (by omega));exact⟨r.1,⟨r.2.like,r.2.log⟩⟩
theorem put_ok (h:F.Ok (1+k) m) {e:En} (hd:e.data.length=16) (hr:¬(e.lpn<0\/e.lpn>=F.lg)):(F.put e).Ok k m:=by
 have hlg:(F.put e).lg=F.lg:=rfl;refine⟨h.dv.less (by omega),λx hx=>?_,λx hx=>?_,?_,by have:=h.nx;show 0<=F.nx+1/\F.nx+1+(k:Int)<=_;omega⟩
 ·have hx:x∈(F.L.filter λy:En=>!(y.lpn==e.lpn))++[({e with seq:=F.nx}:En)]:=hx;rcases List.mem_append.1 hx with hx | hx
  ·exact h.dat x (List.mem_filter.1 hx).1
  ·rw[List.mem_singleton]at hx;rw[hx];exact hd
 ·have hx:x∈(F.L.filter λy:En=>!(y.lpn==e.lpn))++[({e with seq:=F.nx}:En)]:=hx;rw[hlg];rcases List.mem_append.1 hx with hx | hx
  ·exact h.rng x (List.mem_filter.1 hx).1
  ·rw[List.mem_singleton]at hx;rw[hx];show 0<=e.lpn/\e.lpn<F.lg;omega
 ·show(((F.L.filter λy:En=>!(y.lpn==e.lpn))++[({e with seq:=F.nx}:En)]).map (·.lpn)).Nodup;rw[List.map_append,List.nodup_append];refine⟨List.Nodup.sublist ((List.filter_sublist (p:=λx:En=>!(x.lpn==e.lpn)) (l:=F.L)).map (·.lpn)) h.nd,by simp,λa ha b hb hab=>?_⟩;obtain⟨x,hx,rfl⟩:=List.mem_map.1 ha;simp at hb;have:=(List.mem_filter.1 hx).2;rw[hab,hb]at this;simp at this
theorem waits_keep (h:F.Ok (cW+(1+k)) m) {e:En} (hd:e.data.length=16):(F.waits e).1.Ok k m/\Kept F (F.waits e).1:=by
 unfold waits;split
 ·exact⟨h.ask.less (by omega), .ask _⟩
 split
 ·exact⟨h.ask.less (by omega), .ask _⟩
 rename_i hr;have hr:¬(e.lpn<0\/e.lpn>=F.lg):=hr;split
 ·have hw:=writes_keep h.ask;dsimp only;split
  ·exact⟨hw.1.less (by omega),⟨hw.2.1.like,hw.2.1.log⟩⟩
  ·refine⟨put_ok hw.1 hd ?_,⟨hw.2.1.like,hw.2.1.log⟩⟩;rw[lg_like (F:=F) (G:=F.ask.writes.1) hw.2.1.like];exact hr
 ·exact⟨put_ok (h.ask.less (by omega)) hd hr,⟨Nand.Like.refl _,rfl⟩⟩
theorem write_keep (h:F.Ok (cW+(1+k)) m) (i:Int) {d:List UInt8} (hd:d.length=16):(F.write i d).1.Ok k m/\Kept F (F.write i d).1:=waits_keep h hd
theorem trim_keep (h:F.Ok (cW+(1+k)) m) (i:Int):(F.trim i).1.Ok k m/\Kept F (F.trim i).1:=waits_keep h rfl
theorem tick_keep (h:F.Ok (Dv.costS+k) m):F.tick.1.Ok k m/\Kept F F.tick.1:=by
 unfold tick;split
 ·exact⟨h.ask.less (by omega), .ask _⟩
 ·have hs:=Dv.step_keep h.ask.dv 4;exact⟨h.ask.with_ hs.1 (by omega) hs.2.1 (List.Sublist.refl _),⟨hs.2.1,hs.2.2⟩⟩
theorem whole_keep (h:F.Ok k m):F.whole.1.Ok k m/\Kept F F.whole.1:=by
 unfold whole;split
 ·exact⟨h.ask, .ask _⟩
 ·exact⟨h.ask.with_ h.dv.seen (Nat.le_refl _) (Nand.Like.refl _) (List.Sublist.refl _),⟨Nand.Like.refl _,rfl⟩⟩
theorem read_keep (h:F.Ok k m) (i:Int):(F.read i).1.Ok k m/\Kept F (F.read i).1:=by
 unfold read;split
 ·exact⟨h.ask, .ask _⟩
 split
 ·exact⟨h.ask, .ask _⟩
 ·exact⟨h.ask, .ask _⟩
theorem of_ok {S:Dv} (h:S.Ok k m) (hk:k<=1000000000000000):(Fv.of S).Ok k m:=⟨h,λ_ h=>(by cases h),λ_ h=>(by cases h),List.nodup_nil,by show(0:Int)<=0/\(0:Int)+(k:Int)<=_;omega⟩
end Fv
namespace Rmy
variable {fd : Int} {S : Dv} {k m β : Nat} {W : List (Int × En)}
end Rmy
end Go.Proofs.YtgkpkpbnonmopaaGreat
