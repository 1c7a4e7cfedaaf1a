/- Helpers. No condition. -/
import Derived.Test.YtgkpkpbnonmopaaGreatC01
import Derived.WalkKit
import Derived.Laws.StructEq
import Derived.Laws.MakeOwn
import Derived.Laws.OwnMore
import Derived.Maps.RangeRun
set_option maxRecDepth 20000
set_option linter.all false
namespace Go.Proofs.YtgkpkpbnonmopaaGreat
open Go Go.RowKit
def gd (ops:List Oper) (E:Env) (o:Oper):Option G:=match o.guard with
 | none=>some .tt
 | some (j,want)=>match n9 ops j with
  | some oj=>match oj.dst with
   | some d=>match E.get d with
    | some ⟨_, .bool b,_, .tt⟩=>match want with
     | true=>some (.when b)
     | false=>some (.when (!b))
    | some ⟨_, .bool b,_, .when c⟩=>match want with
     | true=>some (.when (c&&b))
     | false=>some (.when (c&& !b))
    | _=>none
   | none=>none
  | none=>none
def a9T:G->List Prop->List Prop
 | .tt,l=>l
 | .when _,[]=>[]
 | .when b,p::r=>[b=true->Conj (p::r)]
def b6P:Cl->Nat->Option Atom
 | [],_=>none
 | (j,A)::r,i=>match Nat.beq j i with
  | true=>some A
  | false=>b6P r i
def rdC (C:Cl) (L:List Atom):Nat->List Prop
 | 0=>[]
 | i+1=>[b6P C i=n9 L i]
def b2S:Cl->List Atom->List Prop
 | [],_=>[]
 | (i,A)::r,L=>(n9 L i=some A)::b2S r L
def t8 (l:Bool) (C:Cl) (L:List Atom):List Prop:=match l with
 | true=>[]
 | false=>b2S C L
structure SR where
 E:Env
 L:List Atom
 ob:List Prop
 k:Nat
def D7 (N:Nat) (dst:Option Tmp) (v:Value) (tag:Nat) (g:G) (E:Env):Option Env:=match dst with
 | none=>some E
 | some d=>match Nat.blt d N with
  | true=>some (⟨d,v,tag,g⟩::E)
  | false=>none
def a0a (T:Tab) (N:Nat) (ops:List Oper) (C:Cl) (p:Bool) (i:Nat) (E:Env) (L:List Atom) (k:Nat):Option SR:=match n9 ops i with
 | some o=>match gd ops E o,look T E L o.op with
  | some g,some ⟨v,tag,ob,rd⟩=>match D7 N o.dst v tag g E with
   | some E'=>match p,rd with
    | true,0=>some ⟨E',L,a9T g ob,k⟩
    | true,_+1=>none
    | false,rd=>some ⟨E',L,a9T g (rdC C L rd++ob),k⟩
   | none=>none
  | _,_=>none
 | none=>none
def S9 (T:Tab) (N:Nat) (bs:Nat->Nat) (ops:List Oper) (C:Cl) (l:Bool) (i:Nat) (E:Env) (L:List Atom) (k:Nat):Option SR:=match n9 ops i with
 | some o=>match gd ops E o with
  | some g=>match look T E L o.op with
   | some ⟨v,tag,ob,_⟩=>match D7 N o.dst v tag g E with
    | some E'=>some ⟨E',L,t8 l C L++a9T g ob,k⟩
    | none=>none
   | none=>match g with
    | .tt=>match eff T bs E L k o.op with
     | some ⟨v,tag,L',ob,k'⟩=>match D7 N o.dst v tag .tt E with
      | some E'=>some ⟨E',L',t8 l C L'++ob,k'⟩
      | none=>none
     | none=>none
    | _=>none
  | none=>none
 | none=>none
section
variable {P : Program} {T : Tab} {E : Env} {L : List Atom} {n : Nat} {a : Act} {w : World}
theorem O8 {ops:Array Oper} {o:Oper} {g:G} (he:EnvOK n E a) (h:gd ops.toList E o=some g):Region.wanted o (yielded ops a.tmps)=g.on:=by
 unfold gd at h;unfold Region.wanted;split at h
 ·rename_i hg;injection h with h;subst h;simp[hg,G.on]
 ·rename_i j want hg;split at h
  ·rename_i oj hj;rw[n5]at hj;have hj':ops[j]? =some oj:=by simpa using hj
   split at h
   ·rename_i d hd;have hy:∀s,E.get d=some s->yielded ops a.tmps j=match s.val with | .bool b=>some b | _=>none:=λs hs=>by
     have:=he.slot d s hs;simp only[yielded,hj',Option.bind_some,hd,this];cases s.val<;>rfl
    split at h
    ·rename_i k b t hs;have:=hy _ hs;simp only[Slot.val,G.on]at this;simp only[hg,this];split at h<;>injection h with h<;>subst h<;>cases b<;>rfl
    ·rename_i k b t c hs;have:=hy _ hs;simp only[Slot.val,G.on]at this;simp only[hg];split at h<;>injection h with h<;>subst h<;>cases c<;>cases b<;>simp only[this]<;>rfl
    ·cases h
   ·cases h
  ·cases h
theorem a0J {g:G} {l:List Prop} (h:Conj (a9T g l)) (hg:g.on=true):Conj l:=by
 cases g with
 | tt=>exact h
 | when b=>
  cases l with
  | nil=>trivial
  | cons p r=>exact h.1 hg
theorem B8 {N:Nat} {dst:Option Tmp} {v:Value} {tag:Nat} {g:G} {E':Env} (he:EnvOK N E a) (h:D7 N dst v tag g E=some E') (u:Value) (hu:u=match g.on with | true=>v | false=>undef):EnvOK N E' (a.put dst u):=by
 unfold D7 at h;split at h
 ·injection h with h;subst h;exact he
 ·rename_i d;split at h
  ·rename_i hd;injection h with h;subst h;exact he.put (Nat.le_of_ble_eq_true hd) v tag g u hu
  ·cases h
theorem f9:∀{C:Cl} {i:Nat} {A:Atom},b6P C i=some A->(i,A)∈C
 | (j,B)::r,i,A,h=>by
  simp only[b6P]at h;split at h
  ·rename_i e;have:=Nat.eq_of_beq_eq_true e;subst this;injection h with h;subst h;exact List.mem_cons_self ..
  ·exact List.mem_cons_of_mem _ (f9 h)
theorem a3B:∀{C:Cl} {L:List Atom} {w:World},Conj (b2S C L)->Sep L (hl w)->CAt C w
 | [],L,w,h,hs=>by intro p hp;cases hp
 | (i,A)::r,L,w,h,hs=>by
  intro p hp;rcases List.mem_cons.1 hp with rfl | hp
  ·have:=h.1;rw[n5]at this;exact hs.get this
  ·exact a3B h.2 hs p hp
theorem A4 {l:Bool} {C:Cl} {L:List Atom} {w:World} (h:Conj (t8 l C L)) (hs:Sep L (hl w)) (e:l=false):CAt C w:=by
 subst e;exact a3B h hs
theorem a4S (hT:TabOK P T) {N:Nat} {ops:Array Oper} {C:Cl} {p:Bool} {i k:Nat} {r:SR} (h:a0a T N ops.toList C p i E L k=some r) (hob:Conj r.ob):
  r.L=L/\r.k=k/\∃o,ops[i]? =some o/\∀a,EnvOK N E a->∃v,YldIn P ops (λw=>p=false->CAt C w) o v a/\EnvOK N r.E (a.put o.dst v):=by
 unfold a0a at h;split at h
 ·rename_i o ho;rw[n5]at ho;have ho':ops[i]? =some o:=by simpa using ho
  split at h
  ·rename_i g v tag ob rd hg hq;split at h
   ·rename_i E' hE;split at h
    ·injection h with h;subst h;refine⟨rfl,rfl,o,ho',λa he=>⟨_,?_,B8 he hE _ rfl⟩⟩;have hw:=O8 he hg;cases hon:g.on with
     | false=>exact .inr ⟨by rw[hw,hon],rfl⟩
     | true=>exact .inl ⟨by rw[hw,hon],λw _=>a4k hT he hq (a0J hob hon) λi A hi hA=>by cases hi⟩
    ·cases h
    ·injection h with h;subst h;refine⟨rfl,rfl,o,ho',λa he=>⟨_,?_,B8 he hE _ rfl⟩⟩;have hw:=O8 he hg;cases hon:g.on with
     | false=>exact .inr ⟨by rw[hw,hon],rfl⟩
     | true=>
      have hob2:=a0J hob hon;obtain⟨o1,o2⟩:=Conj.app hob2;refine .inl ⟨by rw[hw,hon],λw hC=>a4k hT he hq o2 λi A hi hA=>?_⟩;have hi':rd=i+1:=hi;rw[hi']at o1;have h1:=o1.1;rw[n5,hA]at h1;exact hC rfl _ (f9 h1)
   ·cases h
  ·cases h
 ·cases h
theorem a7o (hT:TabOK P T) {N:Nat} {bs:Nat->Nat} {ops:Array Oper} {C:Cl} {l:Bool} {i k:Nat} {r:SR} (h:S9 T N bs ops.toList C l i E L k=some r) (hob:Conj r.ob):
  ∃o,ops[i]? =some o/\∀a w,EnvOK N E a->Sep L (hl w)->(r.k=k\/bs k=w.heap.size)->sOp P ops o (λa' w'=>(l=false->CAt C w')/\EnvOK N r.E a'/\Sep r.L (hl w')/\Ext w w') a w:=by
 unfold S9 at h;split at h
 ·rename_i o ho;rw[n5]at ho;have ho':ops[i]? =some o:=by simpa using ho
  split at h
  ·rename_i g hg;split at h
   ·rename_i v tag ob rd hq;split at h
    ·rename_i E' hE;injection h with h;subst h;obtain⟨o1,o2⟩:=Conj.app hob;refine⟨o,ho',λa w he hs _=>?_⟩;have hw:=O8 he hg;unfold sOp;cases hon:g.on with
     | false=>
      rw[if_neg (by rw[hw,hon];simp)];exact⟨A4 o1 hs,B8 he hE _ (by rw[hon]),hs,Ext.refl _⟩
     | true=>
      rw[if_pos (by rw[hw,hon]),a4k hT he hq (a0J o2 hon) λi A _ hA=>hs.get hA];exact⟨A4 o1 hs,B8 he hE _ (by rw[hon]),hs,Ext.refl _⟩
    ·cases h
   ·split at h
    ·split at h
     ·rename_i v tag L' ob k' hq;split at h
      ·rename_i E' hE;injection h with h;subst h;obtain⟨o1,o2⟩:=Conj.app hob;refine⟨o,ho',λa w he hs hk=>?_⟩;have hw:=O8 he hg;obtain⟨nv,w',r1,r2,r3,r4⟩:=b0z hT he hq o2 hs hk;unfold sOp;rw[if_pos (by rw[hw];rfl),r1];rcases r2 with rfl | ⟨rfl,r2⟩
       ·exact⟨A4 o1 r3,B8 he hE _ rfl,r3,r4⟩
       ·exact⟨A4 o1 r3,B8 he hE _ (by simp only at r2;rw[r2];rfl),r3,r4⟩
      ·cases h
     ·cases h
    ·cases h
  ·cases h
 ·cases h
end

theorem b1Z {T:Tab} {b0 bs:Nat->Nat} {E:Env} {L:List Atom} {k:Nat} {op:Op} {r:ER} (h:eff T b0 E L k op=some r):(r.k=k\/r.k=k+1)/\((k<r.k->bs k=b0 k)->eff T bs E L k op=some r):=by
 unfold eff at h ⊢;split at h
 ·split at h
  ·rename_i s s' h1 h2;refine⟨.inl ?_,λ_=>by first | exact h | (rw[h1,h2];exact h) | (simp only[h1,h2];exact h)⟩;unfold a3l at h
   (repeat' split at h)<;>first | (cases h;done) | (injection h with h;subst h;rfl)
  ·cases h
 ·split at h
  ·rename_i h1;split at h
   ·rename_i h2;injection h with h;subst h;exact⟨.inr rfl,λhb=>by simp only[h1,hb (Nat.lt_succ_self k),h2]⟩
   ·cases h
  ·cases h
 ·split at h
  ·rename_i h1;split at h
   ·rename_i h2;injection h with h;subst h;exact⟨.inr rfl,λhb=>by simp only[h1,hb (Nat.lt_succ_self k),h2]⟩
   ·cases h
  ·cases h
 ·unfold X4 at h ⊢;split at h
  ·rename_i h1 h2;split at h
   ·rename_i h3;split at h
    ·rename_i h4 h5 h6;split at h
     ·rename_i h7;injection h with h;subst h;exact⟨.inr rfl,λhb=>by simp only[h1,h2,h3,h4,h5,h6,hb (Nat.lt_succ_self k),h7]⟩
     ·cases h
    ·cases h
   ·cases h
  ·cases h
 ·split at h
  ·rename_i h2;injection h with h;subst h;exact⟨.inr rfl,λhb=>by rw[hb (Nat.lt_succ_self k)];simp only[h2]⟩
  ·cases h
 ·cases h
theorem L8 {T:Tab} {N:Nat} {b0 bs:Nat->Nat} {ops:List Oper} {C:Cl} {l:Bool} {i k:Nat} {E:Env} {L:List Atom} {r:SR} (h:S9 T N b0 ops C l i E L k=some r):(r.k=k\/r.k=k+1)/\((k<r.k->bs k=b0 k)->S9 T N bs ops C l i E L k=some r):=by
 unfold S9 at h ⊢;split at h
 ·rename_i o ho;split at h
  ·rename_i g hg;split at h
   ·rename_i q hq;split at h
    ·rename_i E' hE;injection h with h;subst h;exact⟨.inl rfl,λ_=>by simp only[ho,hg,hq,hE]⟩
    ·cases h
   ·rename_i hq;split at h
    ·split at h
     ·rename_i q hq2;split at h
      ·rename_i E' hE;injection h with h;subst h;obtain⟨c1,c2⟩:=b1Z (bs:=bs) hq2;exact⟨c1,λhb=>by simp only[ho,hg,hq,c2 hb,hE]⟩
      ·cases h
     ·cases h
    ·cases h
  ·cases h
 ·cases h
def b2K {α:Type}:List Prop->(List Prop->α)->α
 | [],f=>f []
 | p::r,f=>b2K r λl=>f (p::l)
theorem a3b {α:Type}:∀(l:List Prop) (f:List Prop->α),b2K l f=f l
 | [],f=>rfl
 | p::r,f=>by rw[b2K,a3b r]
structure RS where
 K:List KI
 E:Env
 L:List Atom
 ob:List Prop
def run (T:Tab) (N:Nat) (bs:Nat->Nat):Nat->List KI->Env->List Atom->List Prop->Nat->RS
 | 0,K,E,L,ob,_=>⟨K,E,L,ob⟩
 | n+1,K,E,L,ob,k=>match K with
  | .blk _::K'=>run T N bs n K' E L ob k
  | .code (.seq x y)::K'=>run T N bs n (.code x:: .code y::K') E L ob k
  | .code .skip::K'=>run T N bs n K' E L ob k
  | .code (.block id c)::K'=>run T N bs n (.code c:: .blk id::K') E L ob k
  | .code (.exit id)::K'=>match a4w id K' with
   | some K2=>run T N bs n K2 E L ob k
   | none=>⟨.code (.exit id)::K',E,L,ob⟩
  | .code (.region _ ops false)::K'=>run T N bs n (.reg ops [] (PT.seq 0 ops.size)::K') E L ob k
  | .reg _ _ .done::K'=>run T N bs n K' E L ob k
  | .reg ops C (.take p i t)::K'=>match a0a T N ops.toList C p i E L k with
   | some ⟨E',L',ob',k'⟩=>b2K (ob'++ob) λob2=>run T N bs n (.reg ops C t::K') E' L' ob2 k'
   | none=>⟨.reg ops C (.take p i t)::K',E,L,ob⟩
  | .reg ops C (.alt l i t .non)::K'=>match S9 T N bs ops.toList C l i E L k with
   | some ⟨E',L',ob',k'⟩=>b2K (ob'++ob) λob2=>run T N bs n (.reg ops C t::K') E' L' ob2 k'
   | none=>⟨.reg ops C (.alt l i t .non)::K',E,L,ob⟩
  | K=>⟨K,E,L,ob⟩
theorem b1a {X:Cx} {T:Tab} (hT:TabOK X.P T):∀(n:Nat) (K:List KI) (E:Env) (L:List Atom) (ob:List Prop) (k:Nat) (b0:Nat->Nat),
  (∀bs:Nat->Nat,(∀i,i<k->bs i=b0 i)->Conj (run T X.n bs n K E L ob k).ob/\J X (run T X.n bs n K E L ob k).K (run T X.n bs n K E L ob k).E (run T X.n bs n K E L ob k).L)->Conj ob/\J X K E L:=by
 intro n
 induction n with
 | zero=>intro K E L ob k b0 h;exact h b0 (λ_ _=>rfl)
 | succ n ih=>
  intro K E L ob k b0 h;unfold run at h;split at h
  ·obtain⟨h1,h2⟩:=ih _ _ _ _ k b0 h;exact⟨h1,J.blk h2⟩
  ·obtain⟨h1,h2⟩:=ih _ _ _ _ k b0 h;exact⟨h1,J.seq h2⟩
  ·obtain⟨h1,h2⟩:=ih _ _ _ _ k b0 h;exact⟨h1,J.skip h2⟩
  ·obtain⟨h1,h2⟩:=ih _ _ _ _ k b0 h;exact⟨h1,J.block h2⟩
  ·rename_i id K';cases hx:a4w id K' with
   | some K2=>simp only[hx]at h;obtain⟨h1,h2⟩:=ih _ _ _ _ k b0 h;exact⟨h1,J.exit hx h2⟩
   | none=>simp only[hx]at h;exact h b0 (λ_ _=>rfl)
  ·obtain⟨h1,h2⟩:=ih _ _ _ _ k b0 h;exact⟨h1,J.code_reg h2⟩
  ·obtain⟨h1,h2⟩:=ih _ _ _ _ k b0 h;exact⟨h1,J.reg_done h2⟩
  ·rename_i ops C p i t K';cases hs:a0a T X.n ops.toList C p i E L k with
   | none=>simp only[hs]at h;exact h b0 (λ_ _=>rfl)
   | some r=>
    obtain⟨E',L',ob',k'⟩:=r;simp only[hs,a3b]at h;have hk:k'=k:=by
     unfold a0a at hs
     (repeat' split at hs)<;>first | (cases hs;done) | (injection hs with hs;injection hs with _ _ _ e;exact e.symm)
    subst hk;obtain⟨h1,h2⟩:=ih _ _ _ _ k' b0 h;obtain⟨o2,o1⟩:=Conj.app h1;refine⟨o1,λa w hx he hsp=>?_⟩;obtain⟨e1,_,o,ho,hy⟩:=a4S (P:=X.P) hT hs o2;obtain⟨v,y1,y2⟩:=hy a he;simp only at e1;subst e1;exact⟨o,v,ho,y1,h2 _ w hx y2 hsp⟩
  ·rename_i ops C l i t K';refine⟨?_,λa w hx he hsp=>?_⟩
   ·have:=h b0 (λ_ _=>rfl);cases hs:S9 T X.n b0 ops.toList C l i E L k with
    | none=>simp only[hs]at this;exact this.1
    | some r=>
     obtain⟨E',L',ob',k'⟩:=r;have hk:k<=k':=by rcases(L8 (bs:=b0) hs).1 with e | e<;>simp only at e<;>omega
     have h':∀bs:Nat->Nat,(∀i,i<k'->bs i=b0 i)->Conj (run T X.n bs n (.reg ops C t::K') E' L' (ob'++ob) k').ob/\J X (run T X.n bs n (.reg ops C t::K') E' L' (ob'++ob) k').K (run T X.n bs n (.reg ops C t::K') E' L' (ob'++ob) k').E (run T X.n bs n (.reg ops C t::K') E' L' (ob'++ob) k').L:=λbs hb=>by
      have:=h bs (λi hi=>hb i (by omega));rw[(L8 (bs:=bs) hs).2 (λe=>hb k e)]at this;simpa only[a3b]using this
     exact(Conj.app (ih _ _ _ _ k' b0 h').1).2
   ·let b1:Nat->Nat:=λi=>if i=k then w.heap.size else b0 i
    have hb1:∀i,i<k->b1 i=b0 i:=λi hi=>by show(if i=k then _ else _)=_;rw[if_neg (by omega)]
    have hbk:b1 k=w.heap.size:=by show(if k=k then _ else _)=_;rw[if_pos rfl]
    cases hs:S9 T X.n b1 ops.toList C l i E L k with
    | none=>have:=h b1 hb1;simp only[hs]at this;exact this.2 a w hx he hsp
    | some r=>
     obtain⟨E',L',ob',k'⟩:=r;have hk:k<=k':=by rcases(L8 (bs:=b0) hs).1 with e | e<;>simp only at e<;>omega
     have h':∀bs:Nat->Nat,(∀i,i<k'->bs i=b1 i)->Conj (run T X.n bs n (.reg ops C t::K') E' L' (ob'++ob) k').ob/\J X (run T X.n bs n (.reg ops C t::K') E' L' (ob'++ob) k').K (run T X.n bs n (.reg ops C t::K') E' L' (ob'++ob) k').E (run T X.n bs n (.reg ops C t::K') E' L' (ob'++ob) k').L:=λbs hb=>by
      have:=h bs (λi hi=>(hb i (by omega)).trans (hb1 i hi));rw[(L8 (bs:=bs) hs).2 (λe=>hb k e)]at this;simpa only[a3b]using this
     obtain⟨h1,h2⟩:=ih _ _ _ _ k' b1 h';obtain⟨o,ho,hstep⟩:=a7o (P:=X.P) hT hs (Conj.app h1).1;exact⟨⟨o,ho,(hstep a w he hsp (.inr hbk)).mono λa' w' ⟨q1,q2,q3,q4⟩=>⟨q1,h2 a' w' (hx.trans q4) q2 q3⟩⟩,trivial⟩
  ·exact h b0 (λ_ _=>rfl)
def a4V (E:Env):Env->List Prop
 | []=>[]
 | s::r=>(E.get s.k=some s)::a4V E r
theorem Env.sub_of {E:Env}:∀{E':Env},Conj (a4V E E')->E.sub E'
 | [],_,k,s,h=>by cases h
 | s'::r,hc,k,s,h=>by
  simp only[Env.get]at h;split at h
  ·rename_i e;have:=Nat.eq_of_beq_eq_true e;injection h with h;subst h;rw[<- this];exact hc.1
  ·exact Env.sub_of hc.2 k s h
structure IsCx (X:Cx) (P:Program) (rs:List ResultVar) (N:Nat) (F:HP) (Post:Value->List Atom->Prop):Prop where
 hP:X.P=P
 hrs:X.fn.results.toList=rs
 hN:X.n=N
 hR:X.R=λe w'=>∃v As,e= .returned v/\Post v As/\Sep (.hp F::As) (hl w')/\Ext X.w0 w'
def a2R:List Nat->List Value->List Nat->Env
 | k::ks,v::r,[]=>⟨k,v,0, .tt⟩::a2R ks r []
 | k::ks,v::r,t::ts=>⟨k,v,t, .tt⟩::a2R ks r ts
 | _,_,_=>[]
def keys:List Nat:=[0,1,2,3,4,5,6,7,8,9,10,11]
def b9i:List Nat->Nat->Prop
 | [],_=>True
 | k::ks,n=>k=n/\b9i ks (n+1)
theorem a6d:∀(l:List Value) (k:Nat) (ks:List Nat) (ts:List Nat) (j:Nat) (s:Slot),b9i ks k->(a2R ks l ts).get j=some s->∃i,j=k+i/\l[i]? =some s.val
 | [],k,ks,ts,j,s,_,h=>by cases ks<;>simp[a2R,Env.get]at h
 | v::r,k,[],ts,j,s,_,h=>by simp[a2R,Env.get]at h
 | v::r,k,k'::ks,ts,j,s,hr,h=>by
  have key:∀(t:Nat) (ts':List Nat),Env.get (⟨k',v,t, .tt⟩::a2R ks r ts') j=some s->∃i,j=k+i/\(v::r)[i]? =some s.val:=by
   intro t ts' h;simp only[Env.get]at h;split at h
   ·rename_i e;have:=Nat.eq_of_beq_eq_true e;injection h with h;subst h;exact⟨0,by rw[<- this,hr.1];rfl,by simp[Slot.val,G.on]⟩
   ·obtain⟨i,e1,e2⟩:=a6d r (k+1) ks ts' j s hr.2 h;exact⟨i+1,by omega,by simpa using e2⟩
  cases ts with
  | nil=>exact key _ _ h
  | cons t ts=>exact key _ _ h
theorem Fn.enter {P:Program} {f:FuncId} {args:List Value} {Pre:List Atom} {Post:Value->List Atom->Prop} {fn:Func} {c:Code} {N:Nat} (tags:List Nat) (hf:P.funcs[f]? =some fn) (hb:fn.body=some c) (hN:fn.ntmps=N) (hl:Nat.ble args.length N=true)
  (h:∀(X:Cx) (F:HP),IsCx X P fn.results.toList N F Post->J X [.code c] (a2R keys args tags) (.hp F::Pre)):Fn P f args Pre Post:=by
 intro F w hs;have hle:=Nat.le_of_ble_eq_true hl;have hX:IsCx ⟨P,fn,N,λe w'=>∃v As,e= .returned v/\Post v As/\Sep (.hp F::As) (Go.Proofs.YtgkpkpbnonmopaaGreat.hl w')/\Ext w w',w⟩ P fn.results.toList N F Post:=⟨rfl,rfl,rfl,rfl⟩;have hJ:=h _ F hX;refine calls_of_wp hf hb ?_;refine hJ {tmps:=args.toArray++Array.replicate (fn.ntmps-args.toArray.size) undef,defers:=[]} w (Ext.refl w) ⟨by simp;omega,rfl,λk s hk=>?_⟩ hs;obtain⟨i,e1,e2⟩:=a6d args 0 keys tags k s ⟨rfl,rfl,rfl,rfl,rfl,rfl,rfl,rfl,rfl,rfl,rfl,rfl,trivial⟩ hk;have hi:i<args.length:=(List.getElem?_eq_some_iff.1 e2).1;have:k=i:=by omega
 subst this;rw[Array.getElem?_append,if_pos (by simpa using hi)];simpa using e2
section
variable {X : Cx} {P : Program} {T : Tab} {K : List KI} {E : Env} {L : List Atom} {N : Nat} {F : HP} {Post : Value → List Atom → Prop} {rs : List ResultVar}
theorem J.run (hX:IsCx X P rs N F Post) (hT:TabOK P T) (n:Nat) {K':(Nat->Nat)->List KI} {E':(Nat->Nat)->Env} {L':(Nat->Nat)->List Atom} {ob:(Nat->Nat)->List Prop}
  (h:∀bs,Go.Proofs.YtgkpkpbnonmopaaGreat.run T N bs n K E L [] 0=⟨K' bs,E' bs,L' bs,ob bs⟩) (hob:∀bs,Conj (ob bs)) (hJ:∀bs,J X (K' bs) (E' bs) (L' bs)):J X K E L:=by
 have hT':TabOK X.P T:=by rw[hX.hP];exact hT
 refine(b1a hT' n K E L [] 0 (λ_=>0) λbs _=>?_).2;rw[hX.hN,h bs];exact⟨hob bs,hJ bs⟩
theorem J.r (hX:IsCx X P rs N F Post) (hT:TabOK P T) (n:Nat) {K':(Nat->Nat)->List KI} {E':(Nat->Nat)->Env} {L':(Nat->Nat)->List Atom} {ob:(Nat->Nat)->List Prop}
  (h:∀bs,Go.Proofs.YtgkpkpbnonmopaaGreat.run T N bs n K E L [] 0=⟨K' bs,E' bs,L' bs,ob bs⟩) (hJ:∀bs,J X (K' bs) (E' bs) (L' bs)) (hob:∀bs,Conj (ob bs):=by intro bs;(repeat' (first | exact Conj.nil | refine Conj.cons ?_ ?_ | omega | exact hq0 | (simpa using hq0) | (exactλh=>h) | exact rfl | (intro hq;have hq0:=hq;try simp only[Bool.and_eq_true,Bool.or_eq_true,decide_eq_true_eq,Bool.not_eq_true',decide_eq_false_iff_not]at hq) | (simp;done) | (simp;omega) | decide))):J X K E L:=J.run hX hT n h hob hJ
theorem J.loopN {c:Code} {α:Type} (I:α->Prop) (Ei:α->Env) (is:List Nat) (As:α->List Atom) (μ:α->Nat) (x0:α) {Li:α->List Atom} (h0:I x0) (hE:Conj (a4V E (Ei x0))) (ok:x6 L is=true) (hA:q9 L is=As x0) (hLi:∀x,O0 L is (As x)=some (Li x))
  (round:∀x,I x->J X (.code c:: .stop (λa w=>Ext X.w0 w/\∃x',I x'/\μ x'<μ x/\EnvOK X.n (Ei x') a/\Sep (Li x') (hl w))::K) (Ei x) (Li x)):J X (.code (.loop c)::K) E L:=
 J.loop I Ei Li μ x0 h0 (Env.sub_of hE) (λh s=>by
  have:=s.turn1 is ok (As:=As x0) (λh' s'=>by rw[hA]at s';exact s')
  rwa [<- a0C (K1 ok).1 (hLi x0)]at this) round
theorem J.lo {c:Code} {α:Type} (I:α->Prop) (Ei:α->Env) (is:List Nat) (As:α->List Atom) (μ:α->Nat) (x0:α) {Li:α->List Atom} (h0:I x0) (ok:x6 L is=true) (hA:q9 L is=As x0) (hLi:∀x,O0 L is (As x)=some (Li x))
  (round:∀x,I x->J X (.code c:: .stop (λa w=>Ext X.w0 w/\∃x',I x'/\μ x'<μ x/\EnvOK X.n (Ei x') a/\Sep (Li x') (hl w))::K) (Ei x) (Li x)) (hE:Conj (a4V E (Ei x0)):=by(repeat' (first | exact Conj.nil | refine Conj.cons ?_ ?_ | omega | exact hq0 | (simpa using hq0) | (exactλh=>h) | exact rfl | (intro hq;have hq0:=hq;try simp only[Bool.and_eq_true,Bool.or_eq_true,decide_eq_true_eq,Bool.not_eq_true',decide_eq_false_iff_not]at hq) | (simp;done) | (simp;omega) | decide))):J X (.code (.loop c)::K) E L:=J.loopN I Ei is As μ x0 h0 hE ok hA hLi round
theorem J.next {α:Type} {I:α->Prop} {Ei:α->Env} {Li:α->List Atom} {μ:α->Nat} {m:Nat} (x:α) (h1:I x) (h2:μ x<m) (h3:Conj (a4V E (Ei x))) (h4:∀h,Sep L h->Sep (Li x) h):
  J X (.stop (λa w=>Ext X.w0 w/\∃x',I x'/\μ x'<m/\EnvOK X.n (Ei x') a/\Sep (Li x') (hl w))::K) E L:=J.stop x h1 h2 (Env.sub_of h3) h4
theorem J.nx {α:Type} {I:α->Prop} {Ei:α->Env} {Li:α->List Atom} {μ:α->Nat} {m:Nat} (x:α) (h1:I x) (h2:μ x<m) (h4:∀h,Sep L h->Sep (Li x) h) (h3:Conj (a4V E (Ei x)):=by(repeat' (first | exact Conj.nil | refine Conj.cons ?_ ?_ | omega | exact hq0 | (simpa using hq0) | (exactλh=>h) | exact rfl | (intro hq;have hq0:=hq;try simp only[Bool.and_eq_true,Bool.or_eq_true,decide_eq_true_eq,Bool.not_eq_true',decide_eq_false_iff_not]at hq) | (simp;done) | (simp;omega) | decide))):
  J X (.stop (λa w=>Ext X.w0 w/\∃x',I x'/\μ x'<m/\EnvOK X.n (Ei x') a/\Sep (Li x') (hl w))::K) E L:=J.next x h1 h2 h3 h4
def b3d (T:Tab) (E:Env) (L:List Atom):ResultVar->Option (Value×List Prop)
 | .tmp t=>match E.get t with
  | some s=>some (s.v,L9 s)
  | none=>none
 | .cell p t=>match E.get p with
  | some s=>match a0S T L t s with
   | some r=>some (r.v,r.ob)
   | none=>none
  | none=>none
def a5s (T:Tab) (E:Env) (L:List Atom):List ResultVar->Option (List Value×List Prop)
 | []=>some ([],[])
 | r::l=>match b3d T E L r,a5s T E L l with
  | some (v,ob),some (vs,obs)=>some (v::vs,ob++obs)
  | _,_=>none
def a3L (T:Tab) (E:Env) (L:List Atom) (rs:List ResultVar):Option (Value×List Prop):=match a5s T E L rs with
 | some ([v],ob)=>some (v,ob)
 | some (vs,ob)=>some (.tuple vs.toArray,ob)
 | none=>none
theorem a4N {a:Act} {w:World}:∀K:List KI,bodyPost X.P X.fn X.R .ret a w->KW X K .ret a w
 | [],h=>h
 | .code c::K,h=>a4N K h
 | .reg o C t::K,h=>a4N K h
 | .blk id::K,h=>a4N K h
 | .stop R::K,h=>a4N K h
def b3e (tmps:Array Value):ResultVar->Sem Value
 | .tmp t=>pure (tmps.getD t undef)
 | .cell p t=>do loadVar t (<- asAddr (tmps.getD p undef))
theorem a9b (fn:Func) (tmps:Array Value):results fn tmps=(do
  let vs <- fn.results.mapM (b3e tmps)
  pure (if h:vs.size=1 then vs[0]else .tuple vs)):=rfl
theorem a5r (hT:TabOK P T) {a:Act} {w:World} {n:Nat} (he:EnvOK n E a) (hs:Sep L (hl w)):∀{rs:List ResultVar} {vs:List Value} {ob:List Prop},a5s T E L rs=some (vs,ob)->Conj ob->
  (rs.mapM (b3e a.tmps)).run P w= .ok vs w
 | [],vs,ob,h,_=>by simp only[a5s,Option.some.injEq,Prod.mk.injEq]at h;obtain⟨rfl,rfl⟩:=h;simp
 | r::l,vs,ob,h,hob=>by
  simp only[a5s]at h;split at h
  ·rename_i v ob1 vs' ob2 h1 h2;simp only[Option.some.injEq,Prod.mk.injEq]at h;obtain⟨rfl,rfl⟩:=h;obtain⟨o1,o2⟩:=Conj.app hob;have ih:=a5r hT he hs h2 o2;have h0:(b3e a.tmps r).run P w= .ok v w:=by
    cases r with
    | tmp t=>
     simp only[b3d]at h1;split at h1
     ·rename_i s hg;simp only[Option.some.injEq,Prod.mk.injEq]at h1;obtain⟨rfl,rfl⟩:=h1;have:=he.slot t s hg;rw[a0K o1]at this;simp[b3e,this]
     ·cases h1
    | cell p t=>
     simp only[b3d]at h1;split at h1
     ·rename_i s hg;split at h1
      ·rename_i q hq;simp only[Option.some.injEq,Prod.mk.injEq]at h1;obtain⟨rfl,rfl⟩:=h1;have hv:Conj (L9 s):=by
        unfold a0S at hq
        (repeat' split at hq)<;>first | (cases hq;done) | (injection hq with hq;subst hq;exact o1.2)
       have:=he.slot p s hg;rw[a0K hv]at this;have hr:=a4l (w:=w) hT hq o1 (λi A _ hA=>hs.get hA);have hsp:∃ad,s.v= .pointer (some ad):=by
        unfold a0S at hq;split at hq
        ·exact⟨_,rfl⟩
        ·cases hq
       obtain⟨ad,had⟩:=hsp;rw[had]at hr this;simp only[Instr.loadAt,Instr.sureAddr,Sem.run_bind,Sem.run_pure,Result.andThen_ok]at hr;simp[b3e,this,asAddr,hr]
      ·cases h1
     ·cases h1
   simp only[List.mapM_cons,Sem.run_bind,h0,Result.andThen_ok,ih,Sem.run_pure]
  ·cases h
theorem a7M (hT:TabOK P T) {a:Act} {w:World} {n:Nat} {fn:Func} (he:EnvOK n E a) (hs:Sep L (hl w)) {v:Value} {ob:List Prop} (h:a3L T E L fn.results.toList=some (v,ob)) (hob:Conj ob):(results fn a.tmps).run P w= .ok v w:=by
 have key:∀{vs:List Value} {ob':List Prop},a5s T E L fn.results.toList=some (vs,ob')->Conj ob'->(results fn a.tmps).run P w= .ok (if h:vs.toArray.size=1 then vs.toArray[0]else .tuple vs.toArray) w:=by
  intro vs ob' h1 h2;have:=a5r (P:=P) (w:=w) hT he hs h1 h2;rw[a9b,Array.mapM_eq_mapM_toList];simp only[map_eq_pure_bind,Sem.run_bind,this,Result.andThen_ok,Sem.run_pure]
 unfold a3L at h;split at h
 ·rename_i v' ob' h1;simp only[Option.some.injEq,Prod.mk.injEq]at h;obtain⟨rfl,rfl⟩:=h;rw[key h1 hob];simp
 ·rename_i vs ob' hne h1;simp only[Option.some.injEq,Prod.mk.injEq]at h;obtain⟨rfl,rfl⟩:=h;rw[key h1 hob];have:vs.toArray.size≠1:=by
   intro e
   match vs,e with
   | [x],_=>exact hne x rfl
  rw[dif_neg this]
 ·cases h
theorem Sep.sub {h:Hl} (s:Sep L h) (is:List Nat) (ok:x6 L is=true):Sep (q9 L is) h:=by
 obtain⟨own,hw⟩:=s.split ok;exact⟨λb=>own b-1,λj A hA=>Atom.up (λb o hb=>by
  rw[res_some]at hb ⊢;exact⟨by show own b-1=j;omega,hb.2⟩) (hw (j+1) A (by simpa using hA))⟩
theorem a7L (hX:IsCx X P rs N F Post) (hT:TabOK P T) {v:Value} {ob:List Prop} (is:List Nat) (h:a3L T E L rs=some (v,ob)) (hob:Conj ob) (ok:x6 L (0::is)=true) (h0:n9 L 0=some (.hp F)) (hP:Post v (q9 L is)) {a:Act} {w:World} (hx:Ext X.w0 w) (he:EnvOK X.n E a) (hs:Sep L (hl w)):
  a.defers=[]/\∃v,(results X.fn a.tmps).run X.P w= .ok v w/\X.R (.returned v) w:=by
 refine⟨he.defers,v,a7M (by rw[hX.hP];exact hT) he hs (by rw[hX.hrs];exact h) hob,?_⟩;rw[hX.hR];refine⟨v,q9 L is,rfl,hP,?_,hx⟩;have:=hs.sub (0::is) ok;rw[n5]at h0;simpa[q9,h0]using this
theorem J.ret (hX:IsCx X P rs N F Post) (hT:TabOK P T) {v:Value} {ob:List Prop} (is:List Nat) (h:a3L T E L rs=some (v,ob)) (hob:Conj ob) (ok:x6 L (0::is)=true) (h0:n9 L 0=some (.hp F)) (hP:Post v (q9 L is)):J X (.code .ret::K) E L:=
 λ_ _ hx he hs=>wp_ret (a4N K (a7L hX hT is h hob ok h0 hP hx he hs))
theorem J.fin (hX:IsCx X P rs N F Post) (hT:TabOK P T) {v:Value} {ob:List Prop} (is:List Nat) (h:a3L T E L rs=some (v,ob)) (hob:Conj ob) (ok:x6 L (0::is)=true) (h0:n9 L 0=some (.hp F)) (hP:Post v (q9 L is)):J X [] E L:=
 λ_ _ hx he hs=>a7L hX hT is h hob ok h0 hP hx he hs
theorem J.rt (hX:IsCx X P rs N F Post) (hT:TabOK P T) {v:Value} {ob:List Prop} (is:List Nat) (h:a3L T E L rs=some (v,ob)) (ok:x6 L (0::is)=true) (h0:n9 L 0=some (.hp F)) (hP:Post v (q9 L is)) (hob:Conj ob:=by(repeat' (first | exact Conj.nil | refine Conj.cons ?_ ?_ | omega | exact hq0 | (simpa using hq0) | (exactλh=>h) | exact rfl | (intro hq;have hq0:=hq;try simp only[Bool.and_eq_true,Bool.or_eq_true,decide_eq_true_eq,Bool.not_eq_true',decide_eq_false_iff_not]at hq) | (simp;done) | (simp;omega) | decide))):J X (.code .ret::K) E L:=J.ret hX hT is h hob ok h0 hP
theorem J.fi (hX:IsCx X P rs N F Post) (hT:TabOK P T) {v:Value} {ob:List Prop} (is:List Nat) (h:a3L T E L rs=some (v,ob)) (ok:x6 L (0::is)=true) (h0:n9 L 0=some (.hp F)) (hP:Post v (q9 L is)) (hob:Conj ob:=by(repeat' (first | exact Conj.nil | refine Conj.cons ?_ ?_ | omega | exact hq0 | (simpa using hq0) | (exactλh=>h) | exact rfl | (intro hq;have hq0:=hq;try simp only[Bool.and_eq_true,Bool.or_eq_true,decide_eq_true_eq,Bool.not_eq_true',decide_eq_false_iff_not]at hq) | (simp;done) | (simp;omega) | decide))):J X [] E L:=J.fin hX hT is h hob ok h0 hP
def a4H (E:Env) (op:Op):Option (FuncId×List Value×List Prop):=match op with
 | .call ⟨.value f,args,_⟩=>match ev E f,slots E args.toList with
  | some ⟨k, .func (.func g) fs cs,t,gg⟩,some l=>some (g,fs.toList++(vals l++cs.toList),L9 ⟨k, .func (.func g) fs cs,t,gg⟩++P7 l)
  | _,_=>none
 | _=>none
def n6 (P:Program) (f:FuncId):Bool:=match P.funcs[f]? with
 | some fn => fn.body.isSome && fn.name != "runtime.NumGoroutine"
 | none=>false
theorem b2e {f:FuncId} {vs:List Value} {ob:List Prop} {o:Oper} {a:Act} {w:World} {n:Nat} (he:EnvOK n E a) (hf:n6 P f=true) (h:a4H E o.op=some (f,vs,ob)) (hob:Conj ob):(execOp a.eval o).run P w= .ok (.enter f vs.toArray) w:=by
 unfold a4H at h;split at h
 ·rename_i fo args ts hop;split at h
  ·rename_i k g fs cs t gg l h1 h2;simp only[Option.some.injEq,Prod.mk.injEq]at h;obtain⟨rfl,rfl,rfl⟩:=h;obtain⟨o1,o2⟩:=Conj.app hob;have e1:=evs he h1 o1;have e2:=D0 he h2 o2;have e3:args.map a.eval=(vals l).toArray:=by apply Array.toList_inj.1;rw[Array.toList_map,e2]
   unfold n6 at hf;split at hf
   ·rename_i fn hfn;simp only[Bool.and_eq_true,Option.isSome_iff_exists,bne_iff_ne,ne_eq]at hf;obtain⟨⟨c,hc⟩,hn⟩:=hf;have hvs:(fs++(vals l).toArray++cs)=(fs.toList++(vals l++cs.toList)).toArray:=by
     apply Array.toList_inj.1;simp
    simp[execOp,hop,resolve,e1,e3,Deferred.ofValue,invoke,callFunc,hfn,hn,hc,hvs]
   ·cases hf
  ·cases h
 ·cases h
theorem J.call (hX:IsCx X P rs N F Post) {ops:Array Oper} {C:Cl} {l:Bool} {i:Nat} {t:PT} {o:Oper} {g:G} {f:FuncId} {vs:List Value} {ob:List Prop} {Pre:List Atom} {Po:Value->List Atom->Prop} {E':Value->Env}
  (hf:n6 P f=true) (c:Fn P f vs Pre Po) (is:List Nat) (tag:Nat) (ho:n9 ops.toList i=some o) (hg:gd ops.toList E o=some g) (hgo:g.on=true) (hc:a4H E o.op=some (f,vs,ob)) (hob:Conj ob) (ok:x6 L is=true) (hp:q9 L is=Pre)
  (hd:∀v,D7 N o.dst v tag .tt E=some (E' v)) (hJ:∀v As,Po v As->∃L',O0 L is As=some L'/\Conj (t8 l C L')/\J X (.reg ops C t::K) (E' v) L'):J X (.reg ops C (.alt l i t .non)::K) E L:=by
 intro a w hx he hs;rw[n5]at ho;have ho':ops[i]? =some o:=by simpa using ho
 refine⟨⟨o,ho',?_⟩,trivial⟩;have hw:=O8 he hg;unfold sOp;rw[if_pos (by rw[hw];exact hgo),b2e (P:=X.P) he (by rw[hX.hP];exact hf) hc hob];have hsp:=hs.split ok;rw[hp]at hsp;have hcall:=c (HP.of (J9 L is)) w hsp;rw[<- hX.hP]at hcall;refine Calls.mono hcall λe w' ⟨v,As,he',hpo,hs',hx'⟩=>⟨v,he',?_⟩;have hs2:=Sep.back ok hs';obtain⟨L',j0,j1,j2⟩:=hJ v As hpo;rw[<- a0C (K1 ok).1 j0]at hs2;exact⟨A4 j1 hs2,j2 _ w' (hx.trans hx') (B8 he (by rw[hX.hN];exact hd v) v rfl) hs2⟩
theorem J.ca (hX:IsCx X P rs N F Post) {ops:Array Oper} {C:Cl} {l:Bool} {i:Nat} {t:PT} {o:Oper} {g:G} {f:FuncId} {vs:List Value} {ob:List Prop} {Pre:List Atom} {Po:Value->List Atom->Prop} {E':Value->Env}
  (hf:n6 P f=true) (c:Fn P f vs Pre Po) (is:List Nat) (tag:Nat) (ho:n9 ops.toList i=some o) (hg:gd ops.toList E o=some g) (hgo:g.on=true) (hc:a4H E o.op=some (f,vs,ob)) (ok:x6 L is=true) (hp:q9 L is=Pre)
  (hd:∀v,D7 N o.dst v tag .tt E=some (E' v)) (hJ:∀v As,Po v As->∃L',O0 L is As=some L'/\Conj (t8 l C L')/\J X (.reg ops C t::K) (E' v) L') (hob:Conj ob:=by(repeat' (first | exact Conj.nil | refine Conj.cons ?_ ?_ | omega | exact hq0 | (simpa using hq0) | (exactλh=>h) | exact rfl | (intro hq;have hq0:=hq;try simp only[Bool.and_eq_true,Bool.or_eq_true,decide_eq_true_eq,Bool.not_eq_true',decide_eq_false_iff_not]at hq) | (simp;done) | (simp;omega) | decide))):J X (.reg ops C (.alt l i t .non)::K) E L:=J.call hX hf c is tag ho hg hgo hc hob ok hp hd hJ
theorem J.gcase (hX:IsCx X P rs N F Post) {ops:Array Oper} {C:Cl} {l:Bool} {i:Nat} {t:PT} {o:Oper} {b:Bool} {E':Env} (ho:n9 ops.toList i=some o) (hg:gd ops.toList E o=some (.when b)) (hd:D7 N o.dst undef 0 (.when false) E=some E') (hst:Conj (t8 l C L))
  (h1:b=true->J X (.reg ops C (.alt l i t .non)::K) E L) (h2:b=false->J X (.reg ops C t::K) E' L):J X (.reg ops C (.alt l i t .non)::K) E L:=by
 intro a w hx he hs;cases b with
 | true=>exact h1 rfl a w hx he hs
 | false=>
  rw[n5]at ho;have ho':ops[i]? =some o:=by simpa using ho
  refine⟨⟨o,ho',?_⟩,trivial⟩;have hw:=O8 he hg;unfold sOp;rw[if_neg (by rw[hw];simp[G.on])];exact⟨A4 hst hs,h2 rfl _ w hx (B8 he (by rw[hX.hN];exact hd) _ rfl) hs⟩
theorem J.op (hX:IsCx X P rs N F Post) {ops:Array Oper} {C:Cl} {l:Bool} {i:Nat} {t:PT} {o:Oper} {g:G} {S:Value->List Atom->Prop} {E':Value->Env} (tag:Nat) (ho:n9 ops.toList i=some o) (hg:gd ops.toList E o=some g) (hgo:g.on=true)
  (hr:∀a w,EnvOK N E a->Sep L (hl w)->∃v L' nv w',S v L'/\(execOp a.eval o).run P w= .ok nv w'/\(nv= .value v\/(nv= .skip/\v=undef))/\Sep L' (hl w')/\Ext w w')
  (hd:∀v,D7 N o.dst v tag .tt E=some (E' v)) (hJ:∀v L',S v L'->Conj (t8 l C L')/\J X (.reg ops C t::K) (E' v) L'):J X (.reg ops C (.alt l i t .non)::K) E L:=by
 intro a w hx he hs;rw[n5]at ho;have ho':ops[i]? =some o:=by simpa using ho
 refine⟨⟨o,ho',?_⟩,trivial⟩;have hw:=O8 he hg;have he2:=he;rw[hX.hN]at he2;obtain⟨v,L',nv,w',r0,r1,r2,r3,r4⟩:=hr a w he2 hs;unfold sOp;rw[<- hX.hP]at r1;rw[if_pos (by rw[hw];exact hgo),r1];obtain⟨j1,j2⟩:=hJ v L' r0;have he3:=B8 he2 (hd v) v rfl;rw[<- hX.hN]at he3;rcases r2 with rfl | ⟨rfl,rfl⟩
 ·exact⟨A4 j1 r3,j2 _ w' (hx.trans r4) he3 r3⟩
 ·exact⟨A4 j1 r3,j2 _ w' (hx.trans r4) he3 r3⟩
theorem J.val (hX:IsCx X P rs N F Post) {ops:Array Oper} {C:Cl} {l:Bool} {i:Nat} {t:PT} {o:Oper} {g:G} {E':Env} (v:Value) (tag:Nat) (ho:n9 ops.toList i=some o) (hg:gd ops.toList E o=some g)
  (hr:g.on=true->∀a w,EnvOK N E a->Sep L (hl w)->(execOp a.eval o).run P w= .ok (.value v) w)
  (hd:D7 N o.dst v tag g E=some E') (hst:Conj (t8 l C L)) (hJ:J X (.reg ops C t::K) E' L):J X (.reg ops C (.alt l i t .non)::K) E L:=by
 intro a w hx he hs;rw[n5]at ho;have ho':ops[i]? =some o:=by simpa using ho
 refine⟨⟨o,ho',?_⟩,trivial⟩;have hw:=O8 he hg;have he2:=he;rw[hX.hN]at he2;have he3:=B8 he2 hd _ rfl;rw[<- hX.hN]at he3;unfold sOp;cases hgo:g.on with
 | true=>
  have hr1:=hr hgo a w he2 hs;rw[<- hX.hP]at hr1;rw[if_pos (by rw[hw];exact hgo),hr1];rw[hgo]at he3;exact⟨A4 hst hs,hJ _ w hx he3 hs⟩
 | false=>
  rw[if_neg (by rw[hw,hgo];simp)];rw[hgo]at he3;exact⟨A4 hst hs,hJ _ w hx he3 hs⟩
theorem J.valT (hX:IsCx X P rs N F Post) {ops:Array Oper} {C:Cl} {p:Bool} {i:Nat} {t:PT} {o:Oper} {g:G} {E':Env} (v:Value) (tag:Nat) (ho:n9 ops.toList i=some o) (hg:gd ops.toList E o=some g)
  (hr:g.on=true->∀a w,EnvOK N E a->(p=false->CAt C w)->(execOp a.eval o).run P w= .ok (.value v) w)
  (hd:D7 N o.dst v tag g E=some E') (hJ:J X (.reg ops C t::K) E' L):J X (.reg ops C (.take p i t)::K) E L:=by
 intro a w hx he hs;rw[n5]at ho;have ho':ops[i]? =some o:=by simpa using ho
 have hw:=O8 he hg;have he2:=he;rw[hX.hN]at he2;have he3:=B8 he2 hd _ rfl;rw[<- hX.hN]at he3;cases hgo:g.on with
 | true=>
  rw[hgo]at he3;exact⟨o,v,ho', .inl ⟨by rw[hw];exact hgo,λw' hC=>by rw[hX.hP];exact hr hgo a w' he2 hC⟩,hJ _ w hx he3 hs⟩
 | false=>
  rw[hgo]at he3;exact⟨o,undef,ho', .inr ⟨by rw[hw];exact hgo,rfl⟩,hJ _ w hx he3 hs⟩
theorem J.slot {k:Nat} {s s':Slot} (h:E.get k=some s) (hk:s'.k=k) (hv:s'.val=s.val) (hJ:J X K (s'::E) L):J X K E L:=by
 intro a w hx he hs;refine hJ a w hx ⟨he.size,he.defers,λj u hu=>?_⟩ hs;simp only[Env.get]at hu;split at hu
 ·rename_i e;have:=Nat.eq_of_beq_eq_true e;injection hu with hu;subst hu;rw[<- this,hk,hv];exact he.slot k s h
 ·exact he.slot j u hu
end
theorem Fn.of_below {P:Program} {f:FuncId} {args:List Value} {v:Value} (h:∀w:World,Calls P f args.toArray w λe w'=>e= .returned v/\Below w.heap.size w w'):Fn P f args [] (λu As=>u=v/\As=[]):=λF w hs=>
 (h w).mono λe w' ⟨he,hb⟩=>⟨v,[],he,⟨rfl,rfl⟩,hs.up (λb o hb'=>by
  have hlt:b<w.heap.size:=by
   rcases Nat.lt_or_ge b w.heap.size with hlt | hge
   ·exact hlt
   ·simp only[hl]at hb';rw[Array.getElem?_eq_none hge]at hb';cases hb'
  exact(hb.block b hlt).trans hb'),⟨hb.os,hb.tape,hb.output,hb.size⟩⟩
theorem Fn.of_same {P:Program} {f:FuncId} {args:List Value} {v:Value} (h:∀w:World,Calls P f args.toArray w λe w'=>e= .returned v/\w=w'):Fn P f args [] (λu As=>u=v/\As=[]):=λF w hs=>
 (h w).mono λe w' ⟨he,hb⟩=>by subst hb;exact⟨v,[],he,⟨rfl,rfl⟩,hs,Ext.refl _⟩
theorem Fn.of_drew {P:Program} {f:FuncId} {args:List Value} {v:Value} (h:∀w:World,Calls P f args.toArray w λe w'=>e= .returned v/\∃n,w'=w.drewN n):Fn P f args [] (λu As=>u=v/\As=[]):=λF w hs=>
 (h w).mono λe w' ⟨he,n,hb⟩=>by subst hb;exact⟨v,[],he,⟨rfl,rfl⟩,hs,⟨rfl,rfl,rfl,Nat.le_refl _⟩⟩
theorem Fn.mono {P:Program} {f:FuncId} {args:List Value} {Pre:List Atom} {Post Post':Value->List Atom->Prop} (h:Fn P f args Pre Post) (hp:∀v As,Post v As->Post' v As):Fn P f args Pre Post':=λF w hs=>
 (h F w hs).mono λ_ _ ⟨v,As,he,h1,h2,h3⟩=>⟨v,As,he,hp v As h1,h2,h3⟩

inductive Lk where
 | int (k:IntKind)
 | bool
def Lk.fits:Lk->Value->Prop
 | .int k, .int k' _=>k'=k
 | .bool, .bool _=>True
 | _,_=>False
def Fits:List Lk->List Value->Prop
 | [],[]=>True
 | k::ks,v::vs=>k.fits v/\Fits ks vs
 | _,_=>False
def a0X:Value->Value->Bool
 | .int _ a, .int _ b=>a==b
 | .bool a, .bool b=>a==b
 | _,_=>false
def j8:List Value->List Value->Bool
 | [],[]=>true
 | x::xs,y::ys=>a0X x y&&j8 xs ys
 | _,_=>false

theorem Fits.length:∀{ks:List Lk} {vs:List Value},Fits ks vs->vs.length=ks.length
 | [],[],_=>rfl
 | _::_,_::_,h=>by simpa using Fits.length h.2
 | [],_::_,h=>h.elim
 | _::_,[],h=>h.elim
theorem Fits.split:∀{a b:List Lk} {vs:List Value},Fits (a++b) vs->Fits a (vs.take a.length)/\Fits b (vs.drop a.length)
 | [],_,_,h=>⟨by trivial,h⟩
 | _::a,_,v::vs,h=>⟨⟨h.1,(Fits.split (a:=a) h.2).1⟩,(Fits.split (a:=a) h.2).2⟩
 | _::_,_,[],h=>h.elim
theorem Fits.append:∀{a b:List Lk} {xs ys:List Value},Fits a xs->Fits b ys->Fits (a++b) (xs++ys)
 | [],_,[],_,_,h=>h
 | _::a,_,_::_,_,h,h'=>⟨h.1,Fits.append (a:=a) h.2 h'⟩
 | [],_,_::_,_,h,_=>h.elim
 | _::_,_,[],_,h,_=>h.elim
theorem D3:∀{a b c d:List Value},a.length=c.length->j8 (a++b) (c++d)=(j8 a c&&j8 b d)
 | [],_,[],_,_=>rfl
 | x::a,b,y::c,d,h=>by simp only[List.cons_append,j8,D3 (a:=a) (c:=c) (by simpa using h),Bool.and_assoc]
 | [],_,_::_,_,h=>by simp at h
 | _::_,_,[],_,h=>by simp at h

def S8 (B1:TypeId->Option (List Lk)):List Field->Nat->Option (List Lk)
 | [],_=>some []
 | f::fs,off=>
  if f.name ≠ "_" ∧ f.offset = off then
   match B1 f.type with
   | some l=>match S8 B1 fs (off+l.length)with
    | some r=>some (l++r)
    | none=>none
   | none=>none
  else none
def B1 (P:Program):Nat->TypeId->Option (List Lk)
 | 0,_=>none
 | d+1,t=>
  match P.underlying t with
  | some .bool=>some [.bool]
  | some (.int k)=>some [.int k]
  | some (.struct fs)=>
   match S8 (B1 P d) fs.toList 0 with
   | some l=>if P.stoodInHeld t=false/\(P.info? t).map (·.size)=some l.length then some l else none
   | none=>none
  | some (.array n e)=>
   match B1 P d e with
   | some l=>if(P.info? e).map (·.size)=some l.length/\(P.info? t).map (·.size)=some (List.replicate n l).flatten.length then some (List.replicate n l).flatten else none
   | none=>none
  | _=>none

def mkV (P:Program) (t:TypeId) (cs:List Value):Value:=
 match P.underlying t with
 | some (.struct _) | some (.array _ _)=> .agg cs.toArray
 | _=>cs.headD undef

section
variable {P : Program}
theorem a0h {d:Nat} {t:TypeId} {l:List Lk} (h:B1 P d t=some l) (cs:List Value) (off:Nat) (hf:Fits l ((cs.drop off).take l.length)) (w:World):
  (part t cs.toArray off).run P w= .ok (mkV P t ((cs.drop off).take l.length)) w:=by
 cases d with
 | zero=>cases h
 | succ d=>
  unfold B1 at h;unfold mkV;cases hu:P.underlying t with
  | none=>rw[hu]at h;cases h
  | some u=>
   rw[hu]at h;cases u with
   | bool=>
    injection h with h;subst h;simp only[part,isAgg,Sem.run_bind,run_underlying hu,Result.andThen_ok,Sem.run_pure,Bool.false_eq_true,if_false];have hl:=hf.length;cases hd:cs.drop off with
    | nil=>rw[hd]at hl;simp at hl
    | cons v r=>
     have:cs[off]? =some v:=by
      have:=congrArg (·[0]?) hd;simpa using this
     simp[this]
   | int k=>
    injection h with h;subst h;simp only[part,isAgg,Sem.run_bind,run_underlying hu,Result.andThen_ok,Sem.run_pure,Bool.false_eq_true,if_false];have hl:=hf.length;cases hd:cs.drop off with
    | nil=>rw[hd]at hl;simp at hl
    | cons v r=>
     have:cs[off]? =some v:=by
      have:=congrArg (·[0]?) hd;simpa using this
     simp[this]
   | struct fs=>
    simp only at h;split at h
    ·split at h
     ·rename_i l' _ hc;injection h with h;subst h;cases hi:P.info? t with
      | none=>rw[hi]at hc;simp at hc
      | some i=>
       rw[hi]at hc;have hs:i.size=l'.length:=by simpa using hc.2
       simp only[part,isAgg,Sem.run_bind,run_underlying hu,Result.andThen_ok,Sem.run_pure,if_true,sizeOf,typeInfo,run_program,hi,hs];congr 2;simp[List.extract_eq_take_drop]
     ·cases h
    ·cases h
   | array n e=>
    simp only at h;split at h
    ·split at h
     ·rename_i l' _ hc;injection h with h;subst h;cases hi:P.info? t with
      | none=>rw[hi]at hc;simp at hc
      | some i=>
       rw[hi]at hc;have hs:i.size=(List.replicate n l').flatten.length:=by simpa using hc.2
       simp only[part,isAgg,Sem.run_bind,run_underlying hu,Result.andThen_ok,Sem.run_pure,if_true,sizeOf,typeInfo,run_program,hi,hs];congr 2;simp[List.extract_eq_take_drop]
     ·cases h
    ·cases h
   | _=>cases h

theorem a2J {t:TypeId} {fs:Array Field} (h:P.underlying t=some (.struct fs)):P.fieldsOf t=fs:=by simp[Program.fieldsOf,h]

theorem Y8 {d D:Nat} (ih:∀t l,B1 P d t=some l->∀xs ys,Fits l xs->Fits l ys->∀w,(Op.equalIn D t (mkV P t xs) (mkV P t ys)).run P w= .ok (j8 xs ys) w) (xs ys:List Value):
  ∀(fs:List Field) (off:Nat) (r:List Lk),S8 (B1 P d) fs off=some r->Fits r (xs.drop off)->Fits r (ys.drop off)->∀w,(Op.eqFields D xs.toArray ys.toArray fs).run P w= .ok (j8 (xs.drop off) (ys.drop off)) w
 | [],off,r,h,hx,hy,w=>by
  injection h with h;subst h;have h1:=List.eq_nil_of_length_eq_zero (Fits.length hx);have h2:=List.eq_nil_of_length_eq_zero (Fits.length hy);rw[h1,h2];simp[Op.eqFields,j8]
 | f::fs,off,r,h,hx,hy,w=>by
  unfold S8 at h;split at h
  ·rename_i hc;split at h
   ·rename_i l hl;split at h
    ·rename_i r' hr;injection h with h;subst h;obtain⟨hx1,hx2⟩:=Fits.split hx;obtain⟨hy1,hy2⟩:=Fits.split hy;rw[List.drop_drop]at hx2 hy2;have e:=Y8 ih xs ys fs (off+l.length) r' hr hx2 hy2;have lx:=Fits.length hx1;have ly:=Fits.length hy1;unfold Op.eqFields;rw[if_pos hc.1];simp only[Sem.run_bind,hc.2,a0h hl xs off hx1,a0h hl ys off hy1,Result.andThen_ok,ih _ _ hl _ _ hx1 hy1];have key:j8 (xs.drop off) (ys.drop off)=(j8 ((xs.drop off).take l.length) ((ys.drop off).take l.length)&&j8 (xs.drop (off+l.length)) (ys.drop (off+l.length))):=by
      conv=>lhs;rw[<- List.take_append_drop l.length (xs.drop off),<- List.take_append_drop l.length (ys.drop off)]
      rw[D3 (by rw[lx,ly]),List.drop_drop,List.drop_drop]
     rw[key];cases j8 ((xs.drop off).take l.length) ((ys.drop off).take l.length)
     ·simp
     ·simp only[Bool.not_true,Bool.false_eq_true,if_false,Bool.true_and];exact e w
    ·cases h
   ·cases h
  ·cases h

theorem a1z {e D m:Nat} {l:List Lk} (hm:m=l.length) (hpart:∀(cs:List Value) (off:Nat),Fits l ((cs.drop off).take l.length)->∀w,(part e cs.toArray off).run P w= .ok (mkV P e ((cs.drop off).take l.length)) w)
  (ih:∀xs ys,Fits l xs->Fits l ys->∀w,(Op.equalIn D e (mkV P e xs) (mkV P e ys)).run P w= .ok (j8 xs ys) w) (xs ys:List Value):
  ∀(k i:Nat),Fits (List.replicate k l).flatten (xs.drop (i*m))->Fits (List.replicate k l).flatten (ys.drop (i*m))->∀w,
   (forIn (List.range' i k) ((none,()):Option Bool×Unit) (λj (_:Option Bool×Unit)=>do
    let a <- part e xs.toArray (j*m)
    let b <- part e ys.toArray (j*m)
    let r <- Op.equalIn D e a b
    if(!r)=true then pure (ForInStep.done (some false,()))else do
     pure (ForInStep.yield (none,()))):Sem (Option Bool×Unit)).run P w= .ok (if j8 (xs.drop (i*m)) (ys.drop (i*m))then none else some false,()) w
 | 0,i,hx,hy,w=>by
  have h1:=List.eq_nil_of_length_eq_zero (Fits.length hx);have h2:=List.eq_nil_of_length_eq_zero (Fits.length hy);rw[h1,h2];simp[j8]
 | k+1,i,hx,hy,w=>by
  rw[List.replicate_succ,List.flatten_cons]at hx hy;obtain⟨hx1,hx2⟩:=Fits.split hx;obtain⟨hy1,hy2⟩:=Fits.split hy;rw[List.drop_drop]at hx2 hy2;have ei:i*m+l.length=(i+1)*m:=by rw[Nat.add_mul,hm];omega
  rw[ei]at hx2 hy2;have e':=a1z hm hpart ih xs ys k (i+1) hx2 hy2;have lx:=Fits.length hx1;have ly:=Fits.length hy1;rw[List.range'_succ,List.forIn_cons];simp only[Sem.run_bind,hpart xs _ hx1,hpart ys _ hy1,Result.andThen_ok,ih _ _ hx1 hy1];have key:j8 (xs.drop (i*m)) (ys.drop (i*m))=(j8 ((xs.drop (i*m)).take l.length) ((ys.drop (i*m)).take l.length)&&j8 (xs.drop ((i+1)*m)) (ys.drop ((i+1)*m))):=by
   conv=>lhs;rw[<- List.take_append_drop l.length (xs.drop (i*m)),<- List.take_append_drop l.length (ys.drop (i*m))]
   rw[D3 (by rw[lx,ly]),List.drop_drop,List.drop_drop,ei]
  rw[key];cases j8 ((xs.drop (i*m)).take l.length) ((ys.drop (i*m)).take l.length)
  ·simp
  ·simp only[Bool.not_true,Bool.false_eq_true,if_false,Bool.true_and,Sem.run_pure,Result.andThen_ok];exact e' w

theorem C0:∀(d:Nat) (t:TypeId) (l:List Lk),B1 P d t=some l->∀D,d<=D->∀xs ys,Fits l xs->Fits l ys->∀w,(Op.equalIn D t (mkV P t xs) (mkV P t ys)).run P w= .ok (j8 xs ys) w
 | 0,_,_,h,_,_,_,_,_,_,_=>by cases h
 | d+1,t,l,h,0,hD,_,_,_,_,_=>by omega
 | d+1,t,l,h,D+1,hD,xs,ys,hx,hy,w=>by
  have ih:=λt l h xs ys hx hy w=>C0 d t l h D (by omega) xs ys hx hy w;unfold B1 at h;unfold mkV;cases hu:P.underlying t with
  | none=>rw[hu]at h;cases h
  | some u=>
   rw[hu]at h;cases u with
   | bool=>
    injection h with h;subst h
    match xs,ys,hx,hy with
    | [.bool a],[.bool b],_,_=>simp[Op.equalIn,run_underlying hu,j8,a0X]
   | int k=>
    injection h with h;subst h
    match xs,ys,hx,hy with
    | [.int k1 a],[.int k2 b],h1,h2=>
     have e1:k1=k:=h1.1;have e2:k2=k:=h2.1;subst e1;subst e2;simp[Op.equalIn,run_underlying hu,j8,a0X]
   | struct fs=>
    simp only at h;split at h
    ·split at h
     ·rename_i l' hl hc;injection h with h;subst h;simp only;rw[run_equalIn_struct w D t _ _ (by rw[a2J hu];exact hu) hc.1,a2J hu];have:=Y8 (P:=P) (λt l h xs ys hx hy w=>ih t l h xs ys hx hy w) xs ys fs.toList 0 l' hl (by simpa using hx) (by simpa using hy) w;simpa using this
     ·cases h
    ·cases h
   | array n e=>
    simp only at h;split at h
    ·split at h
     ·rename_i l' hl hc;injection h with h;subst h;cases hi:P.info? e with
      | none=>rw[hi]at hc;simp at hc
      | some i=>
       rw[hi]at hc;have hs:i.size=l'.length:=by simpa using hc.1
       have key:=a1z (P:=P) (e:=e) (D:=D) (m:=i.size) (l:=l') hs (λcs off hf w=>a0h hl cs off hf w) (λxs ys hx hy w=>ih e l' hl xs ys hx hy w) xs ys n 0 (by simpa using hx) (by simpa using hy) w;simp only[Op.equalIn,Sem.run_bind,run_underlying hu,Result.andThen_ok,sizeOf,typeInfo,run_program,hi,Sem.run_pure];simp only[Nat.zero_mul,List.drop_zero]at key;rw[Std.Legacy.Range.forIn_eq_forIn_range'];simp only[Std.Legacy.Range.size,Nat.sub_zero,Nat.add_sub_cancel,Nat.div_one];rw[key];cases j8 xs ys<;>simp
     ·cases h
    ·cases h
   | _=>cases h

theorem a3K {t:TypeId} {l:List Lk} (h:B1 P 100 t=some l) {xs ys:List Value} (hx:Fits l xs) (hy:Fits l ys) (hagg:mkV P t xs= .agg xs.toArray) (hagg2:mkV P t ys= .agg ys.toArray) (w:World):
  (binOp .eql t (.agg xs.toArray) (.agg ys.toArray)).run P w= .ok (.bool (j8 xs ys)) w:=by
 rw[run_eql_struct,<- hagg,<- hagg2,C0 100 t l h 10000 (by omega) xs ys hx hy];rfl
theorem a3I {t:TypeId} {l:List Lk} (h:B1 P 100 t=some l) {xs ys:List Value} (hx:Fits l xs) (hy:Fits l ys) (hagg:mkV P t xs= .agg xs.toArray) (hagg2:mkV P t ys= .agg ys.toArray) (w:World):
  (binOp .neq t (.agg xs.toArray) (.agg ys.toArray)).run P w= .ok (.bool (!j8 xs ys)) w:=by
 rw[run_neq_struct,<- hagg,<- hagg2,C0 100 t l h 10000 (by omega) xs ys hx hy];rfl
end

theorem rgo {P:Program} {w:World} {r:Nat} {es:Array MapEntry} {clock:Nat} (h:w.heap[r]? =some (.map es clock)):(getObj r).run P w= .ok (.map es clock) w:=by simp[getObj,Sem.run,h]
theorem rso {P:Program} {w:World} {r:Nat} {es:Array MapEntry} {clock:Nat} (o:Obj) (h:w.heap[r]? =some (.map es clock)):(setObj r o).run P w= .ok () {w with heap:=w.heap.setIfInBounds r o}:=by simp[setObj,Sem.run,h]
structure KeyOk (P:Program) (T:TypeId) {K:Type} [DecidableEq K] (kv:K->Value):Prop where
 now:∃d,P.underlying T=some d/\∀a b,Instr.sameNow d (kv a) (kv b)=none\/Instr.sameNow d (kv a) (kv b)=some (decide (a=b))
 eq:∀a b w,(Op.equal T (kv a) (kv b)).run P w= .ok (decide (a=b)) w
 check:∀e a w,(Instr.checkKey e 10000 T (kv a)).run P w= .ok () w
 bits:∀a,Instr.sameBits 10000 (kv a) (kv a)=true

section
variable {P : Program} {K : Type} [DecidableEq K] {kv : K → Value}

def fi:List (K×Value)->K->Nat->Option (Nat×Value)
 | [],_,_=>none
 | x::l,k,i=>if k=x.1 then some (i,x.2)else fi l k (i+1)
def y5:List (K×Value)->K->Option Value
 | [],_=>none
 | x::l,k=>if k=x.1 then some x.2 else y5 l k
def O1:List (K×Value)->K->Value->List (K×Value)
 | [],k,v=>[(k,v)]
 | x::l,k,v=>if k=x.1 then(k,v)::l else x::O1 l k v
def a0Y:List (K×Value)->K->List (K×Value)
 | [],_=>[]
 | x::l,k=>if k=x.1 then l else x::a0Y l k

def a2T (w:World) (r:Nat) (kv:K->Value) (l:List (K×Value)):Prop:=
 ∃es clock,w.heap[r]? =some (.map es clock)/\es.toList.map (λe=>(e.key,e.val))=l.map (λx=>(kv x.1,x.2))/\(es.toList.map (·.born)).Nodup/\∀e∈es.toList,e.born<clock

theorem a4K (l:List (K×Value)) (k:K):∀i,(fi l k i).map (·.2)=y5 l k:=by
 induction l with
 | nil=>intro i;rfl
 | cons x l ih=>
  intro i;unfold fi y5;split
  ·rfl
  ·exact ih _

theorem a0c {T:TypeId} (hk:KeyOk P T kv) (k:K) (w:World):∀(es:List MapEntry) (l:List (K×Value)) (i:Nat),es.map (λe=>(e.key,e.val))=l.map (λx=>(kv x.1,x.2))->
  (Instr.findAsking T (kv k) es i).run P w= .ok (fi l k i) w
 | [],[],i,_=>by simp[Instr.findAsking,fi]
 | e::es,x::l,i,h=>by
  simp only[List.map_cons,List.cons.injEq,Prod.mk.injEq]at h;obtain⟨⟨h1,h2⟩,h3⟩:=h;have ih:=a0c hk k w es l (i+1) h3;unfold Instr.findAsking fi;rw[h1,h2]
  by_cases hh:k=x.1
  ·simp[Sem.run_bind,hk.eq,hh]
  ·simp[Sem.run_bind,hk.eq,hh,ih]
 | [],_::_,_,h=>by simp at h
 | _::_,[],_,h=>by simp at h

theorem a4s {d:TypeDesc} (hd:∀a b,Instr.sameNow d (kv a) (kv b)=none\/Instr.sameNow d (kv a) (kv b)=some (decide (a=b))) (k:K):∀(es:List MapEntry) (l:List (K×Value)) (i:Nat),
  es.map (λe=>(e.key,e.val))=l.map (λx=>(kv x.1,x.2))->Instr.findNow d (kv k) es i=none\/Instr.findNow d (kv k) es i=some (fi l k i)
 | [],[],i,_=> .inr rfl
 | e::es,x::l,i,h=>by
  simp only[List.map_cons,List.cons.injEq,Prod.mk.injEq]at h;obtain⟨⟨h1,h2⟩,h3⟩:=h;have ih:=a4s hd k es l (i+1) h3;unfold Instr.findNow fi;rw[h1,h2];rcases hd k x.1 with hs | hs
  ·rw[hs];exact .inl rfl
  ·rw[hs]
   by_cases hh:k=x.1
   ·simp[hh]
   ·simp[hh];exact ih
 | [],_::_,_,h=>by simp at h
 | _::_,[],_,h=>by simp at h

theorem O6 {T:TypeId} (hk:KeyOk P T kv) (k:K) (w:World) (es:List MapEntry) (l:List (K×Value)) (h:es.map (λe=>(e.key,e.val))=l.map (λx=>(kv x.1,x.2))):
  (Instr.findKey T (kv k) es).run P w= .ok (fi l k 0) w:=by
 obtain⟨d,hd,hn⟩:=hk.now;unfold Instr.findKey;rw[Sem.run_bind,run_underlying hd];rcases a4s hn k es l 0 h with h1 | h1
 ·simp only[Result.andThen_ok,h1];exact a0c hk k w es l 0 h
 ·simp only[Result.andThen_ok,h1];rfl

theorem a6v {MT T E:TypeId} (hk:KeyOk P T kv) (hm:P.underlying MT=some (.map T E)) {z:Value} (hz:∀w,(zeroValue E).run P w= .ok z w) {w:World} {r:Nat} {l:List (K×Value)} (h:a2T w r kv l) (k:K) (c:Bool):
  (Instr.lookup MT (.map (some r)) (kv k) c).run P w= .ok (if c then .tuple #[(y5 l k).getD z, .bool (y5 l k).isSome]else(y5 l k).getD z) w:=by
 obtain⟨es,clock,h1,h2,_,_⟩:=h;have hf:=O6 hk k w es.toList l h2;have ha:=a4K l k 0;unfold Instr.lookup;simp only[Sem.run_bind,run_underlying hm,Result.andThen_ok,rgo h1,Sem.run_pure,hk.check,hf];rw[<- ha];cases fi l k 0 with
 | none=>simp only[Sem.run_bind,hz,Result.andThen_ok,Sem.run_pure,Option.map_none,Option.getD_none,Option.isSome_none]
 | some x=>simp only[Sem.run_bind,Result.andThen_ok,Sem.run_pure,Option.map_some,Option.getD_some,Option.isSome_some]

theorem a4u (l:List (K×Value)) (k:K):∀i j v,fi l k i=some (j,v)->i<=j/\j<i+l.length:=by
 induction l with
 | nil=>intro i j v h;cases h
 | cons x l ih=>
  intro i j v h;unfold fi at h;split at h
  ·injection h with h;injection h with h1 h2;subst h1;simp
  ·have:=ih _ _ _ h;simp;omega

theorem a0P:∀(es:List MapEntry) (l:List (K×Value)) (k:K) (v:Value) (i j:Nat) (u:Value),es.map (λe=>(e.key,e.val))=l.map (λx=>(kv x.1,x.2))->fi l k i=some (j,u)->
  (es.modify (j-i) λe=>{e with key:=kv k,val:=v}).map (λe=>(e.key,e.val))=(O1 l k v).map (λx=>(kv x.1,x.2))/\(es.modify (j-i) λe=>{e with key:=kv k,val:=v}).map (·.born)=es.map (·.born)
 | [],[],k,v,i,j,u,_,h=>by cases h
 | e::es,x::l,k,v,i,j,u,h,hf=>by
  simp only[List.map_cons,List.cons.injEq,Prod.mk.injEq]at h;obtain⟨⟨h1,h2⟩,h3⟩:=h;unfold fi at hf;split at hf
  ·rename_i hh;injection hf with hf;injection hf with e1 e2;subst e1;simp[O1,hh,h3]
  ·rename_i hh;have hl:=a4u _ _ _ _ _ hf;have ih:=a0P es l k v (i+1) j u h3 hf;obtain⟨m,hm⟩:∃m,j-i=m+1:=⟨j-(i+1),by omega⟩;have hm2:j-(i+1)=m:=by omega
   rw[hm2]at ih;simp[hm,O1,hh,h1,h2,ih.1,ih.2]
 | [],_::_,_,_,_,_,_,h,_=>by simp at h
 | _::_,[],_,_,_,_,_,h,_=>by simp at h
theorem b6D (l:List (K×Value)) (k:K) (v:Value):∀i,fi l k i=none->O1 l k v=l++[(k,v)]:=by
 induction l with
 | nil=>intro i _;rfl
 | cons x l ih=>
  intro i h;unfold fi at h;split at h
  ·cases h
  ·rename_i hh;simp[O1,hh,ih _ h]

def World.putObj' (w:World) (r:Nat) (o:Obj):World:={w with heap:=w.heap.setIfInBounds r o}
theorem C5 (w:World) (r:Nat) (o:Obj):w.grownBy (World.putObj' w r o) (some r):=
 ⟨rfl,rfl,rfl,by simp[World.putObj'],λk _ hk=>by simp only[World.putObj'];rw[Array.getElem?_setIfInBounds];rw[if_neg (λe=>hk (by rw[e]))]⟩

theorem a2W {MT T E:TypeId} (hk:KeyOk P T kv) (hm:P.underlying MT=some (.map T E)) {w:World} {r:Nat} {l:List (K×Value)} (h:a2T w r kv l) (k:K) (v:Value):
  ∃w',(Instr.mapUpdate MT (.map (some r)) (kv k) v).run P w= .ok () w'/\a2T w' r kv (O1 l k v)/\w.grownBy w' (some r)/\w'.heap.size=w.heap.size:=by
 obtain⟨es,clock,h1,h2,h3,h4⟩:=h;have hf:=O6 hk k w es.toList l h2;have hr:r<w.heap.size:=(Array.getElem?_eq_some_iff.1 h1).1;unfold Instr.mapUpdate;simp only[Sem.run_bind,run_underlying hm,Result.andThen_ok,rgo h1,hk.check,hf];cases hfi:fi l k 0 with
 | none=>
  have hp:=b6D l k v 0 hfi;refine⟨World.putObj' w r (.map (es.push {key:=kv k,val:=v,born:=clock}) (clock+1)),?_,⟨es.push {key:=kv k,val:=v,born:=clock},clock+1,?_,?_,?_,?_⟩,C5 _ _ _,by simp[World.putObj']⟩
  ·simp only[rso _ h1];rfl
  ·simp[World.putObj',hr]
  ·rw[hp];simp[h2]
  ·simp only[Array.toList_push,List.map_append,List.map_cons,List.map_nil];rw[List.nodup_append];refine⟨h3,by simp,?_⟩;intro a ha b hb;simp at hb;obtain⟨e,he,rfl⟩:=List.mem_map.1 ha;have:=h4 e he;omega
  ·intro e he;simp at he;rcases he with he | rfl
   ·have:=h4 e (by simpa using he);omega
   ·simp
 | some x=>
  obtain⟨j,u⟩:=x;have hl:=a4u _ _ _ _ _ hfi;have hmp:=a0P es.toList l k v 0 j u h2 hfi;rw[Nat.sub_zero]at hmp;have hlen:es.toList.length=l.length:=by have:=congrArg List.length h2;simpa using this
  have hj:j<es.size:=by simp at hlen;omega
  have hkey:((es[j]?).map (·.key)).getD (kv k)=kv k:=by
   have hx:(es.toList.map (λe=>(e.key,e.val)))[j]? =(l.map (λx=>(kv x.1,x.2)))[j]?:=by rw[h2]
   have hfk:∀(l:List (K×Value)) i j u,fi l k i=some (j,u)->(l[j-i]?).map (·.1)=some k:=by
    intro l
    induction l with
    | nil=>intro i j u h;cases h
    | cons x l ih=>
     intro i j u h;unfold fi at h;split at h
     ·rename_i hh;injection h with h;injection h with e1 _;subst e1;simp[hh]
     ·have hl2:=a4u _ _ _ _ _ h;have:=ih _ _ _ h;rw[show j-i=(j-(i+1))+1 from by omega,List.getElem?_cons_succ];exact this
   have h5:=hfk l 0 j u hfi;rw[Nat.sub_zero]at h5;rw[List.getElem?_map,List.getElem?_map]at hx;simp only[Array.getElem?_toList]at hx;cases he:es[j]? with
   | none=>rfl
   | some e=>
    rw[he]at hx;cases hlj:l[j]? with
    | none=>rw[hlj]at hx;simp at hx
    | some y=>
     rw[hlj]at hx h5;simp only[Option.map_some,Option.some.injEq,Prod.mk.injEq]at hx h5;simp[hx.1,h5]
  refine⟨World.putObj' w r (.map (es.modify j λe=>{e with key:=kv k,val:=v}) clock),?_,⟨es.modify j λe=>{e with key:=kv k,val:=v},clock,?_,?_,?_,?_⟩,C5 _ _ _,by simp[World.putObj']⟩
  ·simp only[hkey,Instr.keyThatStays,hk.bits,if_true,Sem.run_bind,Sem.run_pure,Result.andThen_ok,rso _ h1];rfl
  ·simp[World.putObj',hr]
  ·rw[Array.toList_modify];exact hmp.1
  ·rw[Array.toList_modify,hmp.2];exact h3
  ·intro e he;have:e.born∈(es.modify j λe=>{e with key:=kv k,val:=v}).toList.map (·.born):=List.mem_map_of_mem he;rw[Array.toList_modify,hmp.2]at this;obtain⟨e',he',hb⟩:=List.mem_map.1 this;have:=h4 e' he';omega

theorem a5X:∀(es:List MapEntry) (l:List (K×Value)) (k:K) (i j:Nat) (u:Value),es.map (λe=>(e.key,e.val))=l.map (λx=>(kv x.1,x.2))->fi l k i=some (j,u)->
  (es.eraseIdx (j-i)).map (λe=>(e.key,e.val))=(a0Y l k).map (λx=>(kv x.1,x.2))
 | [],[],k,i,j,u,_,h=>by cases h
 | e::es,x::l,k,i,j,u,h,hf=>by
  simp only[List.map_cons,List.cons.injEq,Prod.mk.injEq]at h;obtain⟨⟨h1,h2⟩,h3⟩:=h;unfold fi at hf;split at hf
  ·rename_i hh;injection hf with hf;injection hf with e1 e2;subst e1;simp[a0Y,hh,h3]
  ·rename_i hh;have hl:=a4u _ _ _ _ _ hf;have ih:=a5X es l k (i+1) j u h3 hf;obtain⟨m,hm⟩:∃m,j-i=m+1:=⟨j-(i+1),by omega⟩;have hm2:j-(i+1)=m:=by omega
   rw[hm2]at ih;simp[hm,a0Y,hh,h1,h2,ih]
 | [],_::_,_,_,_,_,h,_=>by simp at h
 | _::_,[],_,_,_,_,h,_=>by simp at h
theorem a2K (l:List (K×Value)) (k:K):∀i,fi l k i=none->a0Y l k=l:=by
 induction l with
 | nil=>intro i _;rfl
 | cons x l ih=>
  intro i h;unfold fi at h;split at h
  ·cases h
  ·rename_i hh;simp[a0Y,hh,ih _ h]
theorem a6w {MT T E ty:TypeId} {ats:Array TypeId} (hk:KeyOk P T kv) (hm:P.underlying MT=some (.map T E)) (hat:ats[0]? =some MT) {w:World} {r:Nat} {l:List (K×Value)} (h:a2T w r kv l) (k:K):
  ∃w',(Builtin.delete_ ats ty #[.map (some r),kv k]).run P w= .ok (.tuple #[]) w'/\a2T w' r kv (a0Y l k)/\w.grownBy w' (some r)/\w'.heap.size=w.heap.size:=by
 obtain⟨es,clock,h1,h2,h3,h4⟩:=h;have hf:=O6 hk k w es.toList l h2;have hr:r<w.heap.size:=(Array.getElem?_eq_some_iff.1 h1).1;unfold Builtin.delete_;have e0:(#[Value.map (some r),kv k]:Array Value)[0]? =some (.map (some r)):=rfl;have e1:(#[Value.map (some r),kv k]:Array Value)[1]? =some (kv k):=rfl;simp only[hat,e0,e1,Sem.run_bind,run_underlying hm,Result.andThen_ok,rgo h1,hk.check,hf];cases hfi:fi l k 0 with
 | none=>
  have hp:=a2K l k 0 hfi;refine⟨World.putObj' w r (.map es clock),?_,⟨es,clock,by simp[World.putObj',hr],by rw[hp];exact h2,h3,h4⟩,C5 _ _ _,by simp[World.putObj']⟩;simp only[Sem.run_bind,rso _ h1,Result.andThen_ok,Sem.run_pure];rfl
 | some x=>
  obtain⟨j,u⟩:=x;have hl:=a4u _ _ _ _ _ hfi;have hmp:=a5X es.toList l k 0 j u h2 hfi;rw[Nat.sub_zero]at hmp;have hlen:es.toList.length=l.length:=by have:=congrArg List.length h2;simpa using this
  have hj:j<es.size:=by simp at hlen;omega
  have hto:(es.eraseIdxIfInBounds j).toList=es.toList.eraseIdx j:=by simp
  refine⟨World.putObj' w r (.map (es.eraseIdxIfInBounds j) clock),?_,⟨es.eraseIdxIfInBounds j,clock,by simp[World.putObj',hr],by rw[hto];exact hmp,?_,?_⟩,C5 _ _ _,by simp[World.putObj']⟩
  ·simp only[Sem.run_bind,rso _ h1,Result.andThen_ok,Sem.run_pure];rfl
  ·rw[hto];exact List.Nodup.sublist ((List.eraseIdx_sublist _ _).map _) h3
  ·intro e he;rw[hto]at he;exact h4 e (List.mem_of_mem_eraseIdx he)
end

section
variable {P : Program} {K : Type} [DecidableEq K] {kv : K → Value} {ops : Array Oper} {rest : List Oper} {dst : Option Tmp} {ty : TypeId} {pos : String} {after : Array Edge} {a : Act} {w : World} {Q : Exit → Act → World → Prop}
end

def slv (a:Option Nat) (n cap:Nat):Value:= .slice (match a with | some g=>some ⟨g,0,none⟩ | none=>none) n cap
def N9 (e size:Nat) (a:Option Nat) (n cap:Nat) (xs:List Value) (h:Hl):Prop:=
 xs.length=n*size/\match a with
  | none=>n=0/\cap=0
  | some g=>∃cur:Array Value,h g=some (.cells cur e (0,0))/\n<=cap/\cap<=maxLen/\cur.size=cap*size/\cur.toList.take (n*size)=xs
def c9 (e size:Nat) (a:Option Nat) (n cap:Nat) (xs:List Value):Atom:= .hp ⟨N9 e size a n cap xs,λh h' l s=>by
 refine⟨s.1,?_⟩;have:=s.2;cases a with
 | none=>exact this
 | some g=>obtain⟨cur,h1,h2⟩:=this;exact⟨cur,l _ _ h1,h2⟩⟩
def a9m {K:Type} (r:Nat) (kv:K->Value) (l:List (K×Value)) (h:Hl):Prop:=
 ∃es clock,h r=some (.map es clock)/\es.toList.map (λe=>(e.key,e.val))=l.map (λx=>(kv x.1,x.2))/\(es.toList.map (·.born)).Nodup/\∀e∈es.toList,e.born<clock
def B3 {K:Type} (r:Nat) (kv:K->Value) (l:List (K×Value)):Atom:= .hp ⟨a9m r kv l,λ_ _ l ⟨es,c,h1,h2⟩=>⟨es,c,l _ _ h1,h2⟩⟩
section
variable {L : List Atom} {w w' : World}
theorem a3V {e size:Nat} {a:Option Nat} {n cap:Nat} {xs:List Value} (h:N9 e size a n cap xs (hl w)):w.ownsRow 0 e size (slv a n cap) n xs:=by
 refine⟨h.1,?_⟩;cases a with
 | none=>obtain⟨rfl,rfl⟩:=h.2;exact .inl ⟨rfl,rfl⟩
 | some g=>obtain⟨cur,h1,h2,h3,h4,h5⟩:=h.2;exact .inr ⟨g,cap,cur,rfl,Nat.zero_le _,h1,h2,h3,h4,h5⟩
theorem a7K {e size:Nat} {v:Value} {n:Nat} {xs:List Value} (h:w.ownsRow 0 e size v n xs):∃a cap,v=slv a n cap/\N9 e size a n cap xs (hl w)/\v.ownBlock=a:=by
 rcases h.2 with⟨rfl,rfl⟩ | ⟨g,cap,cur,rfl,_,h1,h2,h3,h4,h5⟩
 ·exact⟨none,0,rfl,⟨h.1,rfl,rfl⟩,rfl⟩
 ·exact⟨some g,cap,rfl,⟨h.1,cur,h1,h2,h3,h4,h5⟩,rfl⟩
theorem Sep.step {i:Nat} {A A':Atom} {x x':Option Nat} (s:Sep L (hl w)) (hA:L[i]? =some A) (hx:∀h g,A.sat h->x=some g->∃o,h g=some o) (hg:w.grownBy w' x) (hx':x'=x\/x'=some w.heap.size) (hA':∀h,(∀g,x'=some g->h g=hl w' g)->A'.sat h):Sep (L.set i A') (hl w'):=by
 obtain⟨own,hw⟩:=s;have hi:i<L.length:=(List.getElem?_eq_some_iff.1 hA).1;have hown:∀g,x=some g->own g=i:=λg e=>by
  obtain⟨o,ho⟩:=hx _ g (hw i A hA) e;exact(res_some.1 ho).1
 refine⟨λb=>if x'=some b then i else own b,λj B hB=>?_⟩;rw[List.getElem?_set]at hB;split at hB
 ·rename_i e;injection hB with hB;subst hB;subst e;refine hA' _ λg hg'=>?_;unfold res;rw[if_pos (by simp[hg'])]
 ·rename_i e;refine Atom.up (λb o hb=>?_) (hw j B hB);rw[res_some]at hb ⊢;have hlt:b<w.heap.size:=by
   rcases Nat.lt_or_ge b w.heap.size with h | h
   ·exact h
   ·have:=hb.2;simp only[hl]at this;rw[Array.getElem?_eq_none h]at this;cases this
  have hnx:x≠some b:=λe'=>e ((hown b e').symm.trans hb.1);have hnx':x'≠some b:=by
   rcases hx' with e' | e'
   ·rw[e'];exact hnx
   ·rw[e'];intro e2;injection e2 with e2;omega
  refine⟨by rw[if_neg hnx'];exact hb.1,?_⟩;have:=hg.block b hlt (λe'=>hnx e'.symm);simp only[hl]at hb ⊢;rw[this];exact hb.2
theorem Ext.grown {x:Option Nat} (h:w.grownBy w' x):Ext w w':=⟨h.os,h.tape,h.output,h.size⟩
end
section
variable {X : Cx} {P : Program} {T : Tab} {K : List KI} {E : Env} {L : List Atom} {N : Nat} {F : HP} {Post : Value → List Atom → Prop} {rs : List ResultVar}
theorem J.append (hX:IsCx X P rs N F Post) (hT:TabOK P T) {ops:Array Oper} {C:Cl} {lt:Bool} {i:Nat} {t:PT} {o:Oper} {g:G} {x y:Operand} {st e size by_:Nat} {ks tgs:Nat} {gs:G} {a:Option Nat} {n cap:Nat} {xs:List Value} {ky tgy:Nat} {gy:G} {b m c ty:Nat} {cs:List Value} {s1 b1:Nat} {z1:List Value} {E':Value->Env} (is iy tag:Nat)
  (ho:n9 ops.toList i=some o) (hg:gd ops.toList E o=some g) (hgo:g.on=true) (hop:o.op= .call ⟨.builtin .append,#[x,y],#[st,st]⟩)
  (hx:ev E x=some ⟨ks,slv a n cap,tgs,gs⟩) (hvx:gs.on=true) (hy:ev E y=some ⟨ky, .slice (some ⟨b,0,none⟩) m c,tgy,gy⟩) (hvy:gy.on=true)
  (hLs:n9 L is=some (c9 e size a n cap xs)) (hLy:n9 L iy=some (.pt b ty cs)) (hst:T.get st=some ⟨.slice e size,s1,z1,b1⟩) {td:TD} {z:List Value} (he:T.get e=some ⟨td,size,z,by_⟩) (hz:Nat.beq z.length size=true)
  (hsz:Nat.blt 0 size=true) (hcs:cs.length=m*size) (h1:cs.all (·.oneCell')=true) (h63:n+m<=maxLen) (hbytes:(n+m)*by_<=140737488355328)
  (hd:∀v,D7 N o.dst v tag .tt E=some (E' v))
  (hJ:∀a' cap',∃L',p9 L is (c9 e size a' (n+m) cap' (xs++cs))=some L'/\Conj (t8 lt C L')/\J X (.reg ops C t::K) (E' (slv a' (n+m) cap')) L'):J X (.reg ops C (.alt lt i t .non)::K) E L:=by
 refine J.op hX (S:=λv L'=>∃a' cap',v=slv a' (n+m) cap'/\L'=L.set is (c9 e size a' (n+m) cap' (xs++cs))) tag ho hg hgo (λa0 w hen hs=>?_) hd (λv L' ⟨a',cap',e1,e2⟩=>by subst e1;subst e2;obtain⟨L2,q1,q2⟩:=hJ a' cap';rw[<- B4 q1];exact q2);obtain⟨d,f,zv,ok⟩:=g7 (hT.get hst);obtain⟨fe,rfl,g1,g2⟩:=ok.slice rfl;obtain⟨d',f',zv',ok'⟩:=g7 (hT.get he);have hf:fe=f':=by have:=g1.symm.trans ok'.hf;injection this
 subst hf;have hzz:z=zv'.cells.toList:=ok'.hzero;subst hzz;rw[n5]at hLs hLy;have hrow:=a3V (hs.get hLs);have hblk:Blk w b ty cs.toArray:=hs.pt hLy;have hnews:∀j u,cs[j]? =some u->w.cell? ((⟨b,0,none⟩:Addr).add j)=some u:=λj u hu=>by
  rw[Addr.add_none,hblk.cell,Nat.zero_add];simpa using hu
 have h1':∀u∈cs,u.oneCell'=true:=by simpa using h1
 obtain⟨v',w',r1,r2,r3,_,r5⟩:=run_append_own_at (P:=P) w 0 st o.type e fe zv' size by_ ok.hd ok'.hf ok'.hz g2 ok'.hbytes.symm (by have:=Nat.eq_of_beq_eq_true hz;simpa using this) (Nat.le_of_ble_eq_true hsz) _ n xs hrow ⟨b,0,none⟩ m c cs hcs hnews h1' h63 hbytes (Nat.zero_le _);obtain⟨a',cap',e1,e2,e3⟩:=a7K r2;subst e1;have ex:=j3 hen hx;have ey:=j3 hen hy;simp only[Slot.val,hvx,hvy]at ex ey;refine⟨_,_, .value (slv a' (n+m) cap'),w',⟨a',cap',rfl,rfl⟩,?_, .inl rfl,?_,Ext.grown r3⟩
 ·simp only[execOp,hop,resolve,Sem.run_bind,Sem.run_pure,Result.andThen_ok,invoke,builtin,List.map_toArray,List.map_cons,List.map_nil,ex,ey,r1]
 ·refine Sep.step hs hLs (x:=(slv a n cap).ownBlock) (x':=a') (λh g0 hh he0=>?_) r3 (by rw[<- e3];exact r5) (λh hh=>⟨e2.1,?_⟩)
  ·cases a with
   | none=>simp[slv,Value.ownBlock]at he0
   | some ga=>
    simp only[slv,Value.ownBlock,Option.some.injEq]at he0;subst he0;obtain⟨cur,h1,_⟩:=hh.2;exact⟨_,h1⟩
  ·have e22:=e2.2;cases a' with
   | none=>exact e22
   | some ga=>
    obtain⟨cur,q1,q2⟩:=e22;exact⟨cur,(hh ga rfl).trans q1,q2⟩
def TD.one:TD->Bool
 | .row _ | .arr _ _=>false
 | _=>true
section
variable {P : Program} {T : Tab} {E : Env} {n : Nat} {a : Act} {w : World}
theorem TIOK.one {t:TypeId} {i:TI} {d:TypeDesc} {f:TypeInfo} {z:Value} (ok:TIOK P t i d f z) (h:i.d.one=true):H0 d=false:=by
 have htd:=ok.htd;cases d<;>simp[H0]<;>simp[a2V]at htd
 ·obtain⟨g,h1,h2⟩:=htd;rw[<- h2]at h;cases h
 ·obtain⟨g,h1,h2⟩:=htd;rw[<- h2]at h;cases h
theorem TIOK.many {t:TypeId} {i:TI} {d:TypeDesc} {f:TypeInfo} {z:Value} (ok:TIOK P t i d f z) (h:i.d.one=false):H0 d=true:=by
 have htd:=ok.htd;cases d<;>first | rfl | (simp[a2V]at htd;(try obtain⟨g,h1,h2⟩:=htd);first | (rw[<- htd]at h;cases h) | (rw[<- h2]at h;cases h))
theorem i7 (hT:TabOK P T) {o:Oper} {t:TypeId} {x:Operand} {k tg b off ty:Nat} {g:G} {ti:TI} {cs:List Value} {v:Value} (hop:o.op= .load t x) (hx:ev E x=some ⟨k, .pointer (some ⟨b,off,none⟩),tg,g⟩) (he:EnvOK n E a) (hg:g.on=true) (hti:T.get t=some ti) (h1:ti.d.one=true)
  (hb:hl w b=some (.cells cs.toArray ty (0,0))) (hv:cs[off]? =some v):(execOp a.eval o).run P w= .ok (.value v) w:=by
 have ex:=j3 he hx;simp only[Slot.val,hg]at ex;obtain⟨d,f,z,ok⟩:=g7 (hT.get hti);have hblk:Blk w b ty cs.toArray:=hb;have hc:w.cell? ⟨b,off,none⟩=some v:=by rw[hblk.cell];simpa using hv
 simp only[execOp,hop,ex,Instr.loadAt,Instr.sureAddr,Sem.run_bind,Sem.run_pure,Result.andThen_ok,Q4 ok.hd (ok.one h1) hc]
theorem j9 (hT:TabOK P T) {o:Oper} {t:TypeId} {x:Operand} {k tg b off ty:Nat} {g:G} {ti:TI} {cs l:List Value} (hop:o.op= .load t x) (hx:ev E x=some ⟨k, .pointer (some ⟨b,off,none⟩),tg,g⟩) (he:EnvOK n E a) (hg:g.on=true) (hti:T.get t=some ti) (h1:ti.d.one=false)
  (hb:hl w b=some (.cells cs.toArray ty (0,0))) (hv:(cs.drop off).take ti.size=l) (hl:l.length=ti.size):(execOp a.eval o).run P w= .ok (.value (.agg l.toArray)) w:=by
 have ex:=j3 he hx;simp only[Slot.val,hg]at ex;obtain⟨d,f,z,ok⟩:=g7 (hT.get hti);have hblk:Blk w b ty cs.toArray:=hb;have hm:=ok.many h1;have hr:=run_loadVar_mid (P:=P) w b off t l d (s7 hblk off l (by rw[hl];exact hv)) ok.hd (by cases d<;>simp_all [H0,TypeDesc.isRow]) (by rw[ok.hf];simp[hl,ok.hsize]);simp only[execOp,hop,ex,Instr.loadAt,Instr.sureAddr,Sem.run_bind,Sem.run_pure,Result.andThen_ok,hr]
end
section
variable {P : Program} {T : Tab} {E : Env} {n : Nat} {a : Act} {w : World}
theorem l8 (hT:TabOK P T) {o:Oper} {t:TypeId} {x:Operand} {k tg b off e size m cap:Nat} {g:G} {ti:TI} {xs:List Value} {v:Value} (hop:o.op= .load t x) (hx:ev E x=some ⟨k, .pointer (some ⟨b,off,none⟩),tg,g⟩) (he:EnvOK n E a) (hg:g.on=true) (hti:T.get t=some ti) (h1:ti.d.one=true)
  (hb:N9 e size (some b) m cap xs (hl w)) (hv:xs[off]? =some v):(execOp a.eval o).run P w= .ok (.value v) w:=by
 obtain⟨_,cur,h2,h3,h4,h5,h6⟩:=hb;refine i7 hT hop hx he hg hti h1 (cs:=cur.toList) (ty:=e) (by rw[h2]) ?_;rw[<- h6,List.getElem?_take]at hv;split at hv
 ·exact hv
 ·cases hv
theorem p6 (hT:TabOK P T) {o:Oper} {t:TypeId} {x:Operand} {k tg b off e size m cap:Nat} {g:G} {ti:TI} {xs l:List Value} (hop:o.op= .load t x) (hx:ev E x=some ⟨k, .pointer (some ⟨b,off,none⟩),tg,g⟩) (he:EnvOK n E a) (hg:g.on=true) (hti:T.get t=some ti) (h1:ti.d.one=false)
  (hb:N9 e size (some b) m cap xs (hl w)) (hv:(xs.drop off).take ti.size=l) (hl:l.length=ti.size):(execOp a.eval o).run P w= .ok (.value (.agg l.toArray)) w:=by
 obtain⟨h0,cur,h2,h3,h4,h5,h6⟩:=hb;refine j9 hT hop hx he hg hti h1 (cs:=cur.toList) (ty:=e) (by rw[h2]) ?_ hl;have:off+ti.size<=xs.length\/ti.size=0:=by
  have:=congrArg List.length hv;simp at this;omega
 rcases this with h | h
 ·rw[<- hv,<- h6];apply List.ext_getElem?;intro j;simp only[List.getElem?_take,List.getElem?_drop];split
  ·rw[if_pos (by omega)]
  ·rfl
 ·rw[<- hv,h];simp
end
section
variable {P : Program} {KK : Type} [DecidableEq KK] {kv : KK → Value} {E : Env} {L : List Atom} {n : Nat} {a : Act} {w : World}
theorem l9 {KT MT ET:TypeId} (hk:KeyOk P KT kv) (hm:P.underlying MT=some (.map KT ET)) {z:Value} (hz:∀w,(zeroValue ET).run P w= .ok z w) {o:Oper} {x y:Operand} {c:Bool} {r:Nat} {l:List (KK×Value)} {key:KK} {k1 k2 t1 t2:Nat} {g1 g2:G} {u:Value}
  (hop:o.op= .lookup MT x y c) (hx:ev E x=some ⟨k1, .map (some r),t1,g1⟩) (hy:ev E y=some ⟨k2,u,t2,g2⟩) (hu:u=kv key) (he:EnvOK n E a) (v1:g1.on=true) (v2:g2.on=true) (hmap:a9m r kv l (hl w)):
  (execOp a.eval o).run P w= .ok (.value (match c with | true=> .tuple #[(y5 l key).getD z, .bool (y5 l key).isSome] | false=>(y5 l key).getD z)) w:=by
 have ex:=j3 he hx;have ey:=j3 he hy;simp only[Slot.val,v1,v2]at ex ey;have hr:=a6v (P:=P) hk hm hz (w:=w) hmap key c;rw[hu]at ey;simp only[execOp,hop,ex,ey,Sem.run_bind,hr,Result.andThen_ok,Sem.run_pure];cases c<;>rfl
theorem a2D {KT MT ET:TypeId} (hm:P.underlying MT=some (.map KT ET)) {o:Oper} {x:Operand} {r:Nat} {l:List (KK×Value)} {k1 t1:Nat} {g1:G} (hop:o.op= .call ⟨.builtin .len,#[x],#[MT]⟩) (hx:ev E x=some ⟨k1, .map (some r),t1,g1⟩) (he:EnvOK n E a) (v1:g1.on=true) (hmap:a9m r kv l (hl w)):
  (execOp a.eval o).run P w= .ok (.value (.int .i64 (l.length:Int))) w:=by
 have ex:=j3 he hx;simp only[Slot.val,v1]at ex;obtain⟨es,cl,h1,h2,_⟩:=hmap;have hl:es.size=l.length:=by have:=congrArg List.length h2;simpa using this
 have hgo:(getObj r).run P w= .ok (.map es cl) w:=rgo h1;simp[execOp,hop,resolve,invoke,builtin,Builtin.len_,ex,d7 hm,hgo,goInt,hl]
end
section
variable {X : Cx} {P : Program} {K : List KI} {E : Env} {L : List Atom} {N : Nat} {F : HP} {Post : Value → List Atom → Prop} {rs : List ResultVar} {KK : Type} [DecidableEq KK] {kv : KK → Value}
theorem Sep.mapStep {w w':World} {i r:Nat} {l l':List (KK×Value)} (s:Sep L (hl w)) (hA:L[i]? =some (B3 r kv l)) (hg:w.grownBy w' (some r)) (hm:a2T w' r kv l'):Sep (L.set i (B3 r kv l')) (hl w'):=
 Sep.step s hA (x:=some r) (x':=some r) (λh g ⟨es,c,h1,_⟩ e=>by injection e with e;subst e;exact⟨_,h1⟩) hg (.inl rfl) (λh hh=>by
  obtain⟨es,c,h1,h2⟩:=hm;exact⟨es,c,(hh r rfl).trans h1,h2⟩)
theorem J.mapUpdate (hX:IsCx X P rs N F Post) {KT MT ET:TypeId} (hk:KeyOk P KT kv) (hm:P.underlying MT=some (.map KT ET)) {ops:Array Oper} {C:Cl} {lt:Bool} {i:Nat} {t:PT} {o:Oper} {g:G} {x y u:Operand} {r:Nat} {l:List (KK×Value)} (key:KK) {k1 k2 k3 t1 t2 t3:Nat} {g1 g2 g3:G} {kvv v:Value} {E':Value->Env} (im:Nat)
  (ho:n9 ops.toList i=some o) (hg:gd ops.toList E o=some g) (hgo:g.on=true) (hop:o.op= .mapUpdate MT x y u) (hx:ev E x=some ⟨k1, .map (some r),t1,g1⟩) (v1:g1.on=true) (hy:ev E y=some ⟨k2,kvv,t2,g2⟩) (v2:g2.on=true) (hkv:kvv=kv key) (hu:ev E u=some ⟨k3,v,t3,g3⟩) (v3:g3.on=true)
  (hL:n9 L im=some (B3 r kv l)) (hd:∀v,D7 N o.dst v 0 .tt E=some (E' v)) {L2:List Atom} (hL2:p9 L im (B3 r kv (O1 l key v))=some L2) (hJ:Conj (t8 lt C L2)/\J X (.reg ops C t::K) (E' undef) L2):J X (.reg ops C (.alt lt i t .non)::K) E L:=by
 refine J.op hX (S:=λv' L'=>v'=undef/\L'=L.set im (B3 r kv (O1 l key v))) 0 ho hg hgo (λa0 w hen hs=>?_) hd (λv L' ⟨e1,e2⟩=>by subst e1;subst e2;rw[<- B4 hL2];exact hJ);rw[n5]at hL;have ex:=j3 hen hx;have ey:=j3 hen hy;have eu:=j3 hen hu;simp only[Slot.val,v1,v2,v3]at ex ey eu;rw[hkv]at ey;have hmap:a2T w r kv l:=hs.get hL;obtain⟨w',r1,r2,r3,r4⟩:=a2W (P:=P) hk hm hmap key v;exact⟨undef,_, .skip,w',⟨rfl,rfl⟩,by simp only[execOp,hop,ex,ey,eu,Sem.run_bind,r1,Result.andThen_ok,Sem.run_pure], .inr ⟨rfl,rfl⟩,Sep.mapStep hs hL r3 r2,Ext.grown r3⟩
theorem J.delete (hX:IsCx X P rs N F Post) {KT MT ET:TypeId} (hk:KeyOk P KT kv) (hm:P.underlying MT=some (.map KT ET)) {ops:Array Oper} {C:Cl} {lt:Bool} {i:Nat} {t:PT} {o:Oper} {g:G} {x y:Operand} {r:Nat} {l:List (KK×Value)} (key:KK) {k1 k2 t1 t2 t3:Nat} {g1 g2:G} {kvv:Value} {E':Value->Env} (im:Nat)
  (ho:n9 ops.toList i=some o) (hg:gd ops.toList E o=some g) (hgo:g.on=true) (hop:o.op= .call ⟨.builtin .delete,#[x,y],#[MT,t3]⟩) (hx:ev E x=some ⟨k1, .map (some r),t1,g1⟩) (v1:g1.on=true) (hy:ev E y=some ⟨k2,kvv,t2,g2⟩) (v2:g2.on=true) (hkv:kvv=kv key)
  (hL:n9 L im=some (B3 r kv l)) (hd:∀v,D7 N o.dst v 0 .tt E=some (E' v)) {L2:List Atom} (hL2:p9 L im (B3 r kv (a0Y l key))=some L2) (hJ:Conj (t8 lt C L2)/\J X (.reg ops C t::K) (E' (.tuple #[])) L2):J X (.reg ops C (.alt lt i t .non)::K) E L:=by
 refine J.op hX (S:=λv' L'=>v'= .tuple #[]/\L'=L.set im (B3 r kv (a0Y l key))) 0 ho hg hgo (λa0 w hen hs=>?_) hd (λv L' ⟨e1,e2⟩=>by subst e1;subst e2;rw[<- B4 hL2];exact hJ);rw[n5]at hL;have ex:=j3 hen hx;have ey:=j3 hen hy;simp only[Slot.val,v1,v2]at ex ey;rw[hkv]at ey;have hmap:a2T w r kv l:=hs.get hL;obtain⟨w',r1,r2,r3,r4⟩:=a6w (P:=P) (ty:=o.type) (ats:= #[MT,t3]) hk hm rfl hmap key;exact⟨_,_, .value (.tuple #[]),w',⟨rfl,rfl⟩,by simp only[execOp,hop,resolve,Sem.run_bind,Sem.run_pure,Result.andThen_ok,invoke,builtin,List.map_toArray,List.map_cons,List.map_nil,ex,ey,r1], .inl rfl,Sep.mapStep hs hL r3 r2,Ext.grown r3⟩
theorem a8a {α:Type} {v:α}:∀{cs:List α} {off:Nat},off<cs.length->Q1 cs off [v]=some (cs.set off v)
 | [],_,h=>by simp at h
 | c::cs,0,_=>by cases cs<;>rfl
 | c::cs,k+1,h=>by simp only[Q1,List.set_cons_succ,a8a (cs:=cs) (off:=k) (by simpa using h)]
theorem J.store1 {T:Tab} (hX:IsCx X P rs N F Post) (hT:TabOK P T) {ops:Array Oper} {C:Cl} {lt:Bool} {i:Nat} {t:PT} {o:Oper} {g:G} {ty0:TypeId} {x y:Operand} {k1 k2 t1 t2 b off ty:Nat} {g1 g2:G} {v:Value} {cs:List Value} {ti:TI} {E':Value->Env} (is:Nat)
  (ho:n9 ops.toList i=some o) (hg:gd ops.toList E o=some g) (hgo:g.on=true) (hop:o.op= .store ty0 x y) (hx:ev E x=some ⟨k1, .pointer (some ⟨b,off,none⟩),t1,g1⟩) (v1:g1.on=true) (hy:ev E y=some ⟨k2,v,t2,g2⟩) (v2:g2.on=true)
  (hti:T.get ty0=some ti) (hsz:Nat.beq ti.size 1=true) (hc:v.cells.toList=[v]) (h1:v.oneCell'=true) (hL:n9 L is=some (.pt b ty cs)) (hlt:off<cs.length) (cs':List Value) (hcs:cs.set off v=cs') {L2:List Atom} (hL2:p9 L is (.pt b ty cs')=some L2)
  (hd:∀v,D7 N o.dst v 0 .tt E=some (E' v)) (hJ:Conj (t8 lt C L2)/\J X (.reg ops C t::K) (E' undef) L2):J X (.reg ops C (.alt lt i t .non)::K) E L:=by
 refine J.op hX (S:=λv' L'=>v'=undef/\L'=L.set is (.pt b ty cs')) 0 ho hg hgo (λa0 w hen hs=>?_) hd (λv L' ⟨e1,e2⟩=>by subst e1;subst e2;rw[<- B4 hL2];exact hJ);rw[n5]at hL;have ex:=j3 hen hx;have ey:=j3 hen hy;simp only[Slot.val,v1,v2]at ex ey;obtain⟨d,f,z,ok⟩:=g7 (hT.get hti);have hblk:Blk w b ty cs.toArray:=hs.pt hL;have hput:Q1 cs (off+0) [v]=some cs':=by rw[Nat.add_zero,<- hcs];exact a8a hlt
 obtain⟨w',r1,r2,r3⟩:=C9 (P:=P) [v] 0 w cs cs' hblk hput (by simp[h1]);have hsize:v.cells.size=f.size:=by
  have:=Nat.eq_of_beq_eq_true hsz;rw[<- ok.hsize,this,<- Array.length_toList,hc];rfl
 refine⟨undef,_, .skip,w',⟨rfl,rfl⟩,?_, .inr ⟨rfl,rfl⟩,?_,r3⟩
 ·simp only[execOp,hop,ex,ey,Instr.storeAt,Instr.sureAddr,Sem.run_bind,Sem.run_pure,Result.andThen_ok,storeVar,m7 ok.hf];simp[hsize,hc,r1]
 ·rw[r2];exact hs.setPt cs' hL
end
end
theorem Sep.one {A:Atom} {h:Hl} (hA:A.sat h):Sep [A] h:=⟨λ_=>0,λi B hB=>by
 cases i with
 | zero=>simp at hB;subst hB;exact A.up (λb o hb=>res_some.2 ⟨rfl,hb⟩) hA
 | succ k=>simp at hB⟩
theorem a4j {α:Type}:∀(cs:List α) (off:Nat) (xs:List α),off+xs.length<=cs.length->Q1 cs off xs=some (cs.take off++xs++cs.drop (off+xs.length))
 | cs,0,xs,h=>by
  simp only[List.take_zero,List.nil_append,Nat.zero_add];have e:Q1 cs 0 xs=Y6 cs xs:=by cases cs<;>rfl
  rw[e];clear e
  induction xs generalizing cs with
  | nil=>cases cs<;>rfl
  | cons x xs ih=>
   cases cs with
   | nil=>simp at h
   | cons c cs=>
    simp only[Y6,ih cs (by simp at h ⊢;omega),List.cons_append,List.length_cons,List.drop_succ_cons]
 | [],k+1,xs,h=>by simp at h
 | c::cs,k+1,xs,h=>by
  simp only[Q1,a4j cs k xs (by simp at h;omega),List.take_succ_cons,List.cons_append];rw[show k+1+xs.length=(k+xs.length)+1 from by omega,List.drop_succ_cons]
def subV (E:Env):Env->List Prop
 | []=>[]
 | s::r=>((E.get s.k).map Slot.val=some s.val)::subV E r
theorem EnvOK.subV {n:Nat} {E E':Env} {a:Act} (h:EnvOK n E a) (hs:Conj (subV E E')):EnvOK n E' a:=by
 refine⟨h.size,h.defers,?_⟩
 induction E' with
 | nil=>intro k s hk;cases hk
 | cons s' r ih=>
  intro k s hk;simp only[Env.get]at hk;split at hk
  ·rename_i e;have:=Nat.eq_of_beq_eq_true e;injection hk with hk;subst hk;subst this;have h1:=hs.1;cases h2:E.get s'.k with
   | none=>rw[h2]at h1;cases h1
   | some u=>
    rw[h2]at h1;have h3:u.val=s'.val:=by simpa using h1
    have:=h.slot _ _ h2;rw[h3]at this;exact this
  ·exact ih hs.2 k s hk
section
variable {X : Cx} {P : Program} {T : Tab} {K : List KI} {E : Env} {L : List Atom} {N : Nat} {F : HP} {Post : Value → List Atom → Prop} {rs : List ResultVar}
theorem J.openOwn {e size g n cap:Nat} {xs:List Value} {L':List Value->List Atom} (i:Nat) (ok:x6 L [i]=true) (hp:q9 L [i]=[c9 e size (some g) n cap xs]) (hL:∀r,O0 L [i] [.pt g e (xs++r)]=some (L' r))
  (h:∀r:List Value,xs.length=n*size->n<=cap->cap<=maxLen->xs.length+r.length=cap*size->J X K E (L' r)):J X K E L:=by
 refine J.turn [i] ok (α:={r:List Value//xs.length=n*size/\n<=cap/\cap<=maxLen/\xs.length+r.length=cap*size}) (As:=λr=>[.pt g e (xs++r.1)]) (L':=λr=>L' r.1) (λh' s=>?_) (λr=>hL r.1) (λr=>h r.1 r.2.1 r.2.2.1 r.2.2.2.1 r.2.2.2.2);rw[hp]at s;obtain⟨h0,cur,h1,h2,h3,h4,h5⟩:=s.get (i:=0) rfl;refine⟨⟨cur.toList.drop (n*size),h0,h2,h3,?_⟩,Sep.one ?_⟩
 ·have hle:n*size<=cap*size:=Nat.mul_le_mul_right _ h2;have h4':cur.toList.length=cap*size:=h4;rw[List.length_drop,h4',h0];omega
 ·show h' g=_;rw[h1];show some (Obj.cells cur e (0,0))=some (Obj.cells (xs++cur.toList.drop (n*size)).toArray e (0,0));rw[<- h5,List.take_append_drop]
theorem J.closeOwn {e size g n cap:Nat} {xs ys:List Value} {L':List Atom} (i:Nat) (ok:x6 L [i]=true) (hp:q9 L [i]=[.pt g e ys]) (h0:xs.length=n*size) (h2:n<=cap) (h3:cap<=maxLen) (h4:ys.length=cap*size) (h5:ys.take (n*size)=xs)
  (hL:O0 L [i] [c9 e size (some g) n cap xs]=some L') (h:J X K E L'):J X K E L:=by
 refine J.turn1 [i] ok (λh' s=>?_) hL h;rw[hp]at s;exact Sep.one (show N9 e size (some g) n cap xs h' from⟨h0,ys.toArray,s.get (i:=0) rfl,h2,h3,by simpa using h4,by simpa using h5⟩)
theorem J.storeN {T:Tab} (hX:IsCx X P rs N F Post) (hT:TabOK P T) {ops:Array Oper} {C:Cl} {lt:Bool} {i:Nat} {t:PT} {o:Oper} {g:G} {ty0:TypeId} {x y:Operand} {k1 k2 t1 t2 b off ty:Nat} {g1 g2:G} {v:Value} {cs vs:List Value} {ti:TI} {E':Value->Env} (is:Nat)
  (ho:n9 ops.toList i=some o) (hg:gd ops.toList E o=some g) (hgo:g.on=true) (hop:o.op= .store ty0 x y) (hx:ev E x=some ⟨k1, .pointer (some ⟨b,off,none⟩),t1,g1⟩) (v1:g1.on=true) (hy:ev E y=some ⟨k2,v,t2,g2⟩) (v2:g2.on=true)
  (hti:T.get ty0=some ti) (hc:v.cells.toList=vs) (hsz:ti.size=vs.length) (h1:vs.all (·.oneCell')=true) (hL:n9 L is=some (.pt b ty cs)) (hlt:off+vs.length<=cs.length) (cs':List Value) (hcs:cs.take off++vs++cs.drop (off+vs.length)=cs') {L2:List Atom} (hL2:p9 L is (.pt b ty cs')=some L2)
  (hd:∀v,D7 N o.dst v 0 .tt E=some (E' v)) (hJ:Conj (t8 lt C L2)/\J X (.reg ops C t::K) (E' undef) L2):J X (.reg ops C (.alt lt i t .non)::K) E L:=by
 refine J.op hX (S:=λv' L'=>v'=undef/\L'=L.set is (.pt b ty cs')) 0 ho hg hgo (λa0 w hen hs=>?_) hd (λv L' ⟨e1,e2⟩=>by subst e1;subst e2;rw[<- B4 hL2];exact hJ);rw[n5]at hL;have ex:=j3 hen hx;have ey:=j3 hen hy;simp only[Slot.val,v1,v2]at ex ey;obtain⟨d,f,z,ok⟩:=g7 (hT.get hti);have hblk:Blk w b ty cs.toArray:=hs.pt hL;have hput:Q1 cs (off+0) vs=some cs':=by rw[Nat.add_zero,<- hcs];exact a4j _ _ _ hlt
 obtain⟨w',r1,r2,r3⟩:=C9 (P:=P) vs 0 w cs cs' hblk hput h1;have hsize:v.cells.size=f.size:=by
  rw[<- ok.hsize,hsz,<- Array.length_toList,hc]
 refine⟨undef,_, .skip,w',⟨rfl,rfl⟩,?_, .inr ⟨rfl,rfl⟩,?_,r3⟩
 ·simp only[execOp,hop,ex,ey,Instr.storeAt,Instr.sureAddr,Sem.run_bind,Sem.run_pure,Result.andThen_ok,storeVar,m7 ok.hf];simp[hsize,hc,r1]
 ·rw[r2];exact hs.setPt cs' hL
theorem J.makeSlice {T:Tab} (hX:IsCx X P rs N F Post) (hT:TabOK P T) {ops:Array Oper} {C:Cl} {lt:Bool} {i:Nat} {t:PT} {o:Oper} {g:G} {st e by_:Nat} {x y:Operand} {k1 k2 t1 t2 n s1 b1:Nat} {kl kc:IntKind} {g1 g2:G} {z1:List Value} {z:Value} {td:TD} {E':Value->Env} {L2:Nat->List Atom} (tag:Nat)
  (ho:n9 ops.toList i=some o) (hg:gd ops.toList E o=some g) (hgo:g.on=true) (hop:o.op= .makeSlice st x y) (hx:ev E x=some ⟨k1, .int kl n,t1,g1⟩) (v1:g1.on=true) (hy:ev E y=some ⟨k2, .int kc n,t2,g2⟩) (v2:g2.on=true)
  (hst:T.get st=some ⟨.slice e 1,s1,z1,b1⟩) (he:T.get e=some ⟨td,1,[z],by_⟩) (h63:n<=maxLen) (hbytes:by_*n<=281474976710656)
  (hL2:∀b,a0f b1o L (.pt b e (List.replicate n z))=some (L2 b,tag)) (hd:∀v,D7 N o.dst v tag .tt E=some (E' v)) (hJ:∀b,Conj (t8 lt C (L2 b))/\J X (.reg ops C t::K) (E' (.slice (some ⟨b,0,none⟩) n n)) (L2 b)):J X (.reg ops C (.alt lt i t .non)::K) E L:=by
 refine J.op hX (S:=λv' L'=>∃b,v'= .slice (some ⟨b,0,none⟩) n n/\L'=L++[.pt b e (List.replicate n z)]) tag ho hg hgo (λa0 w hen hs=>?_) hd (λv L' ⟨b,e1,e2⟩=>by subst e1;subst e2;rw[<- Q0 (hL2 b)];exact hJ b);have ex:=j3 hen hx;have ey:=j3 hen hy;simp only[Slot.val,v1,v2]at ex ey;obtain⟨d,f,zv,ok⟩:=g7 (hT.get hst);obtain⟨fe,rfl,g1',g2'⟩:=ok.slice rfl;obtain⟨d',f',zv',ok'⟩:=g7 (hT.get he);have hf:fe=f':=by have:=g1'.symm.trans ok'.hf;injection this
 subst hf;have hb2:(fe.bytes:Int)*(n:Int)<=281474976710656:=by
  rw[<- ok'.hbytes];have h:((by_*n:Nat):Int)<=281474976710656:=by omega
  rwa [Int.natCast_mul]at h
 have hr:=run_make (P:=P) w st e fe zv' ok.hd ok'.hf ok'.hz kl kc n n (by omega) (Int.le_refl _) hb2 (by simp[maxLen]at h63;omega);have hz:zv'.cells= #[z]:=by apply Array.toList_inj.1;exact ok'.hzero.symm
 have hs1:fe.size=1:=ok'.hsize.symm;simp only[Int.toNat_natCast,hs1,Nat.mul_one,hz]at hr;refine⟨_,_, .value (.slice (some ⟨w.heap.size,0,none⟩) n n),w.alloc (.cells (madeCells #[z] n) e),⟨w.heap.size,rfl,rfl⟩,?_, .inl rfl,?_,⟨rfl,rfl,rfl,by show w.heap.size<=(w.heap.push _).size;simp⟩⟩
 ·simp only[execOp,hop,ex,ey,hr,Sem.run_bind,Result.andThen_ok,Sem.run_pure]
 ·have e1:Obj.cells (madeCells #[z] n) e (0,0)=Obj.cells (List.replicate n z).toArray e (0,0):=by
   congr 1;apply Array.toList_inj.1;rw[toList_madeCells_one]
  show Sep _ (hl {w with heap:=w.heap.push (Obj.cells (madeCells #[z] n) e (0,0))});rw[e1,a1w];exact hs.snoc (a1x w) (λh' hh=>hh)
theorem J.nextS {α:Type} {I:α->Prop} {Ei:α->Env} {Li:α->List Atom} {μ:α->Nat} {m:Nat} (x:α) (h1:I x) (h2:μ x<m) (is:List Nat) (h3:Conj (a4V E (Ei x))) (ok:x6 L is=true) (hL:q9 L is=Li x):
  J X (.stop (λa w=>Ext X.w0 w/\∃x',I x'/\μ x'<m/\EnvOK X.n (Ei x') a/\Sep (Li x') (hl w))::K) E L:=J.next x h1 h2 h3 (λh' s=>by have:=s.sub is ok;rwa [hL]at this)
theorem J.nS {α:Type} {I:α->Prop} {Ei:α->Env} {Li:α->List Atom} {μ:α->Nat} {m:Nat} (x:α) (h1:I x) (h2:μ x<m) (is:List Nat) (ok:x6 L is=true) (hL:q9 L is=Li x) (h3:Conj (a4V E (Ei x)):=by(repeat' (first | exact Conj.nil | refine Conj.cons ?_ ?_ | omega | exact hq0 | (simpa using hq0) | (exactλh=>h) | exact rfl | (intro hq;have hq0:=hq;try simp only[Bool.and_eq_true,Bool.or_eq_true,decide_eq_true_eq,Bool.not_eq_true',decide_eq_false_iff_not]at hq) | (simp;done) | (simp;omega) | decide))):
  J X (.stop (λa w=>Ext X.w0 w/\∃x',I x'/\μ x'<m/\EnvOK X.n (Ei x') a/\Sep (Li x') (hl w))::K) E L:=J.nextS x h1 h2 is h3 ok hL
theorem D4 {w:World} {n0:Nat} {a:Act} (hT:TabOK P T) {o:Oper} {src dst:TypeId} {x:Operand} {k tg sz b1:Nat} {z1:List Value} {g:G} {k0 k':IntKind} {n:Int} {ti:TI} (hop:o.op= .convert src dst x) (hx:ev E x=some ⟨k, .int k0 n,tg,g⟩) (he:EnvOK n0 E a) (hg:g.on=true) (hd:T.get dst=some ⟨.int k',sz,z1,b1⟩) (hs:T.get src=some ti):
  (execOp a.eval o).run P w= .ok (.value (.int k' (k'.wrap n))) w:=by
 have ex:=j3 he hx;simp only[Slot.val,hg]at ex;obtain⟨d,fi,zv,ok⟩:=g7 (hT.get hd);obtain⟨d',fi',zv',ok'⟩:=g7 (hT.get hs);have:=ok.int rfl;subst this;simp[execOp,hop,ex,convert,d7 ok.hd,d7 ok'.hd,Conv.intToInt]
theorem J.join {α:Type} {k:KI} (E0:α->Env) (L0:α->List Atom) (h1:(∀x,J X K (E0 x) (L0 x))->J X (k::K) E L) (h2:∀x,J X K (E0 x) (L0 x)):J X (k::K) E L:=h1 h2
theorem J.goto {E0:Env} {L0:List Atom} (is:List Nat) (h:J X K E0 L0) (h3:Conj (subV E E0)) (ok:x6 L is=true) (hL:q9 L is=L0):J X K E L:=
 λa w hx he s=>h a w hx (he.subV h3) (by have:=s.sub is ok;rwa [hL]at this)
end
def itP {K:Type} (bm r:Nat) (kv:K->Value) (l:List (K×Value)) (is:List Nat) (h:Hl):Prop:=
 ∃es clock seen,h bm=some (.map es clock)/\h r=some (.mapIter (some bm) clock seen clock)/\es.toList.map (λe=>(e.key,e.val))=l.map (λx=>(kv x.1,x.2))/\(es.toList.map (·.born)).Nodup/\(∀e∈es.toList,e.born<clock)/\
  is.Nodup/\(∀i∈is,i<l.length)/\seen.toList=is.map (λi=>(es.toList.map (·.born)).getD i 0)
def itA {K:Type} (bm r:Nat) (kv:K->Value) (l:List (K×Value)) (is:List Nat):Atom:= .hp ⟨itP bm r kv l is,λ_ _ u ⟨es,c,s,h1,h2,h3⟩=>⟨es,c,s,u _ _ h1,u _ _ h2,h3⟩⟩
theorem b4j {K:Type} {bm r:Nat} {kv:K->Value} {l:List (K×Value)} {is:List Nat} {h:Hl} (s:Sep [itA bm r kv l is] h):Sep [B3 bm kv l] h:=by
 obtain⟨es,c,sn,h1,h2,h3,h4,h5,_⟩:=s.get (i:=0) rfl;exact Sep.one ⟨es,c,h1,h3,h4,h5⟩
theorem b1q {α:Type} {l:List α} (h:l.Nodup) {i j:Nat} (hi:i<l.length) (hj:j<l.length) (e:l[i]=l[j]):i=j:=by
 have h':=List.pairwise_iff_getElem.1 h;rcases Nat.lt_trichotomy i j with h1 | h1 | h1
 ·exact absurd e (h' i j hi hj h1)
 ·exact h1
 ·exact absurd e.symm (h' j i hj hi h1)
theorem b5d {n:Nat} {is:List Nat} (hn:is.Nodup) (hl:∀i∈is,i<n) (hall:∀i,i<n->i∈is):is.Perm (List.range n):=by
 rw[List.perm_iff_count];intro a;rw[List.Nodup.count hn,List.Nodup.count List.nodup_range]
 by_cases h:a∈is
 ·rw[if_pos h,if_pos (List.mem_range.2 (hl a h))]
 ·rw[if_neg h,if_neg (λh2=>h (hall a (List.mem_range.1 h2)))]
theorem Sep.part {L:List Atom} {h:Hl} (s:Sep L h) {i b:Nat} {o':Obj} {A A':Atom} (hA:L[i]? =some A) (hs:∀h',A.sat h'->∃o,h' b=some o) (hs':∀h',Hle h' h->A.sat h'->A'.sat (B5 h' b o')):Sep (L.set i A') (B5 h b o'):=by
 obtain⟨own,hw⟩:=s;obtain⟨o,ho⟩:=hs _ (hw i A hA);have hb:=res_some.1 ho;have hi:i<L.length:=(List.getElem?_eq_some_iff.1 hA).1;refine⟨own,λj B hB=>?_⟩;rw[List.getElem?_set]at hB;split at hB
 ·rename_i e;injection hB with hB;subst hB;subst e;refine Atom.up (λx u hx=>?_) (hs' _ (λb o hb=>(res_some.1 hb).2) (hw _ A hA));rw[res_some];unfold B5 at hx ⊢;split at hx
  ·rename_i e;subst e;exact⟨hb.1,by simpa using hx⟩
  ·rename_i e;rw[res_some]at hx;exact⟨hx.1,by rw[if_neg e];exact hx.2⟩
 ·rename_i e;refine Atom.up (λx u hx=>?_) (hw j B hB);rw[res_some]at hx ⊢;refine⟨hx.1,?_⟩;unfold B5;rw[if_neg]
  ·exact hx.2
  ·rintro rfl;exact e (hb.1.symm.trans hx.1)
theorem Sep.grow {L:List Atom} {h:Hl} (s:Sep L h) {i b:Nat} {o':Obj} {A A':Atom} (hA:L[i]? =some A) (hn:h b=none) (hs':∀h',Hle h' h->h' b=none->A.sat h'->A'.sat (B5 h' b o')):Sep (L.set i A') (B5 h b o'):=by
 obtain⟨own,hw⟩:=s;have hi:i<L.length:=(List.getElem?_eq_some_iff.1 hA).1;have hres:∀k,res h own k b=none:=λk=>by unfold res;split<;>first | exact hn | rfl
 refine⟨λx=>if x=b then i else own x,λj B hB=>?_⟩;rw[List.getElem?_set]at hB;split at hB
 ·rename_i e;injection hB with hB;subst hB;subst e;refine Atom.up (λx u hx=>?_) (hs' _ (λb o hb=>(res_some.1 hb).2) (hres _) (hw _ A hA));rw[res_some];unfold B5 at hx ⊢;split at hx
  ·rename_i e;subst e;exact⟨by simp,by simpa using hx⟩
  ·rename_i e;rw[res_some]at hx;exact⟨by rw[if_neg e];exact hx.1,by rw[if_neg e];exact hx.2⟩
 ·rename_i e;refine Atom.up (λx u hx=>?_) (hw j B hB);rw[res_some]at hx ⊢;have hxb:x≠b:=by rintro rfl;rw[hn]at hx;cases hx.2
  refine⟨by rw[if_neg hxb];exact hx.1,?_⟩;unfold B5;rw[if_neg hxb];exact hx.2
theorem a8m {w:World} {r:Nat} {o o':Obj} (h:hl w r=some o):hl (Go.ChangeMaps.setBlock w r o')=B5 (hl w) r o':=by
 funext x;unfold hl B5 Go.ChangeMaps.setBlock;simp only[Array.getElem?_setIfInBounds]
 by_cases e:x=r
 ·subst e;have hlt:x<w.heap.size:=by
   rcases Nat.lt_or_ge x w.heap.size with h1 | h1
   ·exact h1
   ·simp only[hl]at h;rw[Array.getElem?_eq_none h1]at h;cases h
  simp[hlt]
 ·rw[if_neg (Ne.symm e),if_neg e]
section
variable {X : Cx} {P : Program} {T : Tab} {K : List KI} {E : Env} {L : List Atom} {N : Nat} {F : HP} {Post : Value → List Atom → Prop} {rs : List ResultVar} {KK : Type} {kv : KK → Value}
theorem J.rangeMap (hX:IsCx X P rs N F Post) {ops:Array Oper} {C:Cl} {lt:Bool} {i:Nat} {t:PT} {o:Oper} {g:G} {MT KT ET:TypeId} {x:Operand} {k1 t1 bm:Nat} {g1:G} {l:List (KK×Value)} {E':Value->Env} {L2:Nat->List Atom} (im:Nat)
  (hm:P.underlying MT=some (.map KT ET)) (ho:n9 ops.toList i=some o) (hg:gd ops.toList E o=some g) (hgo:g.on=true) (hop:o.op= .range MT x) (hx:ev E x=some ⟨k1, .map (some bm),t1,g1⟩) (v1:g1.on=true)
  (hL:n9 L im=some (B3 bm kv l)) (hL2:∀r,p9 L im (itA bm r kv l [])=some (L2 r)) (hd:∀v,D7 N o.dst v 0 .tt E=some (E' v))
  (hJ:∀r,Conj (t8 lt C (L2 r))/\J X (.reg ops C t::K) (E' (.pointer (some ⟨r,0,none⟩))) (L2 r)):J X (.reg ops C (.alt lt i t .non)::K) E L:=by
 refine J.op hX (S:=λv' L'=>∃r,v'= .pointer (some ⟨r,0,none⟩)/\L'=L.set im (itA bm r kv l [])) 0 ho hg hgo (λa0 w hen hs=>?_) hd (λv L' ⟨r,e1,e2⟩=>by subst e1;subst e2;rw[<- B4 (hL2 r)];exact hJ r);rw[n5]at hL;have ex:=j3 hen hx;simp only[Slot.val,v1]at ex;obtain⟨es,clock,h1,h2,h3,h4⟩:a9m bm kv l (hl w):=hs.get hL;have hr:=run_range_map (P:=P) w MT KT ET bm es clock hm h1;have hbm:bm≠w.heap.size:=λe=>by
  have:=h1;simp only[hl]at this;rw[e,Array.getElem?_eq_none (Nat.le_refl _)]at this;cases this
 refine⟨_,_, .value (.pointer (some ⟨w.heap.size,0,none⟩)),w.alloc (.mapIter (some bm) clock #[] clock),⟨w.heap.size,rfl,rfl⟩,?_, .inl rfl,?_,⟨rfl,rfl,rfl,by show w.heap.size<=(w.heap.push _).size;simp⟩⟩
 ·simp only[execOp,hop,ex,hr,Sem.run_bind,Result.andThen_ok,Sem.run_pure]
 ·show Sep _ (hl {w with heap:=w.heap.push (Obj.mapIter (some bm) clock #[] clock)});rw[a1w];refine Sep.grow hs hL (a1x w) (λh' hle hn ⟨es',c',q1,q2,q3,q4⟩=>?_);have e1:=(hle _ _ q1).symm.trans h1;simp only[Option.some.injEq,Obj.map.injEq]at e1;obtain⟨rfl,rfl⟩:=e1;exact⟨es',c',#[],by unfold B5;rw[if_neg hbm];exact q1,by unfold B5;rw[if_pos rfl],q2,q3,q4,List.nodup_nil,by simp,rfl⟩
theorem J.rangeNext (hX:IsCx X P rs N F Post) {ops:Array Oper} {C:Cl} {lt:Bool} {i:Nat} {t:PT} {o:Oper} {g:G} {x:Operand} {k1 t1 bm r:Nat} {g1:G} {l:List (KK×Value)} {is:List Nat} {E':Value->Env} {L2:Nat->List Atom} (im:Nat)
  (ho:n9 ops.toList i=some o) (hg:gd ops.toList E o=some g) (hgo:g.on=true) (hop:o.op= .next x false) (hx:ev E x=some ⟨k1, .pointer (some ⟨r,0,none⟩),t1,g1⟩) (v1:g1.on=true)
  (hL:n9 L im=some (itA bm r kv l is)) (hL2:∀j,p9 L im (itA bm r kv l (is++[j]))=some (L2 j)) (hd:∀v,D7 N o.dst v 0 .tt E=some (E' v))
  (h0:is.Perm (List.range l.length)->Conj (t8 lt C L)/\J X (.reg ops C t::K) (E' (.tuple #[.bool false])) L)
  (h1:∀j y,j∉is->l[j]? =some y->Conj (t8 lt C (L2 j))/\J X (.reg ops C t::K) (E' (.tuple #[.bool true,kv y.1,y.2])) (L2 j)):J X (.reg ops C (.alt lt i t .non)::K) E L:=by
 refine J.op hX (S:=λv' L'=>(is.Perm (List.range l.length)/\v'= .tuple #[.bool false]/\L'=L)\/∃j y,j∉is/\l[j]? =some y/\v'= .tuple #[.bool true,kv y.1,y.2]/\L'=L.set im (itA bm r kv l (is++[j]))) 0 ho hg hgo (λa0 w hen hs=>?_) hd (λv L' hS=>by
  rcases hS with⟨e0,e1,e2⟩ | ⟨j,y,e0,e1,e2,e3⟩
  ·subst e1;subst e2;exact h0 e0
  ·subst e2;subst e3;rw[<- B4 (hL2 j)];exact h1 j y e0 e1)
 rw[n5]at hL;have ex:=j3 hen hx;simp only[Slot.val,v1]at ex;obtain⟨es,clock,seen,q1,q2,q3,q4,q5,q6,q7,q8⟩:itP bm r kv l is (hl w):=hs.get hL;have hlen:es.toList.length=l.length:=by have:=congrArg List.length q3;simpa using this
 rcases run_next_at (P:=P) w o.type r bm clock clock seen es clock q2 q1 q5 (Nat.le_refl _)with⟨z1,z2⟩ | ⟨e,z1,w1,z2,z3⟩
 ·refine⟨.tuple #[.bool false],L, .value (.tuple #[.bool false]),w, .inl ⟨?_,rfl,rfl⟩,?_, .inl rfl,hs,Ext.refl _⟩
  ·refine b5d q6 q7 (λj hj=>?_);have hj':j<es.toList.length:=by omega
   have h0:leftOf es seen= #[]:=Array.eq_empty_of_size_eq_zero z1;have hm:es.toList[j]∈es.toList:=List.getElem_mem hj';have hs1:seen.contains (es.toList[j]).born=true:=by
    cases hc:seen.contains (es.toList[j]).born with
    | true=>rfl
    | false=>
     exfalso
     have:es.toList[j]∈leftOf es seen:=by
      unfold leftOf;rw[Array.mem_filter];exact⟨by simpa using hm,by rw[hc];rfl⟩
     rw[h0]at this;simp at this
   have hs2:(es.toList[j]).born∈seen.toList:=by simpa using hs1
   rw[q8,List.mem_map]at hs2;obtain⟨i',hi',e⟩:=hs2;have hi2:i'<es.toList.length:=by have:=q7 i' hi';omega
   have e2:(es.toList.map (·.born))[i']'(by simpa using hi2)=(es.toList.map (·.born))[j]'(by simpa using hj'):=by
    rw[List.getD_eq_getElem?_getD,List.getElem?_eq_getElem (by simpa using hi2),Option.getD_some]at e;rw[e,List.getElem_map]
   have:=b1q q4 _ _ e2;subst this;exact hi'
  ·simp only[execOp,hop,ex,z2,Sem.run_bind,Result.andThen_ok,Sem.run_pure]
 ·have hle:e∈es.toList/\seen.contains e.born=false:=by
   have:e∈leftOf es seen:=by simpa using z1
   unfold leftOf at this;rw[Array.mem_filter]at this;exact⟨by simpa using this.1,by simpa using this.2⟩
  obtain⟨j,hj,hje⟩:=List.mem_iff_getElem.1 hle.1;have hjl:j<l.length:=by omega
  have hkv:(e.key,e.val)=(kv l[j].1,l[j].2):=by
   have h2:(es.toList.map λe=>(e.key,e.val))[j]'(by simpa using hj)=(l.map λx=>(kv x.1,x.2))[j]'(by simpa using hjl):=by simp only[q3]
   rw[List.getElem_map,List.getElem_map,hje]at h2;exact h2
  simp only[Prod.mk.injEq]at hkv;have hbj:(es.toList.map (·.born)).getD j 0=e.born:=by
   rw[List.getD_eq_getElem?_getD,List.getElem?_eq_getElem (by simpa using hj),Option.getD_some,List.getElem_map,hje]
  have hnj:j∉is:=λhm=>by
   have:e.born∈seen.toList:=by rw[q8,List.mem_map];exact⟨j,hm,hbj⟩
   have h2:seen.contains e.born=true:=by simpa using this
   rw[hle.2]at h2;cases h2
  have hw1:hl w1=hl w:=by rcases z2 with rfl | rfl<;>rfl
  have hx1:Ext w w1:=by rcases z2 with rfl | rfl<;>exact⟨rfl,rfl,rfl,Nat.le_refl _⟩
  refine⟨.tuple #[.bool true,kv l[j].1,l[j].2],L.set im (itA bm r kv l (is++[j])), .value (.tuple #[.bool true,e.key,e.val]),Go.ChangeMaps.setBlock w1 r (.mapIter (some bm) clock (seen.push e.born) clock), .inr ⟨j,l[j],hnj,List.getElem?_eq_getElem hjl,rfl,rfl⟩,?_, .inl (by rw[hkv.1,hkv.2]),?_,?_⟩
  ·simp only[execOp,hop,ex,z3,Sem.run_bind,Result.andThen_ok,Sem.run_pure]
  ·rw[a8m (by rw[hw1];exact q2),hw1];refine Sep.part hs hL (λh' ⟨_,_,_,_,u,_⟩=>⟨_,u⟩) (λh' hh ⟨es',c',sn',u1,u2,u3⟩=>?_);have e1:=(hh _ _ u1).symm.trans q1;have e2:=(hh _ _ u2).symm.trans q2;simp only[Option.some.injEq,Obj.map.injEq]at e1;simp only[Option.some.injEq,Obj.mapIter.injEq]at e2;obtain⟨rfl,rfl⟩:=e1;obtain⟨-,-,rfl,-⟩:=e2;have hne:bm≠r:=by rintro rfl;rw[q1]at q2;cases q2
   refine⟨es',c',sn'.push e.born,by unfold B5;rw[if_neg hne];exact u1,by unfold B5;rw[if_pos rfl],q3,q4,q5,?_,?_,?_⟩
   ·rw[List.nodup_append];exact⟨q6,by simp,λa ha b hb=>by simp at hb;subst hb;rintro rfl;exact hnj ha⟩
   ·intro a ha;rw[List.mem_append]at ha;rcases ha with ha | ha
    ·exact q7 a ha
    ·simp at ha;subst ha;exact hjl
   ·rw[Array.toList_push,q8,List.map_append,List.map_cons,List.map_nil,hbj]
  ·exact⟨hx1.os,hx1.tape,hx1.output,Nat.le_trans hx1.size (by simp[Go.ChangeMaps.setBlock])⟩
theorem J.rangeEntry (hX:IsCx X P rs N F Post) {ops:Array Oper} {C:Cl} {lt:Bool} {i:Nat} {t:PT} {o:Oper} {g:G} {x:Operand} {k1 t1 bm r:Nat} {g1:G} {l:List (KK×Value)} {is:List Nat} {j:Nat} {y:KK×Value} {E':Env} (im:Nat)
  (ho:n9 ops.toList i=some o) (hg:gd ops.toList E o=some g) (hgo:g.on=true) (hop:o.op= .entry x) (hx:ev E x=some ⟨k1, .pointer (some ⟨r,0,none⟩),t1,g1⟩) (v1:g1.on=true)
  (hL:n9 L im=some (itA bm r kv l (is++[j]))) (hy:l[j]? =some y) (hd:D7 N o.dst (.tuple #[kv y.1,y.2]) 0 g E=some E')
  (hJ:Conj (t8 lt C L)/\J X (.reg ops C t::K) E' L):J X (.reg ops C (.alt lt i t .non)::K) E L:=by
 refine J.val hX _ 0 ho hg (λ_ a w hen hs=>?_) hd hJ.1 hJ.2;rw[n5]at hL;have ex:=j3 hen hx;simp only[Slot.val,v1]at ex;obtain⟨es,clock,seen,q1,q2,q3,q4,q5,q6,q7,q8⟩:itP bm r kv l (is++[j]) (hl w):=hs.get hL;have hjl:j<l.length:=(List.getElem?_eq_some_iff.1 hy).1;have hlen:es.toList.length=l.length:=by have:=congrArg List.length q3;simpa using this
 have hj:j<es.toList.length:=by omega
 have hkv:((es.toList[j]).key,(es.toList[j]).val)=(kv y.1,y.2):=by
  have h2:(es.toList.map λe=>(e.key,e.val))[j]'(by simpa using hj)=(l.map λx=>(kv x.1,x.2))[j]'(by simpa using hjl):=by simp only[q3]
  rw[List.getElem_map,List.getElem_map,(List.getElem?_eq_some_iff.1 hy).2]at h2;exact h2
 simp only[Prod.mk.injEq]at hkv;have hs:seen=(is.map (λi=>(es.toList.map (·.born)).getD i 0)).toArray.push (es.toList[j]).born:=by
  apply Array.toList_inj.1;rw[q8,Array.toList_push,List.map_append,List.map_cons,List.map_nil,List.getD_eq_getElem?_getD,List.getElem?_eq_getElem (by simpa using hj),Option.getD_some,List.getElem_map]
 have hr:=run_entry_at (P:=P) w r bm clock (is.map (λi=>(es.toList.map (·.born)).getD i 0)).toArray es clock (es.toList[j]) (by rw[<- hs];exact q2) q1 (List.getElem_mem hj) q4;simp only[execOp,hop,ex,hr,Sem.run_bind,Result.andThen_ok,Sem.run_pure,hkv.1,hkv.2]
end
def tab:Tab:=[
 (3,⟨(.int .i64),1,[.int .i64 0],8⟩),
 (1,⟨.other,1,[.nilFunc],8⟩),
 (29,⟨(.arr 16 1),16,[.int .u8 0, .int .u8 0, .int .u8 0, .int .u8 0, .int .u8 0, .int .u8 0, .int .u8 0, .int .u8 0, .int .u8 0, .int .u8 0, .int .u8 0, .int .u8 0, .int .u8 0, .int .u8 0, .int .u8 0, .int .u8 0],16⟩),
 (52,⟨(.row [(0,1,false),(1,1,false),(2,1,false)]),3,[.int .i64 0, .int .i64 0, .int .i64 0],24⟩),
 (2,⟨(.int .i64),1,[.int .i64 0],8⟩),
 (40,⟨(.int .i64),1,[.int .i64 0],8⟩),
 (4,⟨.bool,1,[.bool false],1⟩),
 (24,⟨(.row [(0,1,false),(1,1,false),(2,1,false)]),3,[.int .i64 0, .int .i64 0, .int .i64 0],24⟩),
 (34,⟨(.slice 3 1),1,[.slice none 0 0],24⟩),
 (132,⟨(.row [(0,1,false),(1,1,false),(2,1,false),(3,16,true)]),19,[.int .i64 0, .int .i64 0, .int .i64 0, .int .u8 0, .int .u8 0, .int .u8 0, .int .u8 0, .int .u8 0, .int .u8 0, .int .u8 0, .int .u8 0, .int .u8 0, .int .u8 0, .int .u8 0, .int .u8 0, .int .u8 0, .int .u8 0, .int .u8 0, .int .u8 0],40⟩),
 (37,⟨.ptr,1,[.pointer none],8⟩),
 (222,⟨(.row [(0,16,true),(16,1,false),(17,1,false),(18,1,false),(19,1,false),(20,1,false),(21,1,false),(22,1,false)]),23,[.int .u8 0, .int .u8 0, .int .u8 0, .int .u8 0, .int .u8 0, .int .u8 0, .int .u8 0, .int .u8 0, .int .u8 0, .int .u8 0, .int .u8 0, .int .u8 0, .int .u8 0, .int .u8 0, .int .u8 0, .int .u8 0, .int .i64 0, .int .i64 0, .int .i64 0, .int .i64 0, .int .i64 0, .int .i64 0, .int .i64 0],72⟩),
 (119,⟨.ptr,1,[.pointer none],8⟩),
 (294,⟨(.slice 52 3),1,[.slice none 0 0],24⟩),
 (39,⟨.ptr,1,[.pointer none],8⟩),
 (54,⟨(.row [(0,1,false),(1,1,false),(2,3,true),(5,1,false),(6,1,false)]),7,[.int .i64 0, .int .i64 0, .int .i64 0, .int .i64 0, .int .i64 0, .int .i64 0, .int .i64 0],56⟩),
 (114,⟨(.slice 132 19),1,[.slice none 0 0],24⟩),
 (113,⟨.ptr,1,[.pointer none],8⟩),
 (287,⟨(.int .u64),1,[.int .u64 0],8⟩),
 (5,⟨(.int .u8),1,[.int .u8 0],1⟩),
 (35,⟨(.slice 29 16),1,[.slice none 0 0],24⟩),
 (78,⟨(.slice 54 7),1,[.slice none 0 0],24⟩),
 (155,⟨(.arr 32 1),32,[.int .u8 0, .int .u8 0, .int .u8 0, .int .u8 0, .int .u8 0, .int .u8 0, .int .u8 0, .int .u8 0, .int .u8 0, .int .u8 0, .int .u8 0, .int .u8 0, .int .u8 0, .int .u8 0, .int .u8 0, .int .u8 0, .int .u8 0, .int .u8 0, .int .u8 0, .int .u8 0, .int .u8 0, .int .u8 0, .int .u8 0, .int .u8 0, .int .u8 0, .int .u8 0, .int .u8 0, .int .u8 0, .int .u8 0, .int .u8 0, .int .u8 0, .int .u8 0],32⟩),
 (186,⟨(.row [(0,19,true),(19,3,true),(22,1,false),(23,1,false),(24,1,false)]),25,[.int .i64 0, .int .i64 0, .int .i64 0, .int .u8 0, .int .u8 0, .int .u8 0, .int .u8 0, .int .u8 0, .int .u8 0, .int .u8 0, .int .u8 0, .int .u8 0, .int .u8 0, .int .u8 0, .int .u8 0, .int .u8 0, .int .u8 0, .int .u8 0, .int .u8 0, .int .i64 0, .int .i64 0, .int .i64 0, .int .i64 0, .bool false, .bool false],80⟩),
 (171,⟨(.int .u64),1,[.int .u64 0],8⟩),
 (58,⟨(.row [(0,1,false),(1,16,true)]),17,[.int .i64 0, .int .u8 0, .int .u8 0, .int .u8 0, .int .u8 0, .int .u8 0, .int .u8 0, .int .u8 0, .int .u8 0, .int .u8 0, .int .u8 0, .int .u8 0, .int .u8 0, .int .u8 0, .int .u8 0, .int .u8 0, .int .u8 0],24⟩),
 (125,⟨(.row [(0,1,false),(1,1,false),(2,1,false),(3,1,false),(4,1,false),(5,1,false),(6,1,false)]),7,[.pointer none, .pointer none, .pointer none, .pointer none, .pointer none, .int .i64 0, .bool false],56⟩),
 (123,⟨.ptr,1,[.pointer none],8⟩),
 (183,⟨(.slice 186 25),1,[.slice none 0 0],24⟩),
 (107,⟨(.row [(0,3,true),(3,1,false),(4,1,false),(5,1,false),(6,1,false),(7,1,false),(8,1,false),(9,1,false),(10,1,false),(11,1,false)]),12,[.int .i64 0, .int .i64 0, .int .i64 0, .map none, .pointer none, .slice none 0 0, .bool false, .int .i64 0, .int .i64 0, .bool false, .int .i64 0, .int .i64 0],112⟩),
 (116,⟨(.row [(0,1,false),(1,1,false),(2,1,false),(3,1,false),(4,1,false),(5,1,false)]),6,[.pointer none, .slice none 0 0, .int .i64 0, .slice none 0 0, .int .i64 0, .int .i64 0],80⟩),
 (220,⟨(.slice 222 23),1,[.slice none 0 0],24⟩),
 (109,⟨(.slice 268 34),1,[.slice none 0 0],24⟩),
 (285,⟨(.int .u32),1,[.int .u32 0],4⟩),
 (61,⟨(.row [(0,1,false),(1,1,false),(2,16,true),(18,1,false),(19,1,false),(20,7,true)]),27,[.int .i64 0, .int .i64 0, .int .u8 0, .int .u8 0, .int .u8 0, .int .u8 0, .int .u8 0, .int .u8 0, .int .u8 0, .int .u8 0, .int .u8 0, .int .u8 0, .int .u8 0, .int .u8 0, .int .u8 0, .int .u8 0, .int .u8 0, .int .u8 0, .int .i64 0, .int .i64 0, .int .i64 0, .int .i64 0, .int .i64 0, .int .i64 0, .int .i64 0, .int .i64 0, .int .i64 0],104⟩),
 (203,⟨(.row [(0,1,false),(1,1,false),(2,1,false),(3,1,false),(4,1,false),(5,1,false),(6,1,false)]),7,[.pointer none, .pointer none, .pointer none, .int .i64 0, .int .i64 0, .int .i64 0, .int .i64 0],56⟩),
 (136,⟨(.row [(0,1,false),(1,1,false),(2,1,false)]),3,[.int .i64 0, .int .i64 0, .int .i64 0],24⟩),
 (138,⟨(.row [(0,3,true),(3,1,false),(4,1,false),(5,1,false)]),6,[.int .i64 0, .int .i64 0, .int .i64 0, .int .i64 0, .int .i64 0, .int .i64 0],48⟩),
 (30,⟨.ptr,1,[.pointer none],8⟩),
 (306,⟨(.slice 5 1),1,[.slice none 0 0],24⟩),
 (55,⟨.ptr,1,[.pointer none],8⟩),
 (90,⟨(.slice 4 1),1,[.slice none 0 0],24⟩),
 (80,⟨(.row [(0,1,false),(1,1,false),(2,1,false),(3,1,false),(4,1,false),(5,1,false),(6,1,false),(7,1,false),(8,1,false)]),9,[.pointer none, .pointer none, .int .i64 0, .bool false, .bool false, .bool false, .slice none 0 0, .int .i64 0, .int .i64 0],72⟩),
 (121,⟨.ptr,1,[.pointer none],8⟩),
 (111,⟨(.row [(0,1,false),(1,1,false),(2,1,false),(3,1,false)]),4,[.slice none 0 0, .int .i64 0, .bool false, .bool false],40⟩),
 (224,⟨(.row [(0,1,false),(1,1,false),(2,23,true),(25,1,false)]),26,[.slice none 0 0, .slice none 0 0, .int .u8 0, .int .u8 0, .int .u8 0, .int .u8 0, .int .u8 0, .int .u8 0, .int .u8 0, .int .u8 0, .int .u8 0, .int .u8 0, .int .u8 0, .int .u8 0, .int .u8 0, .int .u8 0, .int .u8 0, .int .u8 0, .int .i64 0, .int .i64 0, .int .i64 0, .int .i64 0, .int .i64 0, .int .i64 0, .int .i64 0, .bool false],128⟩),
 (313,⟨(.int .u64),1,[.int .u64 0],8⟩),
 (170,⟨(.row [(0,1,false),(1,1,false),(2,1,false),(3,1,false)]),4,[.slice none 0 0, .slice none 0 0, .slice none 0 0, .slice none 0 0],96⟩),
 (6,⟨(.int .u8),1,[.int .u8 0],1⟩),
 (341,⟨.other,1,[.nilFunc],8⟩),
 (152,⟨(.row [(0,1,false),(1,1,false),(2,1,false),(3,1,false)]),4,[.pointer none, .pointer none, .pointer none, .slice none 0 0],48⟩),
 (99,⟨(.row [(0,16,true),(16,1,false),(17,1,false),(18,1,false)]),19,[.int .u8 0, .int .u8 0, .int .u8 0, .int .u8 0, .int .u8 0, .int .u8 0, .int .u8 0, .int .u8 0, .int .u8 0, .int .u8 0, .int .u8 0, .int .u8 0, .int .u8 0, .int .u8 0, .int .u8 0, .int .u8 0, .bool false, .slice none 0 0, .slice none 0 0],72⟩),
 (168,⟨(.slice 35 1),1,[.slice none 0 0],24⟩),
 (356,⟨.ptr,1,[.pointer none],8⟩),
 (95,⟨(.slice 99 19),1,[.slice none 0 0],24⟩),
 (103,⟨.map,1,[.map none],8⟩),
 (104,⟨.ptr,1,[.pointer none],8⟩),
 (7,⟨(.row [(0,1,false),(1,1,false),(2,1,false),(3,1,false)]),4,[.int .i64 0, .int .i64 0, .bool false, .int .u8 0],24⟩),
 (204,⟨.ptr,1,[.pointer none],8⟩),
 (311,⟨.ptr,1,[.pointer none],8⟩),
 (201,⟨(.row [(0,1,false)]),1,[.slice none 0 0],24⟩),
 (218,⟨(.row [(0,1,false),(1,1,false),(2,1,false),(3,1,false)]),4,[.int .i64 0, .map none, .map none, .int .i64 0],32⟩),
 (320,⟨(.row [(0,1,false),(1,1,false)]),2,[.slice none 0 0, .int .i64 0],32⟩),
 (318,⟨.ptr,1,[.pointer none],8⟩),
 (91,⟨(.slice 58 17),1,[.slice none 0 0],24⟩),
 (9,⟨.other,1,[.string ⟨#[]⟩],16⟩),
 (180,⟨(.slice 183 1),1,[.slice none 0 0],24⟩),
 (197,⟨(.row [(0,3,true),(3,1,false),(4,1,false)]),5,[.int .i64 0, .int .i64 0, .int .i64 0, .slice none 0 0, .int .i64 0],56⟩),
 (235,⟨.other,1,[.nilFunc],8⟩),
 (268,⟨(.row [(0,32,true),(32,1,false),(33,1,false)]),34,[.int .u8 0, .int .u8 0, .int .u8 0, .int .u8 0, .int .u8 0, .int .u8 0, .int .u8 0, .int .u8 0, .int .u8 0, .int .u8 0, .int .u8 0, .int .u8 0, .int .u8 0, .int .u8 0, .int .u8 0, .int .u8 0, .int .u8 0, .int .u8 0, .int .u8 0, .int .u8 0, .int .u8 0, .int .u8 0, .int .u8 0, .int .u8 0, .int .u8 0, .int .u8 0, .int .u8 0, .int .u8 0, .int .u8 0, .int .u8 0, .int .u8 0, .int .u8 0, .bool false, .bool false],34⟩),
 (97,⟨(.row [(0,1,false)]),1,[.slice none 0 0],24⟩),
 (182,⟨(.row [(0,1,false),(1,1,false)]),2,[.pointer none, .slice none 0 0],32⟩),
 (215,⟨.map,1,[.map none],8⟩),
 (232,⟨(.row [(0,1,false)]),1,[.slice none 0 0],24⟩),
 (333,⟨(.row [(0,1,false),(1,1,false)]),2,[.slice none 0 0, .int .i64 0],32⟩),
 (365,⟨.map,1,[.map none],8⟩),
 (77,⟨.ptr,1,[.pointer none],8⟩),
 (207,⟨(.row [(0,1,false),(1,1,false),(2,1,false),(3,1,false)]),4,[.int .i64 0, .int .i64 0, .bool false, .bool false],24⟩),
 (149,⟨.ptr,1,[.pointer none],8⟩),
 (175,⟨.map,1,[.map none],8⟩),
 (216,⟨.map,1,[.map none],8⟩),
 (8,⟨(.row [(0,1,false),(1,1,false),(2,1,false),(3,1,false)]),4,[.int .i64 0, .int .i64 0, .bool false, .int .u8 0],24⟩),
 (277,⟨(.int .i64),1,[.int .i64 0],8⟩),
 (307,⟨.ptr,1,[.pointer none],8⟩),
 (195,⟨(.slice 207 4),1,[.slice none 0 0],24⟩),
 (67,⟨.other,1,[.nilFunc],8⟩),
 (367,⟨(.row [(0,1,false)]),1,[.map none],8⟩),
 (100,⟨.ptr,1,[.pointer none],8⟩),
 (177,⟨(.row [(0,1,false)]),1,[.map none],8⟩),
 (214,⟨.other,1,[.nilFunc],8⟩),
 (363,⟨(.slice 155 32),1,[.slice none 0 0],24⟩),
 (361,⟨(.slice 34 1),1,[.slice none 0 0],24⟩),
 (157,⟨(.arr 8 1),8,[.bool false, .bool false, .bool false, .bool false, .bool false, .bool false, .bool false, .bool false],8⟩),
 (73,⟨(.slice 61 27),1,[.slice none 0 0],24⟩),
 (108,⟨.ptr,1,[.pointer none],8⟩),
 (368,⟨.map,1,[.map none],8⟩),
 (179,⟨.ptr,1,[.pointer none],8⟩),
 (85,⟨.other,1,[.nilFunc],8⟩),
 (296,⟨.other,1,[.nilFunc],8⟩),
 (74,⟨.ptr,1,[.pointer none],8⟩),
 (190,⟨.other,1,[.nilFunc],8⟩),
 (298,⟨.other,1,[.nilFunc],8⟩),
 (312,⟨(.arr 4 1),4,[.pointer none, .pointer none, .pointer none, .pointer none],32⟩),
 (323,⟨(.arr 4 1),4,[.int .i64 0, .int .i64 0, .int .i64 0, .int .i64 0],32⟩),
 (354,⟨.other,1,[.nilFunc],8⟩),
 (62,⟨.ptr,1,[.pointer none],8⟩),
 (162,⟨(.arr 6 1),6,[.bool false, .bool false, .bool false, .bool false, .bool false, .bool false],6⟩)]
theorem tk:TabOK Tryz.prog tab:=TabOK.mk (by kernel_rfl)
end Go.Proofs.YtgkpkpbnonmopaaGreat
namespace Go.Proofs.YtgkpkpbnonmopaaGreat
open Go.RowKit

theorem b4w (m d:Int) (h0:0<=m) (h1:m<256):(!(bits .and .i64 m (L.one d)==0))=L.has m d:=by
 obtain⟨m,rfl⟩:=Int.eq_ofNat_of_zero_le h0
 by_cases hd:0<=d/\d<8
 ·obtain⟨d,rfl⟩:=Int.eq_ofNat_of_zero_le hd.1;have h2:d<8:=by omega
  simp only[L.one,hd,and_self,if_true,Int.toNat_natCast];have h3:(2:Nat)^d<9223372036854775808:=Nat.lt_of_le_of_lt (Nat.pow_le_pow_right (by omega) (by omega:d<=8)) (by decide);rw[a0j _ _ (by omega) h3,nat_bit];have h4:L.has (m:Int) (d:Int)=m.testBit d:=by simp[L.has,L.set,h1];omega
  have h5:0<2^d:=Nat.pow_pos (by omega);have h6:¬(((2^d:Nat):Int)=0):=by omega
  rw[h4,Nat.testBit_eq_decide_div_mod_eq];rcases Nat.mod_two_eq_zero_or_one (m/2^d)with h | h
  ·simp[h]
  ·rw[h,Nat.one_mul,beq_eq_false_iff_ne.2 h6];rfl
 ·have:L.one d=0:=by simp[L.one,hd]
  rw[this];have h4:L.has (m:Int) d=false:=by
   simp only[L.has,Bool.and_eq_false_iff,decide_eq_false_iff_not];omega
  rw[h4,show(0:Int)=((0:Nat):Int)from rfl,a0j _ _ (by omega) (by omega)];simp

theorem a5A (d:Int):L.one d=0\/∃k:Nat,k<8/\d=k/\L.one d=((2^k:Nat):Int):=by
 by_cases hd:0<=d/\d<8
 ·obtain⟨d,rfl⟩:=Int.eq_ofNat_of_zero_le hd.1;exact .inr ⟨d,by omega,rfl,by simp only[L.one,hd,and_self,if_true,Int.toNat_natCast]⟩
 ·exact .inl (by simp[L.one,hd])
theorem b3B (d:Int):0<=L.one d/\L.one d<256:=by
 rcases a5A d with h | ⟨k,hk,_,h⟩
 ·omega
 ·have:=Nat.pow_le_pow_right (n:=2) (by omega) (by omega:k<=7);rw[h];generalize 2^k=q at*;omega
theorem b0M (m d:Int) (h0:0<=m) (h1:m<256):bits .or .i64 m (L.one d)=L.with_ m d:=by
 obtain⟨m,rfl⟩:=Int.eq_ofNat_of_zero_le h0;obtain⟨k,hk⟩:=Int.eq_ofNat_of_zero_le (b3B d).1;have:=(b3B d).2;rw[hk]at this ⊢;rw[a9u _ _ (by omega) (by omega)];simp[L.with_,L.set,hk,h1]
theorem without_dec:∀m,m<256->∀k,k<8->bits .andNot .i64 ((m:Nat):Int) ((2^k:Nat):Int)=((m&&& (255-2^k):Nat):Int):=by decide+kernel
theorem a6j:∀m,m<256->bits .andNot .i64 ((m:Nat):Int) 0=((m&&& 255:Nat):Int):=by decide+kernel
theorem a6k (m d:Int) (h0:0<=m) (h1:m<256):bits .andNot .i64 m (L.one d)=L.without m d:=by
 obtain⟨m,rfl⟩:=Int.eq_ofNat_of_zero_le h0;have hs:L.set (m:Int)=true:=by simp[L.set];omega
 rcases a5A d with h | ⟨k,hk,_,h⟩
 ·rw[h,a6j _ (by omega)];simp only[L.without,hs,h,if_true,Int.toNat_natCast];rfl
 ·rw[h,without_dec _ (by omega) _ hk];simp only[L.without,hs,h,if_true,Int.toNat_natCast]

set_option maxHeartbeats 400000 in
theorem M3 (m:Int) (w:World):
  Calls Tryz.prog 171 #[.int .i64 m] w λe w'=>e= .returned (.bool (L.set m))/\w=w':=by
 by_cases h0:0<=m
 ·go_enter Tryz.func171,Tryz.ntmps171
  go_wp2
  go_ret
  exact⟨J7 (by simp[L.set,h0]),rfl⟩
 ·go_enter Tryz.func171,Tryz.ntmps171
  go_wp2
  go_ret
  exact⟨J7 (by simp[L.set];omega),rfl⟩

set_option maxHeartbeats 400000 in
theorem V1 (d:Int) (w:World):
  Calls Tryz.prog 172 #[.int .i64 d] w λe w'=>e= .returned (.int .i64 (L.one d))/\w=w':=by
 by_cases h0:d<0
 ·go_enter Tryz.func172,Tryz.ntmps172
  go_wp2
  go_ret
  exact⟨M9 (by simp[L.one];omega),rfl⟩
 ·by_cases h8:8<=d
  ·go_enter Tryz.func172,Tryz.ntmps172
   go_wp2
   go_ret
   exact⟨M9 (by simp[L.one];omega),rfl⟩
  ·obtain⟨d,rfl⟩:=Int.eq_ofNat_of_zero_le (by omega:0<=d);have:d<8:=by omega
   match d,this with
   | 0,_ | 1,_ | 2,_ | 3,_ | 4,_ | 5,_ | 6,_ | 7,_=>
    go_enter Tryz.func172,Tryz.ntmps172
    go_wp2
    go_ret
    exact⟨rfl,rfl⟩

set_option maxHeartbeats 400000 in
theorem a8h (n:Int) (w:World):
  Calls Tryz.prog 208 #[.int .i64 n] w λe w'=>e= .returned (.int .i64 (L.all n))/\w=w':=by
 by_cases h0:n<0
 ·go_enter Tryz.func208,Tryz.ntmps208
  go_wp2
  go_ret
  exact⟨M9 (by simp[L.all];omega),rfl⟩
 ·by_cases h8:8<n
  ·go_enter Tryz.func208,Tryz.ntmps208
   go_wp2
   go_ret
   exact⟨M9 (by simp[L.all];omega),rfl⟩
  ·obtain⟨d,rfl⟩:=Int.eq_ofNat_of_zero_le (by omega:0<=n);have:d<9:=by omega
   match d,this with
   | 0,_ | 1,_ | 2,_ | 3,_ | 4,_ | 5,_ | 6,_ | 7,_ | 8,_=>
    go_enter Tryz.func208,Tryz.ntmps208
    go_wp2
    go_ret
    exact⟨rfl,rfl⟩

set_option maxHeartbeats 400000 in
theorem V3 (m d:Int) (w:World):
  Calls Tryz.prog 120 #[.int .i64 m, .int .i64 d] w λe w'=>e= .returned (.bool (L.has m d))/\w=w':=by
 by_cases h:0<=m/\m<256
 ·have hs:L.set m=true:=by simp[L.set,h]
  have hb:=Lib.hid (b4w m d h.1 h.2)
  go_enter Tryz.func120,Tryz.ntmps120
  go_wp2_with (first | (go_at_call 171;refine(M3 _ _).mono ?_;rintro e w' ⟨rfl,rfl⟩) | (go_at_call 172;refine(V1 _ _).mono ?_;rintro e w' ⟨rfl,rfl⟩))
  go_ret
  exact⟨J7 hb.out,rfl⟩
 ·have hs:L.set m=false:=by simp[L.set];omega
  have hb:=Lib.hid (show L.has m d=false by simp[L.has,hs])
  go_enter Tryz.func120,Tryz.ntmps120
  go_wp2_with (first | (go_at_call 171;refine(M3 _ _).mono ?_;rintro e w' ⟨rfl,rfl⟩) | (go_at_call 172;refine(V1 _ _).mono ?_;rintro e w' ⟨rfl,rfl⟩))
  go_ret
  exact⟨J7 hb.out.symm,rfl⟩

set_option maxHeartbeats 400000 in
theorem b1t (m d:Int) (w:World):
  Calls Tryz.prog 147 #[.int .i64 m, .int .i64 d] w λe w'=>e= .returned (.int .i64 (L.with_ m d))/\w=w':=by
 by_cases h:0<=m/\m<256
 ·have hs:L.set m=true:=by simp[L.set,h]
  have hb:=Lib.hid (b0M m d h.1 h.2)
  go_enter Tryz.func147,Tryz.ntmps147
  go_wp2_with (first | (go_at_call 171;refine(M3 _ _).mono ?_;rintro e w' ⟨rfl,rfl⟩) | (go_at_call 172;refine(V1 _ _).mono ?_;rintro e w' ⟨rfl,rfl⟩))
  go_ret
  exact⟨M9 hb.out,rfl⟩
 ·have hs:L.set m=false:=by simp[L.set];omega
  have hb:=Lib.hid (show L.with_ m d=0 by simp[L.with_,hs])
  go_enter Tryz.func147,Tryz.ntmps147
  go_wp2_with (first | (go_at_call 171;refine(M3 _ _).mono ?_;rintro e w' ⟨rfl,rfl⟩) | (go_at_call 172;refine(V1 _ _).mono ?_;rintro e w' ⟨rfl,rfl⟩))
  go_ret
  exact⟨M9 hb.out.symm,rfl⟩

set_option maxHeartbeats 400000 in
theorem X2 (m d:Int) (w:World):
  Calls Tryz.prog 196 #[.int .i64 m, .int .i64 d] w λe w'=>e= .returned (.int .i64 (L.without m d))/\w=w':=by
 by_cases h:0<=m/\m<256
 ·have hs:L.set m=true:=by simp[L.set,h]
  have hb:=Lib.hid (a6k m d h.1 h.2)
  go_enter Tryz.func196,Tryz.ntmps196
  go_wp2_with (first | (go_at_call 171;refine(M3 _ _).mono ?_;rintro e w' ⟨rfl,rfl⟩) | (go_at_call 172;refine(V1 _ _).mono ?_;rintro e w' ⟨rfl,rfl⟩))
  go_ret
  exact⟨M9 hb.out,rfl⟩
 ·have hs:L.set m=false:=by simp[L.set];omega
  have hb:=Lib.hid (show L.without m d=0 by simp[L.without,hs])
  go_enter Tryz.func196,Tryz.ntmps196
  go_wp2_with (first | (go_at_call 171;refine(M3 _ _).mono ?_;rintro e w' ⟨rfl,rfl⟩) | (go_at_call 172;refine(V1 _ _).mono ?_;rintro e w' ⟨rfl,rfl⟩))
  go_ret
  exact⟨M9 hb.out.symm,rfl⟩

def oc1 (m:Int):Int:=IntKind.u64.wrap (bits BinOp.and IntKind.u64 (m/2) 6148914691236517205+bits BinOp.and IntKind.u64 m 6148914691236517205)
def oc2 (x:Int):Int:=IntKind.u64.wrap (bits BinOp.and IntKind.u64 (x/4) 3689348814741910323+bits BinOp.and IntKind.u64 x 3689348814741910323)
def oc3 (x:Int):Int:=bits BinOp.and IntKind.u64 (IntKind.u64.wrap (x/16+x)) 1085102592571150095
def oc4 (x:Int):Int:=IntKind.u64.wrap (x+x/256)
def oc5 (x:Int):Int:=IntKind.u64.wrap (x+x/65536)
def oc6 (x:Int):Int:=IntKind.u64.wrap (x+x/4294967296)
def oc (m:Int):Int:=bits BinOp.and IntKind.i64 (wrap64 (oc6 (oc5 (oc4 (oc3 (oc2 (oc1 m))))))) 127
theorem b7K:∀m,m<256->oc ((m:Nat):Int)=(L.count (m:Int):Int):=by decide+kernel
theorem b8V (m:Int) (h0:0<=m) (h1:m<256):oc m=(L.count m:Int):=by
 obtain⟨m,rfl⟩:=Int.eq_ofNat_of_zero_le h0;exact b7K m (by omega)
set_option maxHeartbeats 400000 in
theorem b7I (m:Int) (h0:0<=m) (h1:m<256) (w:World):
  Calls Tryz.prog 270 #[.int .u64 m] w λe w'=>e= .returned (.int .i64 (L.count m))/\w=w':=by
 have hoc:=Lib.hid (b8V m h0 h1)
 go_enter Tryz.func270,Tryz.ntmps270
 go_wp2
 go_ret
 exact⟨M9 hoc.out,rfl⟩
set_option maxHeartbeats 400000 in
theorem ones (m:Int) (h0:0<=m) (h1:m<256) (w:World):
  Calls Tryz.prog 241 #[.int .u64 m] w λe w'=>e= .returned (.int .i64 (L.count m))/\w=w':=by
 go_enter Tryz.func241,Tryz.ntmps241
 go_wp2_with (go_at_call 270;refine(b7I _ h0 h1 _).mono ?_;rintro e w' ⟨rfl,rfl⟩)
 go_ret
 exact⟨rfl,rfl⟩
set_option maxHeartbeats 400000 in
theorem x7 (m:Int) (w:World):
  Calls Tryz.prog 192 #[.int .i64 m] w λe w'=>e= .returned (.int .i64 (L.count m))/\w=w':=by
 by_cases h:0<=m/\m<256
 ·have hs:L.set m=true:=by simp[L.set,h]
  obtain⟨h0,h1⟩:=h
  go_enter Tryz.func192,Tryz.ntmps192
  go_wp2_with (first | (go_at_call 171;refine(M3 _ _).mono ?_;rintro e w' ⟨rfl,rfl⟩) | (go_at_call 241;refine(ones _ h0 h1 _).mono ?_;rintro e w' ⟨rfl,rfl⟩))
  go_ret
  exact⟨rfl,rfl⟩
 ·have hs:L.set m=false:=by simp[L.set];omega
  have hb:=Lib.hid (show(L.count m:Int)=0 by simp[L.count,L.dies,hs])
  go_enter Tryz.func192,Tryz.ntmps192
  go_wp2_with (first | (go_at_call 171;refine(M3 _ _).mono ?_;rintro e w' ⟨rfl,rfl⟩))
  go_ret
  exact⟨M9 hb.out.symm,rfl⟩

set_option maxHeartbeats 400000 in
theorem a6N (m i:Int) (hi0: -1000000<=i) (hi1:i<=1000000) (w:World):
  Calls Tryz.prog 195 #[.int .i64 m, .int .i64 i] w λe w'=>e= .returned (.int .i64 (L.at_ m i))/\w=w':=by
 go_enter Tryz.func195,Tryz.ntmps195
 go_wp2
 go_loop [1,6] (λj c=>∃k:Nat,k<=8/\c= .int .i64 k/\j= .int .i64 (i-L.below m k)/\(0<=i->(L.below m k:Int)<=i)) (λ_ c=>8-(intOf c).toNat)
 case atStart=>exact⟨0,by omega,rfl,by rw[L.below_zero];simp,λh=>by rw[L.below_zero];exact h⟩
 case round=>
  obtain⟨k,hk,rfl,rfl,hlow⟩:=hrel;have hbl:L.below m k<=8:=Nat.le_trans (List.length_filter_le _ _) (by simp)
  by_cases hlt:k<8
  ·have hs:=L.below_succ m k hlt;have ha:=L.at_below m k hlt;cases hh:L.has m k
   ·rw[hh]at hs;have hs:=Lib.hid hs;clear ha
    go_wp2_with (go_at_call 120;refine(V3 _ _ _).mono ?_;rintro e w' ⟨rfl,rfl⟩)
    go_round
    case rel=>exact⟨k+1,by omega,by go_num,by rw[hs.out];rfl,by rw[hs.out];exact hlow⟩
    case measure=>simp[intOf];omega
   ·have ha:=Lib.hid (ha hh);rw[hh]at hs;have hs:=Lib.hid hs
    by_cases he:i=L.below m k
    ·have he':(i-(L.below m k:Int)==0)=true:=by simp;omega
     have ha:Hid (L.at_ m i=k):=by rw[he];exact ha
     clear he
     go_wp2_with (go_at_call 120;refine(V3 _ _ _).mono ?_;rintro e w' ⟨rfl,rfl⟩)
     go_ret
     exact⟨M9 ha.out.symm,rfl⟩
    ·have he':(i-(L.below m k:Int)==0)=false:=by simp;omega
     have hlow':0<=i->(L.below m k:Int)+1<=i:=λh=>by have:=hlow h;omega
     clear he hlow
     go_wp2_with (go_at_call 120;refine(V3 _ _ _).mono ?_;rintro e w' ⟨rfl,rfl⟩)
     go_round
     case rel=>exact⟨k+1,by omega,by go_num,by rw[hs.out];simp;omega,by rw[hs.out];simpa using hlow'⟩
     case measure=>simp[intOf];omega
  ·have:k=8:=by omega
   subst this;rw[L.below_eight]at hlow;have ha:=Lib.hid (L.at_ge m i (by omega));clear hlow
   go_wp2
   go_ret
   exact⟨M9 ha.out.symm,rfl⟩

theorem b6U (m:Int) (d:Int) (hh:L.has m d=true):(L.count (bits .and .i64 m (L.all d)):Int)=L.spot m d:=by
 obtain⟨h1,h2,h3,h4⟩:=L.has_lt m d hh;rw[<- L.spot_eq m d hh];obtain⟨m,rfl⟩:=Int.eq_ofNat_of_zero_le h3;obtain⟨d,rfl⟩:=Int.eq_ofNat_of_zero_le h1;have h5:(2:Nat)^d-1<9223372036854775808:=Nat.lt_of_le_of_lt (Nat.le_trans (Nat.sub_le _ _) (Nat.pow_le_pow_right (by omega) (by omega:d<=8))) (by decide);rw[L.all,if_pos (by omega),a0j _ _ (by omega) (by simpa using h5)];simp only[Int.toNat_natCast]

set_option maxHeartbeats 400000 in
theorem a5J (m d:Int) (w:World):
  Calls Tryz.prog 326 #[.int .i64 m, .int .i64 d] w λe w'=>e= .returned (.int .i64 (L.spot m d))/\w=w':=by
 cases hh:L.has m d
 ·have hb:=Lib.hid (show L.spot m d= -1 by simp[L.spot,hh])
  go_enter Tryz.func326,Tryz.ntmps326
  go_wp2_with (first | (go_at_call 120;refine(V3 _ _ _).mono ?_;rintro e w' ⟨rfl,rfl⟩))
  go_ret
  exact⟨M9 hb.out.symm,rfl⟩
 ·have hb:=Lib.hid (b6U m d hh)
  go_enter Tryz.func326,Tryz.ntmps326
  go_wp2_with (first | (go_at_call 120;refine(V3 _ _ _).mono ?_;rintro e w' ⟨rfl,rfl⟩) | (go_at_call 208;refine(a8h _ _).mono ?_;rintro e w' ⟨rfl,rfl⟩) | (go_at_call 192;refine(x7 _ _).mono ?_;rintro e w' ⟨rfl,rfl⟩))
  go_ret
  exact⟨M9 hb.out,rfl⟩
end Go.Proofs.YtgkpkpbnonmopaaGreat
