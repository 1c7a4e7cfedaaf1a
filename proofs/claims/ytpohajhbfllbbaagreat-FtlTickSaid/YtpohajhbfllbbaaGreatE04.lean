/- Helpers. No condition. -/
import Derived.Test.YtpohajhbfllbbaaGreatE03
set_option maxRecDepth 20000
set_option linter.all false
namespace Go.Proofs.YtpohajhbfllbbaaGreat
open Go Go.RowKit
def gd (ops:List Oper) (E:Env) (o:Oper):Option G:=match o.guard with
 | none=>some .tt
 | some (j,want)=>match n7 ops j with
  | some oj=>match oj.dst with
   | some d=>match E.get d with
    | some ⟨_, .bool b,_, .tt⟩=>match want with
     | true=>some (.when b)
     | false=>some (.when (!b))
    | some ⟨_, .bool b,_, .when c⟩=>match want with
     | true=>some (.when (c&&b))
     | false=>some (.when (c&& !b))
    | _=>none
   | none=>none
  | none=>none
def a9b:G->List Prop->List Prop
 | .tt,l=>l
 | .when _,[]=>[]
 | .when b,p::r=>[b=true->Conj (p::r)]
def b5N:Cl->Nat->Option Atom
 | [],_=>none
 | (j,A)::r,i=>match Nat.beq j i with
  | true=>some A
  | false=>b5N r i
def rdC (C:Cl) (L:List Atom):Nat->List Prop
 | 0=>[]
 | i+1=>[b5N C i=n7 L i]
def a9g:Cl->List Atom->List Prop
 | [],_=>[]
 | (i,A)::r,L=>(n7 L i=some A)::a9g r L
def q9 (l:Bool) (C:Cl) (L:List Atom):List Prop:=match l with
 | true=>[]
 | false=>a9g C L
structure SR where
 E:Env
 L:List Atom
 ob:List Prop
 k:Nat
def C6 (N:Nat) (dst:Option Tmp) (v:Value) (tag:Nat) (g:G) (E:Env):Option Env:=match dst with
 | none=>some E
 | some d=>match Nat.blt d N with
  | true=>some (⟨d,v,tag,g⟩::E)
  | false=>none
def Y8 (T:Tab) (N:Nat) (ops:List Oper) (C:Cl) (p:Bool) (i:Nat) (E:Env) (L:List Atom) (k:Nat):Option SR:=match n7 ops i with
 | some o=>match gd ops E o,look T E L o.op with
  | some g,some ⟨v,tag,ob,rd⟩=>match C6 N o.dst v tag g E with
   | some E'=>match p,rd with
    | true,0=>some ⟨E',L,a9b g ob,k⟩
    | true,_+1=>none
    | false,rd=>some ⟨E',L,a9b g (rdC C L rd++ob),k⟩
   | none=>none
  | _,_=>none
 | none=>none
def R8 (T:Tab) (N:Nat) (bs:Nat->Nat) (ops:List Oper) (C:Cl) (l:Bool) (i:Nat) (E:Env) (L:List Atom) (k:Nat):Option SR:=match n7 ops i with
 | some o=>match gd ops E o with
  | some g=>match look T E L o.op with
   | some ⟨v,tag,ob,_⟩=>match C6 N o.dst v tag g E with
    | some E'=>some ⟨E',L,q9 l C L++a9b g ob,k⟩
    | none=>none
   | none=>match g with
    | .tt=>match eff T bs E L k o.op with
     | some ⟨v,tag,L',ob,k'⟩=>match C6 N o.dst v tag .tt E with
      | some E'=>some ⟨E',L',q9 l C L'++ob,k'⟩
      | none=>none
     | none=>none
    | _=>none
  | none=>none
 | none=>none
section
variable {P : Program} {T : Tab} {E : Env} {L : List Atom} {n : Nat} {a : Act} {w : World}
theorem L5 {ops:Array Oper} {o:Oper} {g:G} (he:EnvOK n E a) (h:gd ops.toList E o=some g):Region.wanted o (yielded ops a.tmps)=g.on:=by
 unfold gd at h;unfold Region.wanted;split at h
 ·rename_i hg;injection h with h;subst h;simp[hg,G.on]
 ·rename_i j want hg;split at h
  ·rename_i oj hj;rw[m9]at hj;have hj':ops[j]? =some oj:=by simpa using hj
   split at h
   ·rename_i d hd;have hy:∀s,E.get d=some s->yielded ops a.tmps j=match s.val with | .bool b=>some b | _=>none:=λs hs=>by
     have:=he.slot d s hs;simp only[yielded,hj',Option.bind_some,hd,this];cases s.val<;>rfl
    split at h
    ·rename_i k b t hs;have:=hy _ hs;simp only[Slot.val,G.on]at this;simp only[hg,this];split at h<;>injection h with h<;>subst h<;>cases b<;>rfl
    ·rename_i k b t c hs;have:=hy _ hs;simp only[Slot.val,G.on]at this;simp only[hg];split at h<;>injection h with h<;>subst h<;>cases c<;>cases b<;>simp only[this]<;>rfl
    ·cases h
   ·cases h
  ·cases h
theorem a0x {g:G} {l:List Prop} (h:Conj (a9b g l)) (hg:g.on=true):Conj l:=by
 cases g with
 | tt=>exact h
 | when b=>
  cases l with
  | nil=>trivial
  | cons p r=>exact h.1 hg
theorem A5 {N:Nat} {dst:Option Tmp} {v:Value} {tag:Nat} {g:G} {E':Env} (he:EnvOK N E a) (h:C6 N dst v tag g E=some E') (u:Value) (hu:u=match g.on with | true=>v | false=>undef):EnvOK N E' (a.put dst u):=by
 unfold C6 at h;split at h
 ·injection h with h;subst h;exact he
 ·rename_i d;split at h
  ·rename_i hd;injection h with h;subst h;exact he.put (Nat.le_of_ble_eq_true hd) v tag g u hu
  ·cases h
theorem g7:∀{C:Cl} {i:Nat} {A:Atom},b5N C i=some A->(i,A)∈C
 | (j,B)::r,i,A,h=>by
  simp only[b5N]at h;split at h
  ·rename_i e;have:=Nat.eq_of_beq_eq_true e;subst this;injection h with h;subst h;exact List.mem_cons_self ..
  ·exact List.mem_cons_of_mem _ (g7 h)
theorem a3b:∀{C:Cl} {L:List Atom} {w:World},Conj (a9g C L)->Sep L (hl w)->CAt C w
 | [],L,w,h,hs=>by intro p hp;cases hp
 | (i,A)::r,L,w,h,hs=>by
  intro p hp;rcases List.mem_cons.1 hp with rfl | hp
  ·have:=h.1;rw[m9]at this;exact hs.get this
  ·exact a3b h.2 hs p hp
theorem x7 {l:Bool} {C:Cl} {L:List Atom} {w:World} (h:Conj (q9 l C L)) (hs:Sep L (hl w)) (e:l=false):CAt C w:=by
 subst e;exact a3b h hs
theorem a4t (hT:TabOK P T) {N:Nat} {ops:Array Oper} {C:Cl} {p:Bool} {i k:Nat} {r:SR} (h:Y8 T N ops.toList C p i E L k=some r) (hob:Conj r.ob):
  r.L=L/\r.k=k/\∃o,ops[i]? =some o/\∀a,EnvOK N E a->∃v,YldIn P ops (λw=>p=false->CAt C w) o v a/\EnvOK N r.E (a.put o.dst v):=by
 unfold Y8 at h;split at h
 ·rename_i o ho;rw[m9]at ho;have ho':ops[i]? =some o:=by simpa using ho
  split at h
  ·rename_i g v tag ob rd hg hq;split at h
   ·rename_i E' hE;split at h
    ·injection h with h;subst h;refine⟨rfl,rfl,o,ho',λa he=>⟨_,?_,A5 he hE _ rfl⟩⟩;have hw:=L5 he hg;cases hon:g.on with
     | false=>exact .inr ⟨by rw[hw,hon],rfl⟩
     | true=>exact .inl ⟨by rw[hw,hon],λw _=>a3K hT he hq (a0x hob hon) λi A hi hA=>by cases hi⟩
    ·cases h
    ·injection h with h;subst h;refine⟨rfl,rfl,o,ho',λa he=>⟨_,?_,A5 he hE _ rfl⟩⟩;have hw:=L5 he hg;cases hon:g.on with
     | false=>exact .inr ⟨by rw[hw,hon],rfl⟩
     | true=>
      have hob2:=a0x hob hon;obtain⟨o1,o2⟩:=Conj.app hob2;refine .inl ⟨by rw[hw,hon],λw hC=>a3K hT he hq o2 λi A hi hA=>?_⟩;have hi':rd=i+1:=hi;rw[hi']at o1;have h1:=o1.1;rw[m9,hA]at h1;exact hC rfl _ (g7 h1)
   ·cases h
  ·cases h
 ·cases h
theorem a6E (hT:TabOK P T) {N:Nat} {bs:Nat->Nat} {ops:Array Oper} {C:Cl} {l:Bool} {i k:Nat} {r:SR} (h:R8 T N bs ops.toList C l i E L k=some r) (hob:Conj r.ob):
  ∃o,ops[i]? =some o/\∀a w,EnvOK N E a->Sep L (hl w)->(r.k=k\/bs k=w.heap.size)->sOp P ops o (λa' w'=>(l=false->CAt C w')/\EnvOK N r.E a'/\Sep r.L (hl w')/\Ext w w') a w:=by
 unfold R8 at h;split at h
 ·rename_i o ho;rw[m9]at ho;have ho':ops[i]? =some o:=by simpa using ho
  split at h
  ·rename_i g hg;split at h
   ·rename_i v tag ob rd hq;split at h
    ·rename_i E' hE;injection h with h;subst h;obtain⟨o1,o2⟩:=Conj.app hob;refine⟨o,ho',λa w he hs _=>?_⟩;have hw:=L5 he hg;unfold sOp;cases hon:g.on with
     | false=>
      rw[if_neg (by rw[hw,hon];simp)];exact⟨x7 o1 hs,A5 he hE _ (by rw[hon]),hs,Ext.refl _⟩
     | true=>
      rw[if_pos (by rw[hw,hon]),a3K hT he hq (a0x o2 hon) λi A _ hA=>hs.get hA];exact⟨x7 o1 hs,A5 he hE _ (by rw[hon]),hs,Ext.refl _⟩
    ·cases h
   ·split at h
    ·split at h
     ·rename_i v tag L' ob k' hq;split at h
      ·rename_i E' hE;injection h with h;subst h;obtain⟨o1,o2⟩:=Conj.app hob;refine⟨o,ho',λa w he hs hk=>?_⟩;have hw:=L5 he hg;obtain⟨nv,w',r1,r2,r3,r4⟩:=a9L hT he hq o2 hs hk;unfold sOp;rw[if_pos (by rw[hw];rfl),r1];rcases r2 with rfl | ⟨rfl,r2⟩
       ·exact⟨x7 o1 r3,A5 he hE _ rfl,r3,r4⟩
       ·exact⟨x7 o1 r3,A5 he hE _ (by simp only at r2;rw[r2];rfl),r3,r4⟩
      ·cases h
     ·cases h
    ·cases h
  ·cases h
 ·cases h
end

theorem b1l {T:Tab} {b0 bs:Nat->Nat} {E:Env} {L:List Atom} {k:Nat} {op:Op} {r:ER} (h:eff T b0 E L k op=some r):(r.k=k\/r.k=k+1)/\((k<r.k->bs k=b0 k)->eff T bs E L k op=some r):=by
 unfold eff at h ⊢;split at h
 ·split at h
  ·rename_i s s' h1 h2;refine⟨.inl ?_,λ_=>by first | exact h | (rw[h1,h2];exact h) | (simp only[h1,h2];exact h)⟩;unfold a2P at h
   (repeat' split at h)<;>first | (cases h;done) | (injection h with h;subst h;rfl)
  ·cases h
 ·split at h
  ·rename_i h1;split at h
   ·rename_i h2;injection h with h;subst h;exact⟨.inr rfl,λhb=>by simp only[h1,hb (Nat.lt_succ_self k),h2]⟩
   ·cases h
  ·cases h
 ·split at h
  ·rename_i h1;split at h
   ·rename_i h2;injection h with h;subst h;exact⟨.inr rfl,λhb=>by simp only[h1,hb (Nat.lt_succ_self k),h2]⟩
   ·cases h
  ·cases h
 ·unfold W7 at h ⊢;split at h
  ·rename_i h1 h2;split at h
   ·rename_i h3;split at h
    ·rename_i h4 h5 h6;split at h
     ·rename_i h7;injection h with h;subst h;exact⟨.inr rfl,λhb=>by simp only[h1,h2,h3,h4,h5,h6,hb (Nat.lt_succ_self k),h7]⟩
     ·cases h
    ·cases h
   ·cases h
  ·cases h
 ·split at h
  ·rename_i h2;injection h with h;subst h;exact⟨.inr rfl,λhb=>by rw[hb (Nat.lt_succ_self k)];simp only[h2]⟩
  ·cases h
 ·cases h
theorem L7 {T:Tab} {N:Nat} {b0 bs:Nat->Nat} {ops:List Oper} {C:Cl} {l:Bool} {i k:Nat} {E:Env} {L:List Atom} {r:SR} (h:R8 T N b0 ops C l i E L k=some r):(r.k=k\/r.k=k+1)/\((k<r.k->bs k=b0 k)->R8 T N bs ops C l i E L k=some r):=by
 unfold R8 at h ⊢;split at h
 ·rename_i o ho;split at h
  ·rename_i g hg;split at h
   ·rename_i q hq;split at h
    ·rename_i E' hE;injection h with h;subst h;exact⟨.inl rfl,λ_=>by simp only[ho,hg,hq,hE]⟩
    ·cases h
   ·rename_i hq;split at h
    ·split at h
     ·rename_i q hq2;split at h
      ·rename_i E' hE;injection h with h;subst h;obtain⟨c1,c2⟩:=b1l (bs:=bs) hq2;exact⟨c1,λhb=>by simp only[ho,hg,hq,c2 hb,hE]⟩
      ·cases h
     ·cases h
    ·cases h
  ·cases h
 ·cases h
def b1S {α:Type}:List Prop->(List Prop->α)->α
 | [],f=>f []
 | p::r,f=>b1S r λl=>f (p::l)
theorem a2C {α:Type}:∀(l:List Prop) (f:List Prop->α),b1S l f=f l
 | [],f=>rfl
 | p::r,f=>by rw[b1S,a2C r]
structure RS where
 K:List KI
 E:Env
 L:List Atom
 ob:List Prop
def run (T:Tab) (N:Nat) (bs:Nat->Nat):Nat->List KI->Env->List Atom->List Prop->Nat->RS
 | 0,K,E,L,ob,_=>⟨K,E,L,ob⟩
 | n+1,K,E,L,ob,k=>match K with
  | .blk _::K'=>run T N bs n K' E L ob k
  | .code (.seq x y)::K'=>run T N bs n (.code x:: .code y::K') E L ob k
  | .code .skip::K'=>run T N bs n K' E L ob k
  | .code (.block id c)::K'=>run T N bs n (.code c:: .blk id::K') E L ob k
  | .code (.exit id)::K'=>match a3W id K' with
   | some K2=>run T N bs n K2 E L ob k
   | none=>⟨.code (.exit id)::K',E,L,ob⟩
  | .code (.region _ ops false)::K'=>run T N bs n (.reg ops [] (PT.seq 0 ops.size)::K') E L ob k
  | .reg _ _ .done::K'=>run T N bs n K' E L ob k
  | .reg ops C (.take p i t)::K'=>match Y8 T N ops.toList C p i E L k with
   | some ⟨E',L',ob',k'⟩=>b1S (ob'++ob) λob2=>run T N bs n (.reg ops C t::K') E' L' ob2 k'
   | none=>⟨.reg ops C (.take p i t)::K',E,L,ob⟩
  | .reg ops C (.alt l i t .non)::K'=>match R8 T N bs ops.toList C l i E L k with
   | some ⟨E',L',ob',k'⟩=>b1S (ob'++ob) λob2=>run T N bs n (.reg ops C t::K') E' L' ob2 k'
   | none=>⟨.reg ops C (.alt l i t .non)::K',E,L,ob⟩
  | K=>⟨K,E,L,ob⟩
theorem b0o {X:Cx} {T:Tab} (hT:TabOK X.P T):∀(n:Nat) (K:List KI) (E:Env) (L:List Atom) (ob:List Prop) (k:Nat) (b0:Nat->Nat),
  (∀bs:Nat->Nat,(∀i,i<k->bs i=b0 i)->Conj (run T X.n bs n K E L ob k).ob/\J X (run T X.n bs n K E L ob k).K (run T X.n bs n K E L ob k).E (run T X.n bs n K E L ob k).L)->Conj ob/\J X K E L:=by
 intro n
 induction n with
 | zero=>intro K E L ob k b0 h;exact h b0 (λ_ _=>rfl)
 | succ n ih=>
  intro K E L ob k b0 h;unfold run at h;split at h
  ·obtain⟨h1,h2⟩:=ih _ _ _ _ k b0 h;exact⟨h1,J.blk h2⟩
  ·obtain⟨h1,h2⟩:=ih _ _ _ _ k b0 h;exact⟨h1,J.seq h2⟩
  ·obtain⟨h1,h2⟩:=ih _ _ _ _ k b0 h;exact⟨h1,J.skip h2⟩
  ·obtain⟨h1,h2⟩:=ih _ _ _ _ k b0 h;exact⟨h1,J.block h2⟩
  ·rename_i id K';cases hx:a3W id K' with
   | some K2=>simp only[hx]at h;obtain⟨h1,h2⟩:=ih _ _ _ _ k b0 h;exact⟨h1,J.exit hx h2⟩
   | none=>simp only[hx]at h;exact h b0 (λ_ _=>rfl)
  ·obtain⟨h1,h2⟩:=ih _ _ _ _ k b0 h;exact⟨h1,J.code_reg h2⟩
  ·obtain⟨h1,h2⟩:=ih _ _ _ _ k b0 h;exact⟨h1,J.reg_done h2⟩
  ·rename_i ops C p i t K';cases hs:Y8 T X.n ops.toList C p i E L k with
   | none=>simp only[hs]at h;exact h b0 (λ_ _=>rfl)
   | some r=>
    obtain⟨E',L',ob',k'⟩:=r;simp only[hs,a2C]at h;have hk:k'=k:=by
     unfold Y8 at hs
     (repeat' split at hs)<;>first | (cases hs;done) | (injection hs with hs;injection hs with _ _ _ e;exact e.symm)
    subst hk;obtain⟨h1,h2⟩:=ih _ _ _ _ k' b0 h;obtain⟨o2,o1⟩:=Conj.app h1;refine⟨o1,λa w hx he hsp=>?_⟩;obtain⟨e1,_,o,ho,hy⟩:=a4t (P:=X.P) hT hs o2;obtain⟨v,y1,y2⟩:=hy a he;simp only at e1;subst e1;exact⟨o,v,ho,y1,h2 _ w hx y2 hsp⟩
  ·rename_i ops C l i t K';refine⟨?_,λa w hx he hsp=>?_⟩
   ·have:=h b0 (λ_ _=>rfl);cases hs:R8 T X.n b0 ops.toList C l i E L k with
    | none=>simp only[hs]at this;exact this.1
    | some r=>
     obtain⟨E',L',ob',k'⟩:=r;have hk:k<=k':=by rcases(L7 (bs:=b0) hs).1 with e | e<;>simp only at e<;>omega
     have h':∀bs:Nat->Nat,(∀i,i<k'->bs i=b0 i)->Conj (run T X.n bs n (.reg ops C t::K') E' L' (ob'++ob) k').ob/\J X (run T X.n bs n (.reg ops C t::K') E' L' (ob'++ob) k').K (run T X.n bs n (.reg ops C t::K') E' L' (ob'++ob) k').E (run T X.n bs n (.reg ops C t::K') E' L' (ob'++ob) k').L:=λbs hb=>by
      have:=h bs (λi hi=>hb i (by omega));rw[(L7 (bs:=bs) hs).2 (λe=>hb k e)]at this;simpa only[a2C]using this
     exact(Conj.app (ih _ _ _ _ k' b0 h').1).2
   ·let b1:Nat->Nat:=λi=>if i=k then w.heap.size else b0 i
    have hb1:∀i,i<k->b1 i=b0 i:=λi hi=>by show(if i=k then _ else _)=_;rw[if_neg (by omega)]
    have hbk:b1 k=w.heap.size:=by show(if k=k then _ else _)=_;rw[if_pos rfl]
    cases hs:R8 T X.n b1 ops.toList C l i E L k with
    | none=>have:=h b1 hb1;simp only[hs]at this;exact this.2 a w hx he hsp
    | some r=>
     obtain⟨E',L',ob',k'⟩:=r;have hk:k<=k':=by rcases(L7 (bs:=b0) hs).1 with e | e<;>simp only at e<;>omega
     have h':∀bs:Nat->Nat,(∀i,i<k'->bs i=b1 i)->Conj (run T X.n bs n (.reg ops C t::K') E' L' (ob'++ob) k').ob/\J X (run T X.n bs n (.reg ops C t::K') E' L' (ob'++ob) k').K (run T X.n bs n (.reg ops C t::K') E' L' (ob'++ob) k').E (run T X.n bs n (.reg ops C t::K') E' L' (ob'++ob) k').L:=λbs hb=>by
      have:=h bs (λi hi=>(hb i (by omega)).trans (hb1 i hi));rw[(L7 (bs:=bs) hs).2 (λe=>hb k e)]at this;simpa only[a2C]using this
     obtain⟨h1,h2⟩:=ih _ _ _ _ k' b1 h';obtain⟨o,ho,hstep⟩:=a6E (P:=X.P) hT hs (Conj.app h1).1;exact⟨⟨o,ho,(hstep a w he hsp (.inr hbk)).mono λa' w' ⟨q1,q2,q3,q4⟩=>⟨q1,h2 a' w' (hx.trans q4) q2 q3⟩⟩,trivial⟩
  ·exact h b0 (λ_ _=>rfl)
def a4w (E:Env):Env->List Prop
 | []=>[]
 | s::r=>(E.get s.k=some s)::a4w E r
theorem Env.sub_of {E:Env}:∀{E':Env},Conj (a4w E E')->E.sub E'
 | [],_,k,s,h=>by cases h
 | s'::r,hc,k,s,h=>by
  simp only[Env.get]at h;split at h
  ·rename_i e;have:=Nat.eq_of_beq_eq_true e;injection h with h;subst h;rw[<- this];exact hc.1
  ·exact Env.sub_of hc.2 k s h
structure IsCx (X:Cx) (P:Program) (rs:List ResultVar) (N:Nat) (F:HP) (Post:Value->List Atom->Prop):Prop where
 hP:X.P=P
 hrs:X.fn.results.toList=rs
 hN:X.n=N
 hR:X.R=λe w'=>∃v As,e= .returned v/\Post v As/\Sep (.hp F::As) (hl w')/\Ext X.w0 w'
def a2s:List Nat->List Value->List Nat->Env
 | k::ks,v::r,[]=>⟨k,v,0, .tt⟩::a2s ks r []
 | k::ks,v::r,t::ts=>⟨k,v,t, .tt⟩::a2s ks r ts
 | _,_,_=>[]
def keys:List Nat:=[0,1,2,3,4,5,6,7,8,9,10,11]
def b7V:List Nat->Nat->Prop
 | [],_=>True
 | k::ks,n=>k=n/\b7V ks (n+1)
theorem a5E:∀(l:List Value) (k:Nat) (ks:List Nat) (ts:List Nat) (j:Nat) (s:Slot),b7V ks k->(a2s ks l ts).get j=some s->∃i,j=k+i/\l[i]? =some s.val
 | [],k,ks,ts,j,s,_,h=>by cases ks<;>simp[a2s,Env.get]at h
 | v::r,k,[],ts,j,s,_,h=>by simp[a2s,Env.get]at h
 | v::r,k,k'::ks,ts,j,s,hr,h=>by
  have key:∀(t:Nat) (ts':List Nat),Env.get (⟨k',v,t, .tt⟩::a2s ks r ts') j=some s->∃i,j=k+i/\(v::r)[i]? =some s.val:=by
   intro t ts' h;simp only[Env.get]at h;split at h
   ·rename_i e;have:=Nat.eq_of_beq_eq_true e;injection h with h;subst h;exact⟨0,by rw[<- this,hr.1];rfl,by simp[Slot.val,G.on]⟩
   ·obtain⟨i,e1,e2⟩:=a5E r (k+1) ks ts' j s hr.2 h;exact⟨i+1,by omega,by simpa using e2⟩
  cases ts with
  | nil=>exact key _ _ h
  | cons t ts=>exact key _ _ h
theorem Fn.enter {P:Program} {f:FuncId} {args:List Value} {Pre:List Atom} {Post:Value->List Atom->Prop} {fn:Func} {c:Code} {N:Nat} (tags:List Nat) (hf:P.funcs[f]? =some fn) (hb:fn.body=some c) (hN:fn.ntmps=N) (hl:Nat.ble args.length N=true)
  (h:∀(X:Cx) (F:HP),IsCx X P fn.results.toList N F Post->J X [.code c] (a2s keys args tags) (.hp F::Pre)):Fn P f args Pre Post:=by
 intro F w hs;have hle:=Nat.le_of_ble_eq_true hl;have hX:IsCx ⟨P,fn,N,λe w'=>∃v As,e= .returned v/\Post v As/\Sep (.hp F::As) (Go.Proofs.YtpohajhbfllbbaaGreat.hl w')/\Ext w w',w⟩ P fn.results.toList N F Post:=⟨rfl,rfl,rfl,rfl⟩;have hJ:=h _ F hX;refine calls_of_wp hf hb ?_;refine hJ {tmps:=args.toArray++Array.replicate (fn.ntmps-args.toArray.size) undef,defers:=[]} w (Ext.refl w) ⟨by simp;omega,rfl,λk s hk=>?_⟩ hs;obtain⟨i,e1,e2⟩:=a5E args 0 keys tags k s ⟨rfl,rfl,rfl,rfl,rfl,rfl,rfl,rfl,rfl,rfl,rfl,rfl,trivial⟩ hk;have hi:i<args.length:=(List.getElem?_eq_some_iff.1 e2).1;have:k=i:=by omega
 subst this;rw[Array.getElem?_append,if_pos (by simpa using hi)];simpa using e2
section
variable {X : Cx} {P : Program} {T : Tab} {K : List KI} {E : Env} {L : List Atom} {N : Nat} {F : HP} {Post : Value → List Atom → Prop} {rs : List ResultVar}
theorem J.run (hX:IsCx X P rs N F Post) (hT:TabOK P T) (n:Nat) {K':(Nat->Nat)->List KI} {E':(Nat->Nat)->Env} {L':(Nat->Nat)->List Atom} {ob:(Nat->Nat)->List Prop}
  (h:∀bs,Go.Proofs.YtpohajhbfllbbaaGreat.run T N bs n K E L [] 0=⟨K' bs,E' bs,L' bs,ob bs⟩) (hob:∀bs,Conj (ob bs)) (hJ:∀bs,J X (K' bs) (E' bs) (L' bs)):J X K E L:=by
 have hT':TabOK X.P T:=by rw[hX.hP];exact hT
 refine(b0o hT' n K E L [] 0 (λ_=>0) λbs _=>?_).2;rw[hX.hN,h bs];exact⟨hob bs,hJ bs⟩
theorem J.r (hX:IsCx X P rs N F Post) (hT:TabOK P T) (n:Nat) {K':(Nat->Nat)->List KI} {E':(Nat->Nat)->Env} {L':(Nat->Nat)->List Atom} {ob:(Nat->Nat)->List Prop}
  (h:∀bs,Go.Proofs.YtpohajhbfllbbaaGreat.run T N bs n K E L [] 0=⟨K' bs,E' bs,L' bs,ob bs⟩) (hJ:∀bs,J X (K' bs) (E' bs) (L' bs)) (hob:∀bs,Conj (ob bs):=by intro bs;(repeat' (first | exact Conj.nil | refine Conj.cons ?_ ?_ | omega | exact hq0 | (simpa using hq0) | (exactλh=>h) | exact rfl | (intro hq;have hq0:=hq;try simp only[Bool.and_eq_true,Bool.or_eq_true,decide_eq_true_eq,Bool.not_eq_true',decide_eq_false_iff_not]at hq) | (simp;done) | (simp;omega) | decide))):J X K E L:=J.run hX hT n h hob hJ
theorem J.loopN {c:Code} {α:Type} (I:α->Prop) (Ei:α->Env) (is:List Nat) (As:α->List Atom) (μ:α->Nat) (x0:α) {Li:α->List Atom} (h0:I x0) (hE:Conj (a4w E (Ei x0))) (ok:x5 L is=true) (hA:s6 L is=As x0) (hLi:∀x,K4 L is (As x)=some (Li x))
  (round:∀x,I x->J X (.code c:: .stop (λa w=>Ext X.w0 w/\∃x',I x'/\μ x'<μ x/\EnvOK X.n (Ei x') a/\Sep (Li x') (hl w))::K) (Ei x) (Li x)):J X (.code (.loop c)::K) E L:=
 J.loop I Ei Li μ x0 h0 (Env.sub_of hE) (λh s=>by
  have:=s.turn1 is ok (As:=As x0) (λh' s'=>by rw[hA]at s';exact s')
  rwa [<- V7 (I0 ok).1 (hLi x0)]at this) round
theorem J.lo {c:Code} {α:Type} (I:α->Prop) (Ei:α->Env) (is:List Nat) (As:α->List Atom) (μ:α->Nat) (x0:α) {Li:α->List Atom} (h0:I x0) (ok:x5 L is=true) (hA:s6 L is=As x0) (hLi:∀x,K4 L is (As x)=some (Li x))
  (round:∀x,I x->J X (.code c:: .stop (λa w=>Ext X.w0 w/\∃x',I x'/\μ x'<μ x/\EnvOK X.n (Ei x') a/\Sep (Li x') (hl w))::K) (Ei x) (Li x)) (hE:Conj (a4w E (Ei x0)):=by(repeat' (first | exact Conj.nil | refine Conj.cons ?_ ?_ | omega | exact hq0 | (simpa using hq0) | (exactλh=>h) | exact rfl | (intro hq;have hq0:=hq;try simp only[Bool.and_eq_true,Bool.or_eq_true,decide_eq_true_eq,Bool.not_eq_true',decide_eq_false_iff_not]at hq) | (simp;done) | (simp;omega) | decide))):J X (.code (.loop c)::K) E L:=J.loopN I Ei is As μ x0 h0 hE ok hA hLi round
theorem J.next {α:Type} {I:α->Prop} {Ei:α->Env} {Li:α->List Atom} {μ:α->Nat} {m:Nat} (x:α) (h1:I x) (h2:μ x<m) (h3:Conj (a4w E (Ei x))) (h4:∀h,Sep L h->Sep (Li x) h):
  J X (.stop (λa w=>Ext X.w0 w/\∃x',I x'/\μ x'<m/\EnvOK X.n (Ei x') a/\Sep (Li x') (hl w))::K) E L:=J.stop x h1 h2 (Env.sub_of h3) h4
theorem J.nx {α:Type} {I:α->Prop} {Ei:α->Env} {Li:α->List Atom} {μ:α->Nat} {m:Nat} (x:α) (h1:I x) (h2:μ x<m) (h4:∀h,Sep L h->Sep (Li x) h) (h3:Conj (a4w E (Ei x)):=by(repeat' (first | exact Conj.nil | refine Conj.cons ?_ ?_ | omega | exact hq0 | (simpa using hq0) | (exactλh=>h) | exact rfl | (intro hq;have hq0:=hq;try simp only[Bool.and_eq_true,Bool.or_eq_true,decide_eq_true_eq,Bool.not_eq_true',decide_eq_false_iff_not]at hq) | (simp;done) | (simp;omega) | decide))):
  J X (.stop (λa w=>Ext X.w0 w/\∃x',I x'/\μ x'<m/\EnvOK X.n (Ei x') a/\Sep (Li x') (hl w))::K) E L:=J.next x h1 h2 h3 h4
def b2i (T:Tab) (E:Env) (L:List Atom):ResultVar->Option (Value×List Prop)
 | .tmp t=>match E.get t with
  | some s=>some (s.v,L8 s)
  | none=>none
 | .cell p t=>match E.get p with
  | some s=>match a0E T L t s with
   | some r=>some (r.v,r.ob)
   | none=>none
  | none=>none
def a4R (T:Tab) (E:Env) (L:List Atom):List ResultVar->Option (List Value×List Prop)
 | []=>some ([],[])
 | r::l=>match b2i T E L r,a4R T E L l with
  | some (v,ob),some (vs,obs)=>some (v::vs,ob++obs)
  | _,_=>none
def a3m (T:Tab) (E:Env) (L:List Atom) (rs:List ResultVar):Option (Value×List Prop):=match a4R T E L rs with
 | some ([v],ob)=>some (v,ob)
 | some (vs,ob)=>some (.tuple vs.toArray,ob)
 | none=>none
theorem a4o {a:Act} {w:World}:∀K:List KI,bodyPost X.P X.fn X.R .ret a w->KW X K .ret a w
 | [],h=>h
 | .code c::K,h=>a4o K h
 | .reg o C t::K,h=>a4o K h
 | .blk id::K,h=>a4o K h
 | .stop R::K,h=>a4o K h
def b2j (tmps:Array Value):ResultVar->Sem Value
 | .tmp t=>pure (tmps.getD t undef)
 | .cell p t=>do loadVar t (<- asAddr (tmps.getD p undef))
theorem a8n (fn:Func) (tmps:Array Value):results fn tmps=(do
  let vs <- fn.results.mapM (b2j tmps)
  pure (if h:vs.size=1 then vs[0]else .tuple vs)):=rfl
theorem a4Q (hT:TabOK P T) {a:Act} {w:World} {n:Nat} (he:EnvOK n E a) (hs:Sep L (hl w)):∀{rs:List ResultVar} {vs:List Value} {ob:List Prop},a4R T E L rs=some (vs,ob)->Conj ob->
  (rs.mapM (b2j a.tmps)).run P w= .ok vs w
 | [],vs,ob,h,_=>by simp only[a4R,Option.some.injEq,Prod.mk.injEq]at h;obtain⟨rfl,rfl⟩:=h;simp
 | r::l,vs,ob,h,hob=>by
  simp only[a4R]at h;split at h
  ·rename_i v ob1 vs' ob2 h1 h2;simp only[Option.some.injEq,Prod.mk.injEq]at h;obtain⟨rfl,rfl⟩:=h;obtain⟨o1,o2⟩:=Conj.app hob;have ih:=a4Q hT he hs h2 o2;have h0:(b2j a.tmps r).run P w= .ok v w:=by
    cases r with
    | tmp t=>
     simp only[b2i]at h1;split at h1
     ·rename_i s hg;simp only[Option.some.injEq,Prod.mk.injEq]at h1;obtain⟨rfl,rfl⟩:=h1;have:=he.slot t s hg;rw[a0y o1]at this;simp[b2j,this]
     ·cases h1
    | cell p t=>
     simp only[b2i]at h1;split at h1
     ·rename_i s hg;split at h1
      ·rename_i q hq;simp only[Option.some.injEq,Prod.mk.injEq]at h1;obtain⟨rfl,rfl⟩:=h1;have hv:Conj (L8 s):=by
        unfold a0E at hq
        (repeat' split at hq)<;>first | (cases hq;done) | (injection hq with hq;subst hq;exact o1.2)
       have:=he.slot p s hg;rw[a0y hv]at this;have hr:=a3L (w:=w) hT hq o1 (λi A _ hA=>hs.get hA);have hsp:∃ad,s.v= .pointer (some ad):=by
        unfold a0E at hq;split at hq
        ·exact⟨_,rfl⟩
        ·cases hq
       obtain⟨ad,had⟩:=hsp;rw[had]at hr this;simp only[Instr.loadAt,Instr.sureAddr,Sem.run_bind,Sem.run_pure,Result.andThen_ok]at hr;simp[b2j,this,asAddr,hr]
      ·cases h1
     ·cases h1
   simp only[List.mapM_cons,Sem.run_bind,h0,Result.andThen_ok,ih,Sem.run_pure]
  ·cases h
theorem a7a (hT:TabOK P T) {a:Act} {w:World} {n:Nat} {fn:Func} (he:EnvOK n E a) (hs:Sep L (hl w)) {v:Value} {ob:List Prop} (h:a3m T E L fn.results.toList=some (v,ob)) (hob:Conj ob):(results fn a.tmps).run P w= .ok v w:=by
 have key:∀{vs:List Value} {ob':List Prop},a4R T E L fn.results.toList=some (vs,ob')->Conj ob'->(results fn a.tmps).run P w= .ok (if h:vs.toArray.size=1 then vs.toArray[0]else .tuple vs.toArray) w:=by
  intro vs ob' h1 h2;have:=a4Q (P:=P) (w:=w) hT he hs h1 h2;rw[a8n,Array.mapM_eq_mapM_toList];simp only[map_eq_pure_bind,Sem.run_bind,this,Result.andThen_ok,Sem.run_pure]
 unfold a3m at h;split at h
 ·rename_i v' ob' h1;simp only[Option.some.injEq,Prod.mk.injEq]at h;obtain⟨rfl,rfl⟩:=h;rw[key h1 hob];simp
 ·rename_i vs ob' hne h1;simp only[Option.some.injEq,Prod.mk.injEq]at h;obtain⟨rfl,rfl⟩:=h;rw[key h1 hob];have:vs.toArray.size≠1:=by
   intro e
   match vs,e with
   | [x],_=>exact hne x rfl
  rw[dif_neg this]
 ·cases h
theorem Sep.sub {h:Hl} (s:Sep L h) (is:List Nat) (ok:x5 L is=true):Sep (s6 L is) h:=by
 obtain⟨own,hw⟩:=s.split ok;exact⟨λb=>own b-1,λj A hA=>Atom.up (λb o hb=>by
  rw[res_some]at hb ⊢;exact⟨by show own b-1=j;omega,hb.2⟩) (hw (j+1) A (by simpa using hA))⟩
theorem a6Z (hX:IsCx X P rs N F Post) (hT:TabOK P T) {v:Value} {ob:List Prop} (is:List Nat) (h:a3m T E L rs=some (v,ob)) (hob:Conj ob) (ok:x5 L (0::is)=true) (h0:n7 L 0=some (.hp F)) (hP:Post v (s6 L is)) {a:Act} {w:World} (hx:Ext X.w0 w) (he:EnvOK X.n E a) (hs:Sep L (hl w)):
  a.defers=[]/\∃v,(results X.fn a.tmps).run X.P w= .ok v w/\X.R (.returned v) w:=by
 refine⟨he.defers,v,a7a (by rw[hX.hP];exact hT) he hs (by rw[hX.hrs];exact h) hob,?_⟩;rw[hX.hR];refine⟨v,s6 L is,rfl,hP,?_,hx⟩;have:=hs.sub (0::is) ok;rw[m9]at h0;simpa[s6,h0]using this
theorem J.ret (hX:IsCx X P rs N F Post) (hT:TabOK P T) {v:Value} {ob:List Prop} (is:List Nat) (h:a3m T E L rs=some (v,ob)) (hob:Conj ob) (ok:x5 L (0::is)=true) (h0:n7 L 0=some (.hp F)) (hP:Post v (s6 L is)):J X (.code .ret::K) E L:=
 λ_ _ hx he hs=>wp_ret (a4o K (a6Z hX hT is h hob ok h0 hP hx he hs))
theorem J.fin (hX:IsCx X P rs N F Post) (hT:TabOK P T) {v:Value} {ob:List Prop} (is:List Nat) (h:a3m T E L rs=some (v,ob)) (hob:Conj ob) (ok:x5 L (0::is)=true) (h0:n7 L 0=some (.hp F)) (hP:Post v (s6 L is)):J X [] E L:=
 λ_ _ hx he hs=>a6Z hX hT is h hob ok h0 hP hx he hs
theorem J.rt (hX:IsCx X P rs N F Post) (hT:TabOK P T) {v:Value} {ob:List Prop} (is:List Nat) (h:a3m T E L rs=some (v,ob)) (ok:x5 L (0::is)=true) (h0:n7 L 0=some (.hp F)) (hP:Post v (s6 L is)) (hob:Conj ob:=by(repeat' (first | exact Conj.nil | refine Conj.cons ?_ ?_ | omega | exact hq0 | (simpa using hq0) | (exactλh=>h) | exact rfl | (intro hq;have hq0:=hq;try simp only[Bool.and_eq_true,Bool.or_eq_true,decide_eq_true_eq,Bool.not_eq_true',decide_eq_false_iff_not]at hq) | (simp;done) | (simp;omega) | decide))):J X (.code .ret::K) E L:=J.ret hX hT is h hob ok h0 hP
theorem J.fi (hX:IsCx X P rs N F Post) (hT:TabOK P T) {v:Value} {ob:List Prop} (is:List Nat) (h:a3m T E L rs=some (v,ob)) (ok:x5 L (0::is)=true) (h0:n7 L 0=some (.hp F)) (hP:Post v (s6 L is)) (hob:Conj ob:=by(repeat' (first | exact Conj.nil | refine Conj.cons ?_ ?_ | omega | exact hq0 | (simpa using hq0) | (exactλh=>h) | exact rfl | (intro hq;have hq0:=hq;try simp only[Bool.and_eq_true,Bool.or_eq_true,decide_eq_true_eq,Bool.not_eq_true',decide_eq_false_iff_not]at hq) | (simp;done) | (simp;omega) | decide))):J X [] E L:=J.fin hX hT is h hob ok h0 hP
def a2r (E:Env) (op:Op):Option (FuncId×List Value×List Prop):=match op with
 | .call ⟨.value f,args,_⟩=>match ev E f,slots E args.toList with
  | some ⟨k, .func (.func g) fs cs,t,gg⟩,some l=>some (g,fs.toList++(vals l++cs.toList),L8 ⟨k, .func (.func g) fs cs,t,gg⟩++P5 l)
  | _,_=>none
 | _=>none
def n9 (P:Program) (f:FuncId):Bool:=match P.funcs[f]? with
 | some fn => fn.body.isSome && fn.name != "runtime.NumGoroutine"
 | none=>false
theorem a5D {f:FuncId} {vs:List Value} {ob:List Prop} {o:Oper} {a:Act} {w:World} {n:Nat} (he:EnvOK n E a) (hf:n9 P f=true) (h:a2r E o.op=some (f,vs,ob)) (hob:Conj ob):(execOp a.eval o).run P w= .ok (.enter f vs.toArray) w:=by
 unfold a2r at h;split at h
 ·rename_i fo args ts hop;split at h
  ·rename_i k g fs cs t gg l h1 h2;simp only[Option.some.injEq,Prod.mk.injEq]at h;obtain⟨rfl,rfl,rfl⟩:=h;obtain⟨o1,o2⟩:=Conj.app hob;have e1:=evs he h1 o1;have e2:=D4 he h2 o2;have e3:args.map a.eval=(vals l).toArray:=by apply Array.toList_inj.1;rw[Array.toList_map,e2]
   unfold n9 at hf;split at hf
   ·rename_i fn hfn;simp only[Bool.and_eq_true,Option.isSome_iff_exists,bne_iff_ne,ne_eq]at hf;obtain⟨⟨c,hc⟩,hn⟩:=hf;have hvs:(fs++(vals l).toArray++cs)=(fs.toList++(vals l++cs.toList)).toArray:=by
     apply Array.toList_inj.1;simp
    simp[execOp,hop,resolve,e1,e3,Deferred.ofValue,invoke,callFunc,hfn,hn,hc,hvs]
   ·cases hf
  ·cases h
 ·cases h
theorem J.call (hX:IsCx X P rs N F Post) {ops:Array Oper} {C:Cl} {l:Bool} {i:Nat} {t:PT} {o:Oper} {g:G} {f:FuncId} {vs:List Value} {ob:List Prop} {Pre:List Atom} {Po:Value->List Atom->Prop} {E':Value->Env}
  (hf:n9 P f=true) (c:Fn P f vs Pre Po) (is:List Nat) (tag:Nat) (ho:n7 ops.toList i=some o) (hg:gd ops.toList E o=some g) (hgo:g.on=true) (hc:a2r E o.op=some (f,vs,ob)) (hob:Conj ob) (ok:x5 L is=true) (hp:s6 L is=Pre)
  (hd:∀v,C6 N o.dst v tag .tt E=some (E' v)) (hJ:∀v As,Po v As->∃L',K4 L is As=some L'/\Conj (q9 l C L')/\J X (.reg ops C t::K) (E' v) L'):J X (.reg ops C (.alt l i t .non)::K) E L:=by
 intro a w hx he hs;rw[m9]at ho;have ho':ops[i]? =some o:=by simpa using ho
 refine⟨⟨o,ho',?_⟩,trivial⟩;have hw:=L5 he hg;unfold sOp;rw[if_pos (by rw[hw];exact hgo),a5D (P:=X.P) he (by rw[hX.hP];exact hf) hc hob];have hsp:=hs.split ok;rw[hp]at hsp;have hcall:=c (HP.of (J7 L is)) w hsp;rw[<- hX.hP]at hcall;refine Calls.mono hcall λe w' ⟨v,As,he',hpo,hs',hx'⟩=>⟨v,he',?_⟩;have hs2:=Sep.back ok hs';obtain⟨L',j0,j1,j2⟩:=hJ v As hpo;rw[<- V7 (I0 ok).1 j0]at hs2;exact⟨x7 j1 hs2,j2 _ w' (hx.trans hx') (A5 he (by rw[hX.hN];exact hd v) v rfl) hs2⟩
theorem J.ca (hX:IsCx X P rs N F Post) {ops:Array Oper} {C:Cl} {l:Bool} {i:Nat} {t:PT} {o:Oper} {g:G} {f:FuncId} {vs:List Value} {ob:List Prop} {Pre:List Atom} {Po:Value->List Atom->Prop} {E':Value->Env}
  (hf:n9 P f=true) (c:Fn P f vs Pre Po) (is:List Nat) (tag:Nat) (ho:n7 ops.toList i=some o) (hg:gd ops.toList E o=some g) (hgo:g.on=true) (hc:a2r E o.op=some (f,vs,ob)) (ok:x5 L is=true) (hp:s6 L is=Pre)
  (hd:∀v,C6 N o.dst v tag .tt E=some (E' v)) (hJ:∀v As,Po v As->∃L',K4 L is As=some L'/\Conj (q9 l C L')/\J X (.reg ops C t::K) (E' v) L') (hob:Conj ob:=by(repeat' (first | exact Conj.nil | refine Conj.cons ?_ ?_ | omega | exact hq0 | (simpa using hq0) | (exactλh=>h) | exact rfl | (intro hq;have hq0:=hq;try simp only[Bool.and_eq_true,Bool.or_eq_true,decide_eq_true_eq,Bool.not_eq_true',decide_eq_false_iff_not]at hq) | (simp;done) | (simp;omega) | decide))):J X (.reg ops C (.alt l i t .non)::K) E L:=J.call hX hf c is tag ho hg hgo hc hob ok hp hd hJ
theorem J.gcase (hX:IsCx X P rs N F Post) {ops:Array Oper} {C:Cl} {l:Bool} {i:Nat} {t:PT} {o:Oper} {b:Bool} {E':Env} (ho:n7 ops.toList i=some o) (hg:gd ops.toList E o=some (.when b)) (hd:C6 N o.dst undef 0 (.when false) E=some E') (hst:Conj (q9 l C L))
  (h1:b=true->J X (.reg ops C (.alt l i t .non)::K) E L) (h2:b=false->J X (.reg ops C t::K) E' L):J X (.reg ops C (.alt l i t .non)::K) E L:=by
 intro a w hx he hs;cases b with
 | true=>exact h1 rfl a w hx he hs
 | false=>
  rw[m9]at ho;have ho':ops[i]? =some o:=by simpa using ho
  refine⟨⟨o,ho',?_⟩,trivial⟩;have hw:=L5 he hg;unfold sOp;rw[if_neg (by rw[hw];simp[G.on])];exact⟨x7 hst hs,h2 rfl _ w hx (A5 he (by rw[hX.hN];exact hd) _ rfl) hs⟩
theorem J.op (hX:IsCx X P rs N F Post) {ops:Array Oper} {C:Cl} {l:Bool} {i:Nat} {t:PT} {o:Oper} {g:G} {S:Value->List Atom->Prop} {E':Value->Env} (tag:Nat) (ho:n7 ops.toList i=some o) (hg:gd ops.toList E o=some g) (hgo:g.on=true)
  (hr:∀a w,EnvOK N E a->Sep L (hl w)->∃v L' nv w',S v L'/\(execOp a.eval o).run P w= .ok nv w'/\(nv= .value v\/(nv= .skip/\v=undef))/\Sep L' (hl w')/\Ext w w')
  (hd:∀v,C6 N o.dst v tag .tt E=some (E' v)) (hJ:∀v L',S v L'->Conj (q9 l C L')/\J X (.reg ops C t::K) (E' v) L'):J X (.reg ops C (.alt l i t .non)::K) E L:=by
 intro a w hx he hs;rw[m9]at ho;have ho':ops[i]? =some o:=by simpa using ho
 refine⟨⟨o,ho',?_⟩,trivial⟩;have hw:=L5 he hg;have he2:=he;rw[hX.hN]at he2;obtain⟨v,L',nv,w',r0,r1,r2,r3,r4⟩:=hr a w he2 hs;unfold sOp;rw[<- hX.hP]at r1;rw[if_pos (by rw[hw];exact hgo),r1];obtain⟨j1,j2⟩:=hJ v L' r0;have he3:=A5 he2 (hd v) v rfl;rw[<- hX.hN]at he3;rcases r2 with rfl | ⟨rfl,rfl⟩
 ·exact⟨x7 j1 r3,j2 _ w' (hx.trans r4) he3 r3⟩
 ·exact⟨x7 j1 r3,j2 _ w' (hx.trans r4) he3 r3⟩
theorem J.val (hX:IsCx X P rs N F Post) {ops:Array Oper} {C:Cl} {l:Bool} {i:Nat} {t:PT} {o:Oper} {g:G} {E':Env} (v:Value) (tag:Nat) (ho:n7 ops.toList i=some o) (hg:gd ops.toList E o=some g)
  (hr:g.on=true->∀a w,EnvOK N E a->Sep L (hl w)->(execOp a.eval o).run P w= .ok (.value v) w)
  (hd:C6 N o.dst v tag g E=some E') (hst:Conj (q9 l C L)) (hJ:J X (.reg ops C t::K) E' L):J X (.reg ops C (.alt l i t .non)::K) E L:=by
 intro a w hx he hs;rw[m9]at ho;have ho':ops[i]? =some o:=by simpa using ho
 refine⟨⟨o,ho',?_⟩,trivial⟩;have hw:=L5 he hg;have he2:=he;rw[hX.hN]at he2;have he3:=A5 he2 hd _ rfl;rw[<- hX.hN]at he3;unfold sOp;cases hgo:g.on with
 | true=>
  have hr1:=hr hgo a w he2 hs;rw[<- hX.hP]at hr1;rw[if_pos (by rw[hw];exact hgo),hr1];rw[hgo]at he3;exact⟨x7 hst hs,hJ _ w hx he3 hs⟩
 | false=>
  rw[if_neg (by rw[hw,hgo];simp)];rw[hgo]at he3;exact⟨x7 hst hs,hJ _ w hx he3 hs⟩
theorem J.valT (hX:IsCx X P rs N F Post) {ops:Array Oper} {C:Cl} {p:Bool} {i:Nat} {t:PT} {o:Oper} {g:G} {E':Env} (v:Value) (tag:Nat) (ho:n7 ops.toList i=some o) (hg:gd ops.toList E o=some g)
  (hr:g.on=true->∀a w,EnvOK N E a->(p=false->CAt C w)->(execOp a.eval o).run P w= .ok (.value v) w)
  (hd:C6 N o.dst v tag g E=some E') (hJ:J X (.reg ops C t::K) E' L):J X (.reg ops C (.take p i t)::K) E L:=by
 intro a w hx he hs;rw[m9]at ho;have ho':ops[i]? =some o:=by simpa using ho
 have hw:=L5 he hg;have he2:=he;rw[hX.hN]at he2;have he3:=A5 he2 hd _ rfl;rw[<- hX.hN]at he3;cases hgo:g.on with
 | true=>
  rw[hgo]at he3;exact⟨o,v,ho', .inl ⟨by rw[hw];exact hgo,λw' hC=>by rw[hX.hP];exact hr hgo a w' he2 hC⟩,hJ _ w hx he3 hs⟩
 | false=>
  rw[hgo]at he3;exact⟨o,undef,ho', .inr ⟨by rw[hw];exact hgo,rfl⟩,hJ _ w hx he3 hs⟩
theorem J.slot {k:Nat} {s s':Slot} (h:E.get k=some s) (hk:s'.k=k) (hv:s'.val=s.val) (hJ:J X K (s'::E) L):J X K E L:=by
 intro a w hx he hs;refine hJ a w hx ⟨he.size,he.defers,λj u hu=>?_⟩ hs;simp only[Env.get]at hu;split at hu
 ·rename_i e;have:=Nat.eq_of_beq_eq_true e;injection hu with hu;subst hu;rw[<- this,hk,hv];exact he.slot k s h
 ·exact he.slot j u hu
end
theorem Fn.of_same {P:Program} {f:FuncId} {args:List Value} {v:Value} (h:∀w:World,Calls P f args.toArray w λe w'=>e= .returned v/\w=w'):Fn P f args [] (λu As=>u=v/\As=[]):=λF w hs=>
 (h w).mono λe w' ⟨he,hb⟩=>by subst hb;exact⟨v,[],he,⟨rfl,rfl⟩,hs,Ext.refl _⟩
def tab:Tab:=[
 (3,⟨(.int .i64),1,[.int .i64 0],8⟩),
 (1,⟨.other,1,[.nilFunc],8⟩),
 (33,⟨(.row [(0,1,false),(1,1,false),(2,1,false)]),3,[.int .i64 0, .int .i64 0, .int .i64 0],24⟩),
 (2,⟨(.int .i64),1,[.int .i64 0],8⟩),
 (38,⟨(.int .i64),1,[.int .i64 0],8⟩),
 (4,⟨.bool,1,[.bool false],1⟩),
 (135,⟨(.row [(0,1,false),(1,1,false),(2,1,false),(3,16,true)]),19,[.int .i64 0, .int .i64 0, .int .i64 0, .int .u8 0, .int .u8 0, .int .u8 0, .int .u8 0, .int .u8 0, .int .u8 0, .int .u8 0, .int .u8 0, .int .u8 0, .int .u8 0, .int .u8 0, .int .u8 0, .int .u8 0, .int .u8 0, .int .u8 0, .int .u8 0],40⟩),
 (121,⟨(.slice 3 1),1,[.slice none 0 0],24⟩),
 (219,⟨(.row [(0,16,true),(16,1,false),(17,1,false),(18,1,false),(19,1,false),(20,1,false),(21,1,false),(22,1,false)]),23,[.int .u8 0, .int .u8 0, .int .u8 0, .int .u8 0, .int .u8 0, .int .u8 0, .int .u8 0, .int .u8 0, .int .u8 0, .int .u8 0, .int .u8 0, .int .u8 0, .int .u8 0, .int .u8 0, .int .u8 0, .int .u8 0, .int .i64 0, .int .i64 0, .int .i64 0, .int .i64 0, .int .i64 0, .int .i64 0, .int .i64 0],72⟩),
 (44,⟨.ptr,1,[.pointer none],8⟩),
 (23,⟨(.row [(0,1,false),(1,1,false),(2,1,false)]),3,[.int .i64 0, .int .i64 0, .int .i64 0],24⟩),
 (31,⟨(.arr 16 1),16,[.int .u8 0, .int .u8 0, .int .u8 0, .int .u8 0, .int .u8 0, .int .u8 0, .int .u8 0, .int .u8 0, .int .u8 0, .int .u8 0, .int .u8 0, .int .u8 0, .int .u8 0, .int .u8 0, .int .u8 0, .int .u8 0],16⟩),
 (101,⟨.ptr,1,[.pointer none],8⟩),
 (281,⟨(.slice 33 3),1,[.slice none 0 0],24⟩),
 (120,⟨(.slice 135 19),1,[.slice none 0 0],24⟩),
 (102,⟨.ptr,1,[.pointer none],8⟩),
 (279,⟨(.int .u64),1,[.int .u64 0],8⟩),
 (35,⟨(.row [(0,1,false),(1,1,false),(2,3,true),(5,1,false),(6,1,false)]),7,[.int .i64 0, .int .i64 0, .int .i64 0, .int .i64 0, .int .i64 0, .int .i64 0, .int .i64 0],56⟩),
 (24,⟨(.slice 35 7),1,[.slice none 0 0],24⟩),
 (5,⟨(.int .u8),1,[.int .u8 0],1⟩),
 (176,⟨(.arr 32 1),32,[.int .u8 0, .int .u8 0, .int .u8 0, .int .u8 0, .int .u8 0, .int .u8 0, .int .u8 0, .int .u8 0, .int .u8 0, .int .u8 0, .int .u8 0, .int .u8 0, .int .u8 0, .int .u8 0, .int .u8 0, .int .u8 0, .int .u8 0, .int .u8 0, .int .u8 0, .int .u8 0, .int .u8 0, .int .u8 0, .int .u8 0, .int .u8 0, .int .u8 0, .int .u8 0, .int .u8 0, .int .u8 0, .int .u8 0, .int .u8 0, .int .u8 0, .int .u8 0],32⟩),
 (51,⟨.ptr,1,[.pointer none],8⟩),
 (56,⟨(.slice 31 16),1,[.slice none 0 0],24⟩),
 (190,⟨(.row [(0,19,true),(19,3,true),(22,1,false),(23,1,false),(24,1,false)]),25,[.int .i64 0, .int .i64 0, .int .i64 0, .int .u8 0, .int .u8 0, .int .u8 0, .int .u8 0, .int .u8 0, .int .u8 0, .int .u8 0, .int .u8 0, .int .u8 0, .int .u8 0, .int .u8 0, .int .u8 0, .int .u8 0, .int .u8 0, .int .u8 0, .int .u8 0, .int .i64 0, .int .i64 0, .int .i64 0, .int .i64 0, .bool false, .bool false],80⟩),
 (172,⟨(.int .u64),1,[.int .u64 0],8⟩),
 (37,⟨(.row [(0,1,false),(1,1,false),(2,16,true),(18,1,false),(19,1,false),(20,7,true)]),27,[.int .i64 0, .int .i64 0, .int .u8 0, .int .u8 0, .int .u8 0, .int .u8 0, .int .u8 0, .int .u8 0, .int .u8 0, .int .u8 0, .int .u8 0, .int .u8 0, .int .u8 0, .int .u8 0, .int .u8 0, .int .u8 0, .int .u8 0, .int .u8 0, .int .i64 0, .int .i64 0, .int .i64 0, .int .i64 0, .int .i64 0, .int .i64 0, .int .i64 0, .int .i64 0, .int .i64 0],104⟩),
 (40,⟨(.row [(0,1,false),(1,16,true)]),17,[.int .i64 0, .int .u8 0, .int .u8 0, .int .u8 0, .int .u8 0, .int .u8 0, .int .u8 0, .int .u8 0, .int .u8 0, .int .u8 0, .int .u8 0, .int .u8 0, .int .u8 0, .int .u8 0, .int .u8 0, .int .u8 0, .int .u8 0],24⟩),
 (28,⟨.ptr,1,[.pointer none],8⟩),
 (106,⟨(.row [(0,1,false),(1,1,false),(2,1,false),(3,1,false),(4,1,false),(5,1,false),(6,1,false)]),7,[.pointer none, .pointer none, .pointer none, .pointer none, .pointer none, .int .i64 0, .bool false],56⟩),
 (103,⟨.ptr,1,[.pointer none],8⟩),
 (54,⟨(.row [(0,1,false),(1,1,false),(2,1,false),(3,1,false),(4,1,false),(5,1,false),(6,1,false),(7,1,false),(8,1,false)]),9,[.pointer none, .pointer none, .int .i64 0, .bool false, .bool false, .bool false, .slice none 0 0, .int .i64 0, .int .i64 0],72⟩),
 (187,⟨(.slice 190 25),1,[.slice none 0 0],24⟩),
 (94,⟨(.row [(0,3,true),(3,1,false),(4,1,false),(5,1,false),(6,1,false),(7,1,false),(8,1,false),(9,1,false),(10,1,false),(11,1,false)]),12,[.int .i64 0, .int .i64 0, .int .i64 0, .map none, .pointer none, .slice none 0 0, .bool false, .int .i64 0, .int .i64 0, .bool false, .int .i64 0, .int .i64 0],112⟩),
 (123,⟨(.row [(0,1,false),(1,1,false),(2,1,false),(3,1,false),(4,1,false),(5,1,false)]),6,[.pointer none, .slice none 0 0, .int .i64 0, .slice none 0 0, .int .i64 0, .int .i64 0],80⟩),
 (116,⟨(.slice 178 34),1,[.slice none 0 0],24⟩),
 (217,⟨(.slice 219 23),1,[.slice none 0 0],24⟩),
 (277,⟨(.int .u32),1,[.int .u32 0],4⟩),
 (201,⟨(.row [(0,1,false),(1,1,false),(2,1,false),(3,1,false),(4,1,false),(5,1,false),(6,1,false)]),7,[.pointer none, .pointer none, .pointer none, .int .i64 0, .int .i64 0, .int .i64 0, .int .i64 0],56⟩),
 (139,⟨(.row [(0,1,false),(1,1,false),(2,1,false)]),3,[.int .i64 0, .int .i64 0, .int .i64 0],24⟩),
 (141,⟨(.row [(0,3,true),(3,1,false),(4,1,false),(5,1,false)]),6,[.int .i64 0, .int .i64 0, .int .i64 0, .int .i64 0, .int .i64 0, .int .i64 0],48⟩),
 (292,⟨(.slice 5 1),1,[.slice none 0 0],24⟩),
 (92,⟨(.slice 4 1),1,[.slice none 0 0],24⟩),
 (42,⟨(.slice 40 17),1,[.slice none 0 0],24⟩),
 (104,⟨.ptr,1,[.pointer none],8⟩),
 (118,⟨(.row [(0,1,false),(1,1,false),(2,1,false),(3,1,false)]),4,[.slice none 0 0, .int .i64 0, .bool false, .bool false],40⟩),
 (221,⟨(.row [(0,1,false),(1,1,false),(2,23,true),(25,1,false)]),26,[.slice none 0 0, .slice none 0 0, .int .u8 0, .int .u8 0, .int .u8 0, .int .u8 0, .int .u8 0, .int .u8 0, .int .u8 0, .int .u8 0, .int .u8 0, .int .u8 0, .int .u8 0, .int .u8 0, .int .u8 0, .int .u8 0, .int .u8 0, .int .u8 0, .int .i64 0, .int .i64 0, .int .i64 0, .int .i64 0, .int .i64 0, .int .i64 0, .int .i64 0, .bool false],128⟩),
 (98,⟨(.row [(0,1,false),(1,1,false),(2,1,false),(3,1,false)]),4,[.slice none 0 0, .slice none 0 0, .slice none 0 0, .slice none 0 0],96⟩),
 (308,⟨(.int .u64),1,[.int .u64 0],8⟩),
 (6,⟨(.int .u8),1,[.int .u8 0],1⟩),
 (326,⟨.other,1,[.nilFunc],8⟩),
 (87,⟨(.row [(0,1,false),(1,1,false),(2,1,false),(3,1,false)]),4,[.pointer none, .pointer none, .pointer none, .slice none 0 0],48⟩),
 (96,⟨(.slice 56 1),1,[.slice none 0 0],24⟩),
 (341,⟨.ptr,1,[.pointer none],8⟩),
 (25,⟨(.slice 37 27),1,[.slice none 0 0],24⟩),
 (90,⟨.map,1,[.map none],8⟩),
 (91,⟨.ptr,1,[.pointer none],8⟩),
 (7,⟨(.row [(0,1,false),(1,1,false),(2,1,false),(3,1,false)]),4,[.int .i64 0, .int .i64 0, .bool false, .int .u8 0],24⟩),
 (202,⟨.ptr,1,[.pointer none],8⟩),
 (306,⟨.ptr,1,[.pointer none],8⟩),
 (52,⟨.ptr,1,[.pointer none],8⟩),
 (146,⟨(.slice 150 19),1,[.slice none 0 0],24⟩),
 (167,⟨(.row [(0,1,false)]),1,[.slice none 0 0],24⟩),
 (215,⟨(.row [(0,1,false),(1,1,false),(2,1,false),(3,1,false)]),4,[.int .i64 0, .map none, .map none, .int .i64 0],32⟩),
 (294,⟨(.row [(0,1,false),(1,1,false)]),2,[.slice none 0 0, .int .i64 0],32⟩),
 (291,⟨.ptr,1,[.pointer none],8⟩),
 (9,⟨.other,1,[.string ⟨#[]⟩],16⟩),
 (164,⟨(.row [(0,3,true),(3,1,false),(4,1,false)]),5,[.int .i64 0, .int .i64 0, .int .i64 0, .slice none 0 0, .int .i64 0],56⟩),
 (184,⟨(.slice 187 1),1,[.slice none 0 0],24⟩),
 (150,⟨(.row [(0,16,true),(16,1,false),(17,1,false),(18,1,false)]),19,[.int .u8 0, .int .u8 0, .int .u8 0, .int .u8 0, .int .u8 0, .int .u8 0, .int .u8 0, .int .u8 0, .int .u8 0, .int .u8 0, .int .u8 0, .int .u8 0, .int .u8 0, .int .u8 0, .int .u8 0, .int .u8 0, .bool false, .slice none 0 0, .slice none 0 0],72⟩),
 (158,⟨.other,1,[.nilFunc],8⟩),
 (178,⟨(.row [(0,32,true),(32,1,false),(33,1,false)]),34,[.int .u8 0, .int .u8 0, .int .u8 0, .int .u8 0, .int .u8 0, .int .u8 0, .int .u8 0, .int .u8 0, .int .u8 0, .int .u8 0, .int .u8 0, .int .u8 0, .int .u8 0, .int .u8 0, .int .u8 0, .int .u8 0, .int .u8 0, .int .u8 0, .int .u8 0, .int .u8 0, .int .u8 0, .int .u8 0, .int .u8 0, .int .u8 0, .int .u8 0, .int .u8 0, .int .u8 0, .int .u8 0, .int .u8 0, .int .u8 0, .int .u8 0, .int .u8 0, .bool false, .bool false],34⟩),
 (80,⟨.ptr,1,[.pointer none],8⟩),
 (155,⟨(.row [(0,1,false)]),1,[.slice none 0 0],24⟩),
 (186,⟨(.row [(0,1,false),(1,1,false)]),2,[.pointer none, .slice none 0 0],32⟩),
 (212,⟨.map,1,[.map none],8⟩),
 (320,⟨(.row [(0,1,false),(1,1,false)]),2,[.slice none 0 0, .int .i64 0],32⟩),
 (350,⟨.map,1,[.map none],8⟩),
 (205,⟨(.row [(0,1,false),(1,1,false),(2,1,false),(3,1,false)]),4,[.int .i64 0, .int .i64 0, .bool false, .bool false],24⟩),
 (84,⟨.ptr,1,[.pointer none],8⟩),
 (148,⟨(.row [(0,1,false)]),1,[.slice none 0 0],24⟩),
 (179,⟨.map,1,[.map none],8⟩),
 (213,⟨.map,1,[.map none],8⟩),
 (8,⟨(.row [(0,1,false),(1,1,false),(2,1,false),(3,1,false)]),4,[.int .i64 0, .int .i64 0, .bool false, .int .u8 0],24⟩),
 (269,⟨(.int .i64),1,[.int .i64 0],8⟩),
 (302,⟨.ptr,1,[.pointer none],8⟩),
 (48,⟨.ptr,1,[.pointer none],8⟩),
 (162,⟨(.slice 205 4),1,[.slice none 0 0],24⟩),
 (108,⟨.other,1,[.nilFunc],8⟩),
 (352,⟨(.row [(0,1,false)]),1,[.map none],8⟩),
 (181,⟨(.row [(0,1,false)]),1,[.map none],8⟩),
 (211,⟨.other,1,[.nilFunc],8⟩),
 (348,⟨(.slice 176 32),1,[.slice none 0 0],24⟩),
 (346,⟨(.slice 121 1),1,[.slice none 0 0],24⟩),
 (151,⟨.ptr,1,[.pointer none],8⟩),
 (115,⟨.ptr,1,[.pointer none],8⟩),
 (353,⟨.map,1,[.map none],8⟩),
 (183,⟨.ptr,1,[.pointer none],8⟩),
 (70,⟨.other,1,[.nilFunc],8⟩),
 (283,⟨.other,1,[.nilFunc],8⟩),
 (194,⟨.other,1,[.nilFunc],8⟩),
 (285,⟨.other,1,[.nilFunc],8⟩),
 (297,⟨(.arr 4 1),4,[.int .i64 0, .int .i64 0, .int .i64 0, .int .i64 0],32⟩),
 (307,⟨(.arr 4 1),4,[.pointer none, .pointer none, .pointer none, .pointer none],32⟩),
 (339,⟨.other,1,[.nilFunc],8⟩)]
theorem tk:TabOK Tryz.prog tab:=TabOK.mk (by kernel_rfl)
end Go.Proofs.YtpohajhbfllbbaaGreat
