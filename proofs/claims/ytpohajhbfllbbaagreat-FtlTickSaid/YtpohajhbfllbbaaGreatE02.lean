/- Helpers. No condition. -/
import Derived.Test.YtpohajhbfllbbaaGreatE01
set_option maxRecDepth 20000
set_option linter.all false
namespace Go.Proofs.YtpohajhbfllbbaaGreat
open Go

section
variable {P : Program} {ops : Array Oper}
def safe (P:Program) (o:Oper) (a:Act) (K:Act->World->Prop):Result Next->Prop
 | .ok (.value v) w'=>K (a.put o.dst v) w'
 | .ok .skip w'=>K (a.put o.dst undef) w'
 | .ok (.enter f args) w'=>Calls P f args w' λe w''=>∃v,e= .returned v/\K (a.put o.dst v) w''
 | _=>False
def sOp (P:Program) (ops:Array Oper) (o:Oper) (K:Act->World->Prop) (a:Act) (w:World):Prop:=
 if Region.wanted o (yielded ops a.tmps)=true then safe P o a K ((execOp a.eval o).run P w)else K (a.put o.dst undef) w
theorem safe.mono {o:Oper} {a:Act} {K K':Act->World->Prop} (h:∀a w,K a w->K' a w) {r:Result Next} (s:safe P o a K r):safe P o a K' r:=by
 cases r with
 | ok n w=>
  cases n with
  | value v=>exact h _ _ s
  | skip=>exact h _ _ s
  | enter f args=>exact Calls.mono s λe w' ⟨v,he,hk⟩=>⟨v,he,h _ _ hk⟩
  | _=>exact s.elim
 | halt x w=>exact s.elim
theorem sOp.mono {o:Oper} {a:Act} {w:World} {K K':Act->World->Prop} (h:∀a w,K a w->K' a w) (s:sOp P ops o K a w):sOp P ops o K' a w:=by
 unfold sOp at*;split
 ·rename_i hw;rw[if_pos hw]at s;exact s.mono h
 ·rename_i hw;rw[if_neg hw]at s;exact h _ _ s
theorem safe.wp {o:Oper} {a:Act} {w:World} {K:Act->World->Prop} {Q:Exit->Act->World->Prop} (s:safe P o a K ((execOp a.eval o).run P w)):o.wp P a w K Q:=by
 unfold Oper.wp;generalize(execOp a.eval o).run P w=r at*;cases r with
 | ok n w=>
  cases n with
  | value v=>exact s
  | skip=>exact s
  | enter f args=>exact Calls.mono s λe w' ⟨v,he,hk⟩=>by subst he;exact hk
  | _=>exact s.elim
 | halt x w=>exact s.elim
theorem sOp.wpOp {i:Nat} {o:Oper} (hi:ops[i]? =some o) {a:Act} {w:World} {K:Act->World->Prop} {Q:Exit->Act->World->Prop} (s:sOp P ops o K a w):wpOp P ops Q i K a w:=by
 unfold sOp at s;unfold Go.wpOp;simp only[hi];split
 ·rename_i hw;rw[if_pos hw]at s;exact .inl s.wp
 ·rename_i hw;rw[if_neg hw]at s;exact s

def YldIn (P:Program) (ops:Array Oper) (C:World->Prop) (o:Oper) (v:Value) (a:Act):Prop:=
 (Region.wanted o (yielded ops a.tmps)=true/\∀w,C w->(execOp a.eval o).run P w= .ok (.value v) w)\/
 (Region.wanted o (yielded ops a.tmps)=false/\v=undef)
theorem YldIn.sOp {C:World->Prop} {o:Oper} {v:Value} {a:Act} {w:World} {K:Act->World->Prop} (hy:YldIn P ops C o v a) (hC:C w) (h:K (a.put o.dst v) w):sOp P ops o K a w:=by
 unfold Go.Proofs.YtpohajhbfllbbaaGreat.sOp;rcases hy with⟨hw,hv⟩ | ⟨hw,rfl⟩
 ·rw[if_pos hw,hv w hC];exact h
 ·rw[if_neg (by rw[hw];simp)];exact h
theorem YldIn.of_same {C:World->Prop} {o:Oper} {v:Value} {a a':Act} (hy:YldIn P ops C o v a) (he:execOp a'.eval o=execOp a.eval o)
  (hw:Region.wanted o (yielded ops a'.tmps)=Region.wanted o (yielded ops a.tmps)):YldIn P ops C o v a':=by
 unfold YldIn at*;rw[he,hw];exact hy
def waits (ops:Array Oper) (j i:Nat):Bool:=match ops[j]? with
 | some o=>o.after.any λe=>Region.binds .any e&&e.on==i
 | none=>false
theorem b5R {j i:Nat} {listed:Array Bool} (h:waits ops j i=true) (hj:j∈Region.ready .any ops listed):listed.getD i false=true:=by
 obtain⟨_,o,ho,hall⟩:=mem_ready.1 hj;simp only[waits,ho]at h;obtain⟨e,he,hb⟩:=Array.any_eq_true'.1 h;simp only[Bool.and_eq_true,beq_iff_eq]at hb;rw[<- hb.2];exact hall e he hb.1
def Shut (ops:Array Oper) (listed:Array Bool):Prop:=∀(a:Nat) (o:Oper),ops[a]? =some o->listed.getD a false=true->∀e∈o.after,Region.binds .any e=true->listed.getD e.on false=true
def S9 (ops:Array Oper):Nat->Nat->Nat->Bool
 | 0,j,i=>waits ops j i
 | n+1,j,i=>waits ops j i||match ops[j]? with
  | some o=>o.after.any λe=>Region.binds .any e&&S9 ops n e.on i
  | none=>false
theorem b0d {listed:Array Bool} (hs:Shut ops listed) {i:Nat}:∀(n j:Nat),(∀o,ops[j]? =some o->∀e∈o.after,Region.binds .any e=true->listed.getD e.on false=true)->S9 ops n j i=true->listed.getD i false=true:=by
 have h0:∀j,(∀o,ops[j]? =some o->∀e∈o.after,Region.binds .any e=true->listed.getD e.on false=true)->waits ops j i=true->listed.getD i false=true:=λj hj h=>by
  unfold waits at h;split at h
  ·rename_i o ho;obtain⟨e,he,hb⟩:=Array.any_eq_true'.1 h;simp only[Bool.and_eq_true,beq_iff_eq]at hb;rw[<- hb.2];exact hj o ho e he hb.1
  ·cases h
 intro n
 induction n with
 | zero=>exactλj hj h=>h0 j hj h
 | succ n ih=>
  intro j hj h;simp only[S9,Bool.or_eq_true]at h;rcases h with h | h
  ·exact h0 j hj h
  ·split at h
   ·rename_i o ho;obtain⟨e,he,hb⟩:=Array.any_eq_true'.1 h;simp only[Bool.and_eq_true]at hb;exact ih e.on (λo' ho' e' he' hb'=>hs e.on o' ho' (hj o ho e he hb.1) e' he' hb') hb.2
   ·cases h
theorem a0N {j i n:Nat} {listed:Array Bool} (hs:Shut ops listed) (h:S9 ops n j i=true) (hj:j∈Region.ready .any ops listed):listed.getD i false=true:=by
 obtain⟨_,o,ho,hall⟩:=mem_ready.1 hj;refine b0d hs n j (λo' ho' e he hb=>?_) h;have:o'=o:=by rw[ho]at ho';injection ho' with e;exact e.symm
 subst this;exact hall e he hb
theorem b5w {listed:Array Bool} {x:Nat} (j:Nat) (h:listed.getD x false=true):(listed.setIfInBounds j true).getD x false=true:=by
 rcases Nat.lt_or_ge x listed.size with hx | hx
 ·by_cases e:j=x
  ·subst e;simp[hx]
  ·rw[getD_set_ne false e];exact h
 ·simp[Array.getElem?_eq_none hx]at h
theorem Shut.set {listed:Array Bool} (hs:Shut ops listed) {j:Nat} (hj:j∈Region.ready .any ops listed):Shut ops (listed.setIfInBounds j true):=by
 intro a o ho ha e he hb;refine b5w j ?_
 by_cases e1:j=a
 ·subst e1;obtain⟨_,o',ho',hall⟩:=mem_ready.1 hj;have:o'=o:=by rw[ho]at ho';injection ho' with e;exact e.symm
  subst this;exact hall e he hb
 ·rw[getD_set_ne false e1]at ha;exact hs a o ho ha e he hb
theorem Shut.none (n:Nat):Shut ops (Array.replicate n false):=by
 intro a o ho ha;rcases Nat.lt_or_ge a n with h | h
 ·simp[h]at ha
 ·simp[Array.getElem?_eq_none,h]at ha
def sAny (P:Program) (ops:Array Oper) (lt:List Nat) (C:World->Prop) (K:Act->World->Prop):Nat->Array Bool->Act->World->Prop
 | 0,listed,a,w=>Region.ready .any ops listed=[]/\K a w
 | fuel+1,listed,a,w=>
  (Region.ready .any ops listed=[]->K a w)/\
  ∀i∈Region.ready .any ops listed,∃o,ops[i]? =some o/\sOp P ops o (λa' w'=>(i∉lt->C w')/\sAny P ops lt C K fuel (listed.setIfInBounds i true) a' w') a w
theorem sAny.wpAny {lt:List Nat} {C:World->Prop} {K:Act->World->Prop} {Q:Exit->Act->World->Prop} (hK:∀a w,K a w->Q .normal a w):∀(fuel:Nat) (listed:Array Bool) (a:Act) (w:World),sAny P ops lt C K fuel listed a w->wpAny P .any ops Q fuel listed a w:=by
 intro fuel
 induction fuel with
 | zero=>intro listed a w s;exact⟨s.1,hK _ _ s.2⟩
 | succ fuel ih=>
  intro listed a w s;refine⟨λh=>hK _ _ (s.1 h),λi hi=>?_⟩;obtain⟨o,ho,hs⟩:=s.2 i hi;exact(hs.mono (λa' w' h=>ih _ _ _ h.2)).wpOp ho
theorem a9j {oi oj:Oper} {C:World->Prop} {v:Value} (hap:oi.apart ops oj=true)
  (hsi:∀cs b,oi.op≠ .select cs b) (hsj:∀cs b,oj.op≠ .select cs b) {K:Act->World->Prop} {a:Act} {w:World}
  (hy:YldIn P ops C oi v a) (h:sOp P ops oj K (a.put oi.dst v) w):
  sOp P ops oj (λa' w'=>YldIn P ops C oi v a'/\K (a'.put oi.dst v) w') a w:=by
 obtain⟨h1,h2,h3⟩:=Oper.apart_spec hap;have keep:∀(a:Act),YldIn P ops C oi v a->∀u,YldIn P ops C oi v (a.put oj.dst u):=λa hy u=>
  hy.of_same (execOp_put oi hsi a oj.dst u h3) (wanted_put oi a oj.dst u h3)
 unfold sOp at*;rw[wanted_put oj a oi.dst v h1,execOp_put oj hsj a oi.dst v h1]at h;split
 ·rename_i hw;rw[if_pos hw]at h;generalize(execOp a.eval oj).run P w=r at*;cases r with
  | ok n w'=>
   cases n with
   | value u=>exact⟨keep a hy u,by rw[<- Act.put_comm a v u h2];exact h⟩
   | skip=>exact⟨keep a hy _,by rw[<- Act.put_comm a v undef h2];exact h⟩
   | enter f args=>exact Calls.mono h λe w'' ⟨u,he,hk⟩=>⟨u,he,keep a hy u,by rw[<- Act.put_comm a v u h2];exact hk⟩
   | _=>exact h.elim
  | halt x w'=>exact h.elim
 ·rename_i hw;rw[if_neg hw]at h;exact⟨keep a hy _,by rw[<- Act.put_comm a v undef h2];exact h⟩
theorem a3i {lt:List Nat} {C D:World->Prop} {K:Act->World->Prop} {i:Nat} {oi:Oper} {v:Value} (hi:ops[i]? =some oi) (hsel:∀(j:Nat) (o:Oper) cs b,ops[j]? =some o->o.op≠ .select cs b)
  (hD:(i∉lt/\(∀w,C w->D w)/\∀j∈lt,S9 ops 3 j i=true)\/(i∈lt/\∀w,D w)):
  ∀(fuel:Nat) (listed:Array Bool) (a:Act) (w:World),Shut ops listed->
   (∀j oj,ops[j]? =some oj->j≠i->listed.getD j true=false->(∀e∈oj.after,Region.binds .any e=true->e.on≠i)->oi.apart ops oj=true)->
   i∈Region.ready .any ops listed->YldIn P ops D oi v a->D w->(i∉lt->C w)->
   sAny P ops lt C K fuel (listed.setIfInBounds i true) (a.put oi.dst v) w->sAny P ops lt C K (fuel+1) listed a w:=by
 intro fuel
 induction fuel with
 | zero=>
  intro listed a w _ _ hr hy hDw hC H;refine⟨λh=>(by rw[h]at hr;cases hr),λj hj=>?_⟩
  by_cases hji:j=i
  ·subst hji;exact⟨oi,hi,hy.sOp hDw ⟨hC,H⟩⟩
  ·have:=ready_mono hj hji;rw[H.1]at this;cases this
 | succ fuel ih=>
  intro listed a w hsh hfree hr hy hDw hC H;refine⟨λh=>(by rw[h]at hr;cases hr),λj hj=>?_⟩
  by_cases hji:j=i
  ·subst hji;exact⟨oi,hi,hy.sOp hDw ⟨hC,H⟩⟩
  ·obtain⟨oj,hoj,h1⟩:=H.2 j (ready_mono hj hji);obtain⟨hjun,oj',hoj',hall⟩:=mem_ready.1 hj;have:oj'=oj:=by rw[hoj]at hoj';injection hoj' with e;exact e.symm
   subst this;have hiun:listed.getD i false≠true:=λh1=>by
    have h0:=(mem_ready.1 hr).1;rcases Nat.lt_or_ge i listed.size with h' | h'
    ·simp[h']at h0 h1;rw[h0]at h1;cases h1
    ·simp[Array.getElem?_eq_none h']at h1
   have hnot:∀e∈oj'.after,Region.binds .any e=true->e.on≠i:=λe he hb heq=>hiun (heq▸hall e he hb);have h2:=a9j (hfree j oj' hoj hji hjun hnot) (λcs b=>hsel i oi cs b hi) (λcs b=>hsel j oj' cs b hoj) hy h1;have hfree':∀k ok,ops[k]? =some ok->k≠i->(listed.setIfInBounds j true).getD k true=false->
     (∀e∈ok.after,Region.binds .any e=true->e.on≠i)->oi.apart ops ok=true:=λk ok hk hki hun hno=>by
    refine hfree k ok hk hki ?_ hno
    by_cases hjk:j=k
    ·subst hjk;exact hjun
    ·rw[getD_set_ne true hjk]at hun;exact hun
   refine⟨oj',hoj,h2.mono λa' w' ⟨hy',hC',h3⟩=>⟨hC',?_⟩⟩;have hdc:D w'/\(i∉lt->C w'):=by
    rcases hD with⟨hil,hCD,hw⟩ | ⟨hil,hd⟩
    ·have hjl:j∉lt:=λh=>hiun (a0N hsh (hw j h) hj);exact⟨hCD _ (hC' hjl),λ_=>hC' hjl⟩
    ·exact⟨hd _,λh=>absurd hil h⟩
   refine ih (listed.setIfInBounds j true) a' w' (hsh.set hj) hfree' (ready_mono hr (Ne.symm hji)) hy' hdc.1 hdc.2 ?_;rw[Array.setIfInBounds_comm _ _ hji];exact h3
theorem a4O {lt:List Nat} {C:World->Prop} {K:Act->World->Prop} {listed:Array Bool} {a:Act} {w:World} (hr:Region.ready .any ops listed=[]) (h:K a w):
  ∀fuel,sAny P ops lt C K fuel listed a w
 | 0=>⟨hr,h⟩
 | _+1=>⟨λ_=>h,by rw[hr];simp⟩

inductive PT where
 | done
 | take (p:Bool) (i:Nat) (t:PT)
 | alt (l:Bool) (i:Nat) (t more:PT)
 | non
def pT (P:Program) (ops:Array Oper) (C:World->Prop) (K:Act->World->Prop):PT->Act->World->Prop
 | .done,a,w=>K a w
 | .take p i t,a,w=>∃o v,ops[i]? =some o/\YldIn P ops (λw=>p=false->C w) o v a/\pT P ops C K t (a.put o.dst v) w
 | .alt l i t m,a,w=>(∃o,ops[i]? =some o/\sOp P ops o (λa' w'=>(l=false->C w')/\pT P ops C K t a' w') a w)/\pT P ops C K m a w
 | .non,_,_=>True
def PT.heads:PT->List Nat
 | .alt _ i _ m=>i::m.heads
 | _=>[]
def PT.allLt (lt:List Nat):PT->Bool
 | .done=>true
 | .take p i t=>p&&lt.contains i&&t.allLt lt
 | .alt l i t m=>l&&lt.contains i&&t.allLt lt&&m.allLt lt
 | .non=>true
def PT.ok (ops:Array Oper) (lt:List Nat):PT->Bool->Nat->Array Bool->Bool
 | .done,false,_,listed=>(Region.ready .any ops listed).isEmpty
 | .take p i t,false,n+1,listed=>(Region.ready .any ops listed).contains i&&Region.free .any ops listed i&&t.ok ops lt false n (listed.setIfInBounds i true)&&(p|| !lt.contains i)
 | .alt l i t m,fl,n+1,listed=>t.ok ops lt false n (listed.setIfInBounds i true)&&m.ok ops lt true (n+1) listed&&(fl||(!(Region.ready .any ops listed).isEmpty&&(Region.ready .any ops listed).all λj=>(PT.heads (.alt l i t m)).contains j))&&(lt.contains i==l)&&(!l||t.allLt lt)&&(Region.ready .any ops listed).contains i
 | .non,true,_,_=>true
 | _,_,_,_=>false
theorem PT.sound {lt:List Nat} {C:World->Prop} {K:Act->World->Prop} (hs:Region.noSelect ops=true) (hlt:∀j∈lt,∀i,i<ops.size->i∉lt->S9 ops 3 j i=true):∀(t:PT) (fl:Bool) (n:Nat) (listed:Array Bool) (a:Act) (w:World),Shut ops listed->t.ok ops lt fl n listed=true->(t.allLt lt=false->C w)->pT P ops C K t a w->
  (fl=false->sAny P ops lt C K n listed a w)/\(∀i∈t.heads,∃o,ops[i]? =some o/\∃m,n=m+1/\sOp P ops o (λa' w'=>(i∉lt->C w')/\sAny P ops lt C K m (listed.setIfInBounds i true) a' w') a w)
 | .done,fl,n,listed,a,w,hsh,h,hC,hp=>by
  cases fl with
  | true=>simp[PT.ok]at h
  | false=>exact⟨λ_=>a4O (by simpa[PT.ok]using h) hp n,by simp[PT.heads]⟩
 | .take p i t,fl,n,listed,a,w,hsh,h,hC,hp=>by
  cases fl with
  | true=>simp[PT.ok]at h
  | false=>
   cases n with
   | zero=>simp[PT.ok]at h
   | succ n=>
    simp only[PT.ok,Bool.and_eq_true]at h;obtain⟨⟨⟨hr,hf⟩,ht⟩,hp2⟩:=h;refine⟨λ_=>?_,by simp[PT.heads]⟩;obtain⟨o,v,hi,hy,hp⟩:=hp;have hisz:i<ops.size:=(Array.getElem?_eq_some_iff.1 hi).1
    by_cases hil:i∈lt
    ·have hpt:p=true:=by simpa[hil]using hp2
     subst hpt;refine a3i hi (Region.noSelect_spec hs) (.inr ⟨hil,λw h=>by cases h⟩) n listed a w hsh (Region.free_spec hi hf) (by simpa using hr) hy (λh=>by cases h) (λh=>absurd hil h) ((PT.sound hs hlt t false n _ _ w (hsh.set (by simpa using hr)) ht (λhe=>hC ?_) hp).1 rfl);simp[PT.allLt,he]
    ·have hCw:C w:=hC (by simp[PT.allLt,hil]);exact a3i hi (Region.noSelect_spec hs) (.inl ⟨hil,λw h _=>h,λj hj=>hlt j hj i hisz hil⟩) n listed a w hsh (Region.free_spec hi hf) (by simpa using hr) hy (λ_=>hCw) (λ_=>hCw) ((PT.sound hs hlt t false n _ _ w (hsh.set (by simpa using hr)) ht (λ_=>hCw) hp).1 rfl)
 | .alt l i t m,fl,n,listed,a,w,hsh,h,hC,hp=>by
  cases n with
  | zero=>simp[PT.ok]at h
  | succ n=>
   simp only[PT.ok,Bool.and_eq_true]at h;obtain⟨⟨⟨⟨⟨ht,hm⟩,hall⟩,hl⟩,hlate⟩,hrd⟩:=h;obtain⟨⟨o,hi,hp⟩,hpm⟩:=hp;have hl':l=true↔i∈lt:=by
    have:=eq_of_beq hl;rw[<- this];simp
   have hmm:=(PT.sound hs hlt m true (n+1) listed a w hsh hm (λhe=>hC (by simp[PT.allLt,he])) hpm).2;have hheads:∀j∈PT.heads (.alt l i t m),∃o,ops[j]? =some o/\∃m,n+1=m+1/\sOp P ops o (λa' w'=>(j∉lt->C w')/\sAny P ops lt C K m (listed.setIfInBounds j true) a' w') a w:=by
    intro j hj;rcases List.mem_cons.1 hj with rfl | hj
    ·refine⟨o,hi,n,rfl,hp.mono λa' w' hh=>⟨λhn=>hh.1 ?_,(PT.sound hs hlt t false n _ a' w' (hsh.set (by simpa using hrd)) ht (λhe=>hh.1 ?_) hh.2).1 rfl⟩⟩
     ·cases l with
      | false=>rfl
      | true=>exact absurd (hl'.1 rfl) hn
     ·cases l with
      | false=>rfl
      | true=>simp only[Bool.not_true,Bool.false_or]at hlate;rw[hlate]at he;cases he
    ·exact hmm j hj
   refine⟨λhfl=>?_,hheads⟩;subst hfl;simp only[Bool.false_or,Bool.and_eq_true,List.all_eq_true]at hall;refine⟨λh0=>absurd hall.1 (by simp[h0]),λj hj=>?_⟩;obtain⟨o,h1,m',h2,h3⟩:=hheads j (by simpa using hall.2 j hj);have:m'=n:=by omega
   subst this;exact⟨o,h1,h3⟩
 | .non,fl,n,listed,a,w,hsh,h,hC,hp=>by
  cases fl with
  | true=>exact⟨(λh=>by cases h),by simp[PT.heads]⟩
  | false=>simp[PT.ok]at h
def PT.seq:Nat->Nat->PT
 | _,0=> .done
 | k,n+1=> .alt true k (PT.seq (k+1) n) .non
theorem b2w {C:World->Prop} {K:Act->World->Prop} {Q:Exit->Act->World->Prop} (hK:∀a w,K a w->Q .normal a w):∀(n k:Nat) (a:Act) (w:World),pT P ops C K (PT.seq k n) a w->wpOps P ops Q (List.range' k n) a w
 | 0,k,a,w,h=>hK _ _ h
 | n+1,k,a,w,h=>by
  obtain⟨⟨o,hi,hs⟩,_⟩:=h;rw[List.range'_succ,wpOps_cons];exact(hs.mono λa' w' hh=>b2w hK n (k+1) a' w' hh.2).wpOp hi
end
theorem a4r {P:Program} {id:Nat} {ops:Array Oper} {C:World->Prop} {Q:Exit->Act->World->Prop} {a:Act} {w:World} (h:pT P ops C (Q .normal) (PT.seq 0 ops.size) a w):(Code.region id ops false).wp P Q a w:=
 wp_region (by rw[List.range_eq_range'];exact b2w (λ_ _ h=>h) _ _ _ _ h)
def PT.of:List Nat->PT
 | []=> .done
 | x::r=>match x % 4 with
  | 0=> .take true (x/4) (PT.of r)
  | 1=> .take false (x/4) (PT.of r)
  | 2=> .alt false (x/4) (PT.of r) .non
  | _=> .alt true (x/4) (PT.of r) .non
def PT.good (ops:Array Oper) (lt:List Nat) (t:PT):Bool:=Region.noSelect ops&&lt.all (λj=>(List.range ops.size).all λi=>lt.contains i||S9 ops 3 j i)&&t.ok ops lt false ops.size (Array.replicate ops.size false)
theorem a2R {P:Program} {id:Nat} {ops:Array Oper} {C:World->Prop} {Q:Exit->Act->World->Prop} {a:Act} {w:World} (hm:P.follows .mixedOrders=true) (t:PT) (lt:List Nat) (ht:t.good ops lt=true) (hC:C {w with drawn:=w.drawn+1})
  (h:pT P ops C (Q .normal) t a {w with drawn:=w.drawn+1}):(Code.region id ops true).wp P Q a w:=by
 simp only[PT.good,Bool.and_eq_true,List.all_eq_true,List.mem_range]at ht;obtain⟨⟨h1,h2⟩,h3⟩:=ht;refine wp_region_any hm (sAny.wpAny (λ_ _ h=>h) _ _ _ _ ((PT.sound h1 (lt:=lt) (λj hj i hi hn=>?_) t false _ _ a _ (Shut.none _) h3 (λ_=>hC) h).1 rfl));have:=h2 j hj i hi;simpa[hn]using this

inductive G where
 | tt
 | when (b:Bool)
def G.on:G->Bool
 | .tt=>true
 | .when b=>b
structure Slot where
 k:Nat
 v:Value
 tag:Nat
 g:G
def Slot.val (s:Slot):Value:=match s.g.on with
 | true=>s.v
 | false=>undef
abbrev Env:=List Slot
def Env.get:Env->Nat->Option Slot
 | [],_=>none
 | s::r,k=>match Nat.beq s.k k with
  | true=>some s
  | false=>Env.get r k
structure EnvOK (n:Nat) (E:Env) (a:Act):Prop where
 size:a.tmps.size=n
 defers:a.defers=[]
 slot:∀k s,E.get k=some s->a.tmps[k]? =some s.val
theorem EnvOK.put {n:Nat} {E:Env} {a:Act} (h:EnvOK n E a) {d:Nat} (hd:d<n) (v:Value) (tag:Nat) (g:G) (u:Value) (hu:u=Slot.val ⟨d,v,tag,g⟩):EnvOK n (⟨d,v,tag,g⟩::E) (a.put (some d) u):=by
 refine⟨by simp[Act.put,h.size],h.defers,λk s hk=>?_⟩;simp only[Env.get]at hk;split at hk
 ·rename_i e;have:d=k:=Nat.eq_of_beq_eq_true e;subst this;injection hk with hk;subst hk;subst hu;simp[Act.put,h.size,hd]
 ·rename_i e;have:d≠k:=λe'=>by subst e';simp at e
  simp only[Act.put];rw[Array.getElem?_setIfInBounds_ne this];exact h.slot k s hk
def Env.sub (E E':Env):Prop:=∀k s,E'.get k=some s->E.get k=some s
theorem EnvOK.sub {n:Nat} {E E':Env} {a:Act} (h:EnvOK n E a) (hs:E.sub E'):EnvOK n E' a:=⟨h.size,h.defers,λk s hk=>h.slot k s (hs k s hk)⟩
structure Ext (w w':World):Prop where
 os:w'.os=w.os
 tape:w'.tape=w.tape
 output:w'.output=w.output
 size:w.heap.size<=w'.heap.size
theorem Ext.refl (w:World):Ext w w:=⟨rfl,rfl,rfl,Nat.le_refl _⟩
theorem Ext.trans {a b c:World} (h:Ext a b) (h':Ext b c):Ext a c:=⟨h'.os.trans h.os,h'.tape.trans h.tape,h'.output.trans h.output,Nat.le_trans h.size h'.size⟩
theorem Ext.drew {a b:World} (h:Ext a b):Ext a {b with drawn:=b.drawn+1}:=⟨h.os,h.tape,h.output,h.size⟩

def Fn (P:Program) (f:FuncId) (args:List Value) (Pre:List Atom) (Post:Value->List Atom->Prop):Prop:=
 ∀(F:HP) (w:World),Sep (.hp F::Pre) (hl w)->Calls P f args.toArray w λe w'=>∃v As,e= .returned v/\Post v As/\Sep (.hp F::As) (hl w')/\Ext w w'

def exA {α:Type} (f:α->List Atom):Atom:= .hp ⟨λh=>∃x,Sep (f x) h,λ_ _ l ⟨x,s⟩=>⟨x,s.up l⟩⟩
structure Cx where
 P:Program
 fn:Func
 n:Nat
 R:Ending->World->Prop
 w0:World
abbrev Cl:=List (Nat×Atom)
def CAt (C:Cl) (w:World):Prop:=∀p∈C,p.2.sat (hl w)
inductive KI where
 | code (c:Code)
 | reg (ops:Array Oper) (C:Cl) (t:PT)
 | blk (id:Nat)
 | stop (R:Act->World->Prop)
def KW (X:Cx):List KI->Exit->Act->World->Prop
 | []=>bodyPost X.P X.fn X.R
 | .code c::K=>Exit.then (c.wp X.P (KW X K)) (KW X K)
 | .reg ops C t::K=>Exit.then (pT X.P ops (CAt C) (KW X K .normal) t) (KW X K)
 | .blk id::K=>Exit.inBlock id (KW X K)
 | .stop R::K=>Exit.then R (KW X K)
def J (X:Cx) (K:List KI) (E:Env) (L:List Atom):Prop:=∀a w,Ext X.w0 w->EnvOK X.n E a->Sep L (hl w)->KW X K .normal a w

section
variable {X : Cx} {K : List KI} {E : Env} {L : List Atom}
theorem J.seq {x y:Code} (h:J X (.code x:: .code y::K) E L):J X (.code (.seq x y)::K) E L:=
 λa w hx he hs=>wp_seq (wp_mono (h a w hx he hs) λe a' w' q=>by cases e<;>exact q)
theorem J.skip (h:J X K E L):J X (.code .skip::K) E L:=λa w hx he hs=>wp_skip (h a w hx he hs)
theorem J.block {id:Nat} {c:Code} (h:J X (.code c:: .blk id::K) E L):J X (.code (.block id c)::K) E L:=
 λa w hx he hs=>wp_block (wp_mono (h a w hx he hs) λe a' w' q=>by cases e<;>exact q)
theorem J.blk {id:Nat} (h:J X K E L):J X (.blk id::K) E L:=h
def a3W (id:Nat):List KI->Option (List KI)
 | []=>none
 | .blk id'::K=>match Nat.beq id id' with
  | true=>some K
  | false=>a3W id K
 | _::K=>a3W id K
theorem Q6 (X:Cx) (id:Nat) (a:Act) (w:World):∀(K K':List KI),a3W id K=some K'->KW X K' .normal a w->KW X K (.exit id) a w
 | [],K',h,q=>by cases h
 | .blk id'::K,K',h,q=>by
  simp only[a3W]at h;simp only[KW,Exit.inBlock];split at h
  ·rename_i e;have:id=id':=Nat.eq_of_beq_eq_true e;rw[if_pos this];injection h with h;rw[h];exact q
  ·rename_i e;rw[if_neg (λe'=>by subst e';simp at e)];exact Q6 X id a w K K' h q
 | .code c::K,K',h,q=>Q6 X id a w K K' h q
 | .reg o C t::K,K',h,q=>Q6 X id a w K K' h q
 | .stop R::K,K',h,q=>Q6 X id a w K K' h q
theorem J.exit {id:Nat} {K':List KI} (hk:a3W id K=some K') (h:J X K' E L):J X (.code (.exit id)::K) E L:=
 λa w hx he hs=>wp_exit (Q6 X id a w K K' hk (h a w hx he hs))
theorem J.code_reg {id:Nat} {ops:Array Oper} (h:J X (.reg ops [] (PT.seq 0 ops.size)::K) E L):J X (.code (.region id ops false)::K) E L:=
 λa w hx he hs=>a4r (C:=CAt []) (h a w hx he hs)
theorem J.reg_done {ops:Array Oper} {C:Cl} (h:J X K E L):J X (.reg ops C .done::K) E L:=h
def snap (L:List Atom):List Nat->Cl
 | []=>[]
 | i::is=>(i,L[i]?.getD .emp)::snap L is
theorem CAt.snap {L:List Atom} {w:World} (s:Sep L (hl w)):∀is:List Nat,CAt (snap L is) w
 | []=>by intro p hp;cases hp
 | i::is=>by
  intro p hp;rcases List.mem_cons.1 hp with rfl | hp
  ·cases h:L[i]? with
   | none=>simp[h,Atom.sat]
   | some A=>simpa[h]using s.get h
  ·exact CAt.snap s is p hp
theorem J.plan {id:Nat} {ops:Array Oper} (t:PT) (lt ro:List Nat) (hm:X.P.follows .mixedOrders=true) (ht:t.good ops lt=true) (h:J X (.reg ops (snap L ro) t::K) E L):J X (.code (.region id ops true)::K) E L:=
 λa w hx he hs=>a2R hm t lt ht (CAt.snap (w:={w with drawn:=w.drawn+1}) hs ro) (h a _ hx.drew he hs)
theorem J.alts {ops:Array Oper} {C:Cl} {l l':Bool} {i j:Nat} {t t' m:PT} (h1:J X (.reg ops C (.alt l i t .non)::K) E L) (h2:J X (.reg ops C (.alt l' j t' m)::K) E L):J X (.reg ops C (.alt l i t (.alt l' j t' m))::K) E L:=
 λa w hx he hs=>⟨(h1 a w hx he hs).1,h2 a w hx he hs⟩
theorem J.turn (is:List Nat) (ok:x5 L is=true) {α:Type} {As:α->List Atom} {L':α->List Atom} (ht:∀h',Sep (s6 L is) h'->∃x,Sep (As x) h') (hL:∀x,K4 L is (As x)=some (L' x)) (h:∀x,J X K E (L' x)):J X K E L:=by
 intro a w hx he s;obtain⟨x,s'⟩:=s.turn is ok ht;rw[<- V7 (I0 ok).1 (hL x)]at s';exact h x a w hx he s'
theorem J.turn1 (is:List Nat) (ok:x5 L is=true) {As L':List Atom} (ht:∀h',Sep (s6 L is) h'->Sep As h') (hL:K4 L is As=some L') (h:J X K E L'):J X K E L:=
 λa w hx he s=>h a w hx he (by rw[V7 (I0 ok).1 hL];exact s.turn1 is ok ht)
theorem J.open_ {α:Type} {f:α->List Atom} {L':α->List Atom} (i:Nat) (ok:x5 L [i]=true) (hp:s6 L [i]=[exA f]) (hL:∀x,K4 L [i] (f x)=some (L' x)) (h:∀x,J X K E (L' x)):J X K E L:=
 J.turn [i] ok (λh' s=>by rw[hp]at s;exact s.get (i:=0) rfl) hL h
theorem J.close {α:Type} {f:α->List Atom} {L':List Atom} (x:α) (is:List Nat) (ok:x5 L is=true) (hp:s6 L is=f x) (hL:K4 L is [exA f]=some L') (h:J X K E L'):J X K E L:=
 J.turn1 is ok (λh' s=>by
  rw[hp]at s;exact⟨λ_=>0,λi A hA=>by
   cases i with
   | zero=>simp at hA;subst hA;exact⟨x,s.up λb o hb=>res_some.2 ⟨rfl,hb⟩⟩
   | succ k=>simp at hA⟩) hL h
theorem J.know {p:Prop} (hp:∀h,Sep L h->p) (h:p->J X K E L):J X K E L:=λa w hx he s=>h (hp _ s) a w hx he s
def ev (E:Env):Operand->Option Slot
 | .tmp t=>E.get t
 | .const v=>some ⟨0,v,0, .tt⟩
 | .global g=>some ⟨0, .pointer (some ⟨g,0,none⟩),0, .tt⟩
 | .func f=>some ⟨0, .func (.func f) #[] #[],0, .tt⟩
theorem i6 {n:Nat} {a:Act} (he:EnvOK n E a) {x:Operand} {s:Slot} (h:ev E x=some s):a.eval x=s.val:=by
 cases x with
 | tmp t=>
  have:=he.slot t s h;simp[Act.eval,this]
 | const v=>simp only[ev,Option.some.injEq]at h;subst h;rfl
 | global g=>simp only[ev,Option.some.injEq]at h;subst h;rfl
 | func f=>simp only[ev,Option.some.injEq]at h;subst h;rfl
theorem J.cond {c:Operand} {x y:Code} {k tag:Nat} {b:Bool} (hc:ev E c=some ⟨k, .bool b,tag, .tt⟩) (ht:b=true->J X (.code x::K) E L) (hf:b=false->J X (.code y::K) E L):J X (.code (.cond c x y)::K) E L:=by
 intro a w hx he hs;have h:=i6 he hc;exact wp_cond_split (t:=b) h (λe=>ht e a w hx he hs) (λe=>hf e a w hx he hs)
theorem J.loop {c:Code} {α:Type} (I:α->Prop) (Ei:α->Env) (Li:α->List Atom) (μ:α->Nat) (x0:α) (h0:I x0) (hE:E.sub (Ei x0)) (hL:∀h,Sep L h->Sep (Li x0) h)
  (round:∀x,I x->J X (.code c:: .stop (λa w=>Ext X.w0 w/\∃x',I x'/\μ x'<μ x/\EnvOK X.n (Ei x') a/\Sep (Li x') (hl w))::K) (Ei x) (Li x)):J X (.code (.loop c)::K) E L:=by
 intro a w hx he hs b k cs;have key:∀n,∀x,μ x=n->I x->∀a w,Ext X.w0 w->EnvOK X.n (Ei x) a->Sep (Li x) (hl w)->
   ∃e a' w',KW X K e a' w'/\Arrives X.P (lone (b.at a (.code c:: .inLoop c::k)) cs w) b k cs e a' w':=by
  intro n
  induction n using Nat.strongRecOn with
  | _ n ih=>
   intro x hn hI a w hx he hs;have hr:=round x hI a w hx he hs;simp only[KW]at hr;obtain⟨e,a₁,w₁,hq,harr⟩:=hr b (.inLoop c::k) cs;cases e with
   | normal=>
    obtain⟨hx',x',hI',hlt,he',hs'⟩:=hq;obtain⟨e₂,a₂,w₂,hq₂,harr₂⟩:=ih (μ x') (hn▸hlt) x' rfl hI' a₁ w₁ hx' he' hs';exact⟨e₂,a₂,w₂,hq₂, .of_steps (Steps.trans harr (.one step_inLoop)) harr₂⟩
   | exit id=>exact⟨_,a₁,w₁,hq, .pass (x:= .inLoop c) rfl (λ_ _=> .inl (by simp)) harr⟩
   | goto l=>exact⟨_,a₁,w₁,hq, .pass (x:= .inLoop c) rfl (λ_ _=> .inl (by simp)) harr⟩
   | ret=>exact⟨_,a₁,w₁,hq, .pass (x:= .inLoop c) rfl (λ_ _=> .inl (by simp)) harr⟩
   | panic ch=>exact⟨_,a₁,w₁,hq, .pass (x:= .inLoop c) rfl (λ_ _=> .inl (by simp)) harr⟩
   | outgrown=>exact⟨_,a₁,w₁,hq, .pass (x:= .inLoop c) rfl (λ_ _=> .inl (by simp)) harr⟩
 obtain⟨e,a',w',hq,harr⟩:=key _ x0 rfl h0 a w hx (he.sub hE) (hL _ hs);exact⟨e,a',w',hq, .of_steps (.one step_loop) harr⟩
theorem J.stop {α:Type} {I:α->Prop} {Ei:α->Env} {Li:α->List Atom} {μ:α->Nat} {m:Nat} (x:α) (h1:I x) (h2:μ x<m) (h3:E.sub (Ei x)) (h4:∀h,Sep L h->Sep (Li x) h):
  J X (.stop (λa w=>Ext X.w0 w/\∃x',I x'/\μ x'<m/\EnvOK X.n (Ei x') a/\Sep (Li x') (hl w))::K) E L:=
 λ_ _ hx he hs=>⟨hx,x,h1,h2,he.sub h3,h4 _ hs⟩
end

inductive TD where
 | int (k:IntKind)
 | bool
 | row (fs:List (Nat×Nat×Bool))
 | arr (len esz:Nat)
 | slice (elem esz:Nat)
 | ptr
 | map
 | other
structure TI where
 d:TD
 size:Nat
 zero:List Value
 bytes:Nat
abbrev Tab:=List (Nat×TI)
def Tab.get:Tab->Nat->Option TI
 | [],_=>none
 | (j,i)::r,k=>match Nat.beq j k with
  | true=>some i
  | false=>Tab.get r k
def H2:TypeDesc->Bool
 | .struct _ | .array _ _=>true
 | _=>false
def fieldsOf (P:Program):List Field->Option (List (Nat×Nat×Bool))
 | []=>some []
 | f::r=>match P.info? f.type,P.underlying f.type,fieldsOf P r with
  | some i,some d,some l=>some ((f.offset,i.size,H2 d)::l)
  | _,_,_=>none
def a2w (P:Program):TypeDesc->Option TD
 | .int k=>some (.int k)
 | .bool=>some .bool
 | .struct fs=>(fieldsOf P fs.toList).map .row
 | .array n e=>(P.info? e).map λi=> .arr n i.size
 | .slice e=>(P.info? e).map λi=> .slice e i.size
 | .pointer _=>some .ptr
 | .map _ _=>some .map
 | _=>some .other
def b1R (P:Program) (t:TypeId):Option TI:=
 match P.underlying t,P.info? t with
 | some d,some i=>match i.zero,a2w P d with
  | some z,some td=>some ⟨td,i.size,z.cells.toList,i.bytes⟩
  | _,_=>none
 | _,_=>none
def TabOK (P:Program) (T:Tab):Prop:=∀p∈T,b1R P p.1=some p.2
theorem TabOK.mk {P:Program} {T:Tab} (h:T.map (λp=>b1R P p.1)=T.map (λp=>some p.2)):TabOK P T:=by
 induction T with
 | nil=>intro p hp;cases hp
 | cons q r ih=>
  simp only[List.map_cons,List.cons.injEq]at h;intro p hp;rcases List.mem_cons.1 hp with rfl | hp
  ·exact h.1
  ·exact ih h.2 p hp
theorem TabOK.get {P:Program}:∀{T:Tab},TabOK P T->∀{t:Nat} {i:TI},T.get t=some i->b1R P t=some i
 | [],_,t,i,h=>by cases h
 | (j,x)::r,hT,t,i,h=>by
  simp only[Tab.get]at h;split at h
  ·rename_i e;have:j=t:=Nat.eq_of_beq_eq_true e;subst this;injection h with h;subst h;exact hT _ (List.mem_cons_self ..)
  ·exact TabOK.get (λp hp=>hT p (List.mem_cons_of_mem _ hp)) h
structure TIOK (P:Program) (t:TypeId) (i:TI) (d:TypeDesc) (f:TypeInfo) (z:Value):Prop where
 hd:P.underlying t=some d
 hf:P.info? t=some f
 hz:f.zero=some z
 htd:a2w P d=some i.d
 hsize:i.size=f.size
 hzero:i.zero=z.cells.toList
 hbytes:i.bytes=f.bytes
theorem i3 {P:Program} {t:TypeId} {i:TI} (h:b1R P t=some i):∃d f z,TIOK P t i d f z:=by
 unfold b1R at h;split at h
 ·rename_i d f hd hf;split at h
  ·rename_i z td hz htd;injection h with h;subst h;exact⟨d,f,z,hd,hf,hz,htd,rfl,rfl,rfl⟩
  ·cases h
 ·cases h
section
variable {P : Program} {t : TypeId} {i : TI} {d : TypeDesc} {f : TypeInfo} {z : Value}
theorem TIOK.int (h:TIOK P t i d f z) {k:IntKind} (e:i.d= .int k):d= .int k:=by
 have:=h.htd;rw[e]at this;cases d<;>simp[a2w]at this
 ·rw[this]
theorem TIOK.bool (h:TIOK P t i d f z) (e:i.d= .bool):d= .bool:=by
 have:=h.htd;rw[e]at this;cases d<;>simp[a2w]at this
 ·rfl
theorem TIOK.ptr (h:TIOK P t i d f z) (e:i.d= .ptr):∃x,d= .pointer x:=by
 have:=h.htd;rw[e]at this;cases d<;>simp[a2w]at this
 ·exact⟨_,rfl⟩
theorem TIOK.map (h:TIOK P t i d f z) (e:i.d= .map):∃x y,d= .map x y:=by
 have:=h.htd;rw[e]at this;cases d<;>simp[a2w]at this
 ·exact⟨_,_,rfl⟩
theorem TIOK.arr (h:TIOK P t i d f z) {n s:Nat} (e:i.d= .arr n s):∃x fx,d= .array n x/\P.info? x=some fx/\fx.size=s:=by
 have:=h.htd;rw[e]at this;cases d<;>simp[a2w]at this
 ·obtain⟨g,h1,rfl,h2⟩:=this;exact⟨_,g,rfl,h1,h2⟩
theorem TIOK.slice (h:TIOK P t i d f z) {x s:Nat} (e:i.d= .slice x s):∃fx,d= .slice x/\P.info? x=some fx/\fx.size=s:=by
 have:=h.htd;rw[e]at this;cases d<;>simp[a2w]at this
 ·obtain⟨g,h1,rfl,h2⟩:=this;exact⟨g,rfl,h1,h2⟩
theorem TIOK.row (h:TIOK P t i d f z) {l:List (Nat×Nat×Bool)} (e:i.d= .row l):∃fs,d= .struct fs/\fieldsOf P fs.toList=some l:=by
 have:=h.htd;rw[e]at this;cases d<;>simp[a2w]at this
 ·exact⟨_,rfl,this⟩
end
def n7 {α:Type}:List α->Nat->Option α
 | [],_=>none
 | x::r,k=>match k with
  | 0=>some x
  | k+1=>n7 r k
theorem m9 {α:Type}:∀(l:List α) (k:Nat),n7 l k=l[k]?
 | [],_=>rfl
 | x::r,0=>rfl
 | x::r,k+1=>by rw[n7,m9 r k];simp
theorem O6 {P:Program}:∀{fs:List Field} {l:List (Nat×Nat×Bool)},fieldsOf P fs=some l->∀{k o s:Nat} {b:Bool},n7 l k=some (o,s,b)->
  ∃g fi gd,fs[k]? =some g/\P.info? g.type=some fi/\P.underlying g.type=some gd/\g.offset=o/\fi.size=s/\H2 gd=b
 | [],l,h,k,o,s,b,hk=>by simp only[fieldsOf,Option.some.injEq]at h;subst h;cases hk
 | g::r,l,h,k,o,s,b,hk=>by
  simp only[fieldsOf]at h;split at h
  ·rename_i i d l' h1 h2 h3;injection h with h;subst h;cases k with
   | zero=>
    simp only[n7,Option.some.injEq,Prod.mk.injEq]at hk;exact⟨g,i,d,rfl,h1,h2,hk.1,hk.2.1,hk.2.2⟩
   | succ k=>
    simp only[n7]at hk;obtain⟨g',fi,gd,e1,e2⟩:=O6 h3 hk;exact⟨g',fi,gd,by simpa using e1,e2⟩
  ·cases h
def a3G {α:Type}:List α->Nat->Option (List α)
 | _,0=>some []
 | [],_+1=>none
 | x::r,n+1=>match a3G r n with
  | some l=>some (x::l)
  | none=>none
def a6h {α:Type}:List α->Nat->Nat->Option (List α)
 | l,0,n=>a3G l n
 | [],_+1,n=>a3G [] n
 | _::r,o+1,n=>a6h r o n
theorem a0D {α:Type}:∀{l:List α} {n:Nat} {m:List α},a3G l n=some m->m=l.take n/\m.length=n
 | l,0,m,h=>by simp[a3G]at h;subst h;simp
 | [],n+1,m,h=>by simp[a3G]at h
 | x::r,n+1,m,h=>by
  simp only[a3G]at h;split at h
  ·rename_i l hl;injection h with h;subst h;obtain⟨h1,h2⟩:=a0D hl;exact⟨by simp[h1],by simp[h2]⟩
  ·cases h
theorem a1E {α:Type}:∀{l:List α} {o n:Nat} {m:List α},a6h l o n=some m->m=(l.drop o).take n/\m.length=n
 | l,0,n,m,h=>by rw[List.drop_zero];cases l<;>exact a0D h
 | [],o+1,n,m,h=>by simp only[a6h]at h;simpa using a0D h
 | x::r,o+1,n,m,h=>by simp only[a6h]at h;simpa using a1E h
def X9 {α:Type}:List α->List α->Option (List α)
 | l,[]=>some l
 | [],_::_=>none
 | _::r,x::xs=>match X9 r xs with
  | some l=>some (x::l)
  | none=>none
def P9 {α:Type}:List α->Nat->List α->Option (List α)
 | l,0,xs=>X9 l xs
 | [],_+1,_=>none
 | y::r,o+1,xs=>match P9 r o xs with
  | some l=>some (y::l)
  | none=>none
theorem a3I {α:Type}:∀{l xs m:List α},X9 l xs=some m->m=xs++l.drop xs.length/\xs.length<=l.length
 | l,[],m,h=>by cases l<;>simp only[X9,Option.some.injEq]at h<;>subst h<;>simp
 | [],x::xs,m,h=>by simp[X9]at h
 | y::r,x::xs,m,h=>by
  simp only[X9]at h;split at h
  ·rename_i l hl;injection h with h;subst h;obtain⟨h1,h2⟩:=a3I hl;exact⟨by simp[h1],by simp;omega⟩
  ·cases h
theorem U1 {α:Type}:∀{l:List α} {o:Nat} {xs m:List α},P9 l o xs=some m->m=l.take o++xs++l.drop (o+xs.length)/\o+xs.length<=l.length
 | l,0,xs,m,h=>by
  have h':X9 l xs=some m:=by cases l<;>exact h
  obtain⟨h1,h2⟩:=a3I h';exact⟨by simp[h1],by omega⟩
 | [],o+1,xs,m,h=>by simp[P9]at h
 | y::r,o+1,xs,m,h=>by
  simp only[P9]at h;split at h
  ·rename_i l hl;injection h with h;subst h;obtain⟨h1,h2⟩:=U1 hl;refine⟨?_,by simp;omega⟩;rw[h1,show o+1+xs.length=(o+xs.length)+1 from by omega];simp
  ·cases h

def Conj:List Prop->Prop
 | []=>True
 | p::r=>p/\Conj r
theorem Conj.nil:Conj []:=trivial
theorem Conj.cons {p:Prop} {r:List Prop} (h:p) (h':Conj r):Conj (p::r):=⟨h,h'⟩
theorem Conj.app:∀{l m:List Prop},Conj (l++m)->Conj l/\Conj m
 | [],m,h=>⟨trivial,h⟩
 | p::r,m,h=>⟨⟨h.1,(Conj.app (l:=r) h.2).1⟩,(Conj.app (l:=r) h.2).2⟩
def s7:G->List Prop
 | .tt=>[]
 | .when c=>[c=true]
def L8:Slot->List Prop
 | ⟨_,_,_,g⟩=>s7 g
theorem a0y {s:Slot} (h:Conj (L8 s)):s.val=s.v:=by
 obtain⟨k,v,t,g⟩:=s;unfold Slot.val;cases g with
 | tt=>rfl
 | when c=>simp only[L8,s7]at h;simp only[G.on];rw[h.1]
def ikN:IntKind->Nat
 | .i8=>0 | .i16=>1 | .i32=>2 | .i64=>3 | .u8=>4 | .u16=>5 | .u32=>6 | .u64=>7
theorem b5p {a b:IntKind} (h:Nat.beq (ikN a) (ikN b)=true):a=b:=by
 cases a<;>cases b<;>first | rfl | cases h
def inR:IntKind->Int->List Prop
 | .i8,z=>[-128<=z,z<=127] | .i16,z=>[-32768<=z,z<=32767] | .i32,z=>[-2147483648<=z,z<=2147483647]
 | .i64,z=>[-9223372036854775808<=z,z<=9223372036854775807]
 | .u8,z=>[0<=z,z<=255] | .u16,z=>[0<=z,z<=65535] | .u32,z=>[0<=z,z<=4294967295] | .u64,z=>[0<=z,z<=18446744073709551615]
theorem Q4 {k:IntKind} {z:Int} (h:Conj (inR k z)):k.wrap z=z:=by
 have p7:(2:Int)^7=128:=rfl;have p8:(2:Int)^8=256:=rfl;have p15:(2:Int)^15=32768:=rfl;have p16:(2:Int)^16=65536:=rfl;have p31:(2:Int)^31=2147483648:=rfl;have p32:(2:Int)^32=4294967296:=rfl;have p63:(2:Int)^63=9223372036854775808:=rfl;have p64:(2:Int)^64=18446744073709551616:=rfl;cases k<;>simp only[inR,Conj]at h<;>simp[IntKind.wrap,IntKind.bits,IntKind.signed]<;>(try split)<;>omega
def b7g:BinOp->IntKind->Int->Int->Option (Value×List Prop)
 | .add,k,m,n=>some (.int k (m+n),inR k (m+n))
 | .sub,k,m,n=>some (.int k (m-n),inR k (m-n))
 | .mul,k,m,n=>some (.int k (m*n),inR k (m*n))
 | .quo,k,m,n=>some (.int k (m.tdiv n),(n≠0)::inR k (m.tdiv n))
 | .rem,k,m,n=>some (.int k (m.tmod n),[n≠0])
 | .and,k,m,n=>some (.int k (k.wrap (BitVec.ofInt k.bits m&&& BitVec.ofInt k.bits n).toNat),[])
 | .or,k,m,n=>some (.int k (k.wrap (BitVec.ofInt k.bits m||| BitVec.ofInt k.bits n).toNat),[])
 | .xor,k,m,n=>some (.int k (k.wrap (BitVec.ofInt k.bits m ^^^ BitVec.ofInt k.bits n).toNat),[])
 | .andNot,k,m,n=>some (.int k (k.wrap (BitVec.ofInt k.bits m&&& ~~~ BitVec.ofInt k.bits n).toNat),[])
 | .eql,_,m,n=>some (.bool (m==n),[])
 | .neq,_,m,n=>some (.bool (m !=n),[])
 | .lss,_,m,n=>some (.bool (decide (m<n)),[])
 | .leq,_,m,n=>some (.bool (decide (m<=n)),[])
 | .gtr,_,m,n=>some (.bool (decide (m>n)),[])
 | .geq,_,m,n=>some (.bool (decide (m>=n)),[])
 | _,_,_,_=>none
def shI:BinOp->IntKind->Int->Int->Option (Value×List Prop)
 | .shl,k,m,n=>some (.int k (m*2^(min n.toNat k.bits)),(0<=n)::inR k (m*2^(min n.toNat k.bits)))
 | .shr,k,m,n=>some (.int k (m.fdiv (2^(min n.toNat k.bits))),[0<=n])
 | _,_,_,_=>none
def a6w:Option TD->Value->Value->Option Bool
 | some .bool, .bool a, .bool b=>some (a==b)
 | some .ptr, .pointer none, .pointer none=>some true
 | some .ptr, .pointer (some _), .pointer none=>some false
 | some .ptr, .pointer none, .pointer (some _)=>some false
 | some (.slice _ _), .slice none _ _, .slice none _ _=>some true
 | some (.slice _ _), .slice none _ _, .slice (some _) _ _=>some false
 | some (.slice _ _), .slice (some _) _ _, .slice none _ _=>some false
 | some .map, .map none, .map none=>some true
 | some .map, .map none, .map (some _)=>some false
 | some .map, .map (some _), .map none=>some false
 | _,_,_=>none
def b7f (T:Tab) (op:BinOp) (t:TypeId):Value->Value->Option (Value×List Prop)
 | .int k m, .int k' n=>match shI op k m n with
  | some r=>some r
  | none=>match Nat.beq (ikN k) (ikN k')with
   | true=>b7g op k m n
   | false=>none
 | x,y=>match op with
  | .eql=>match a6w ((T.get t).map (·.d)) x y with
   | some b=>some (.bool b,[])
   | none=>none
  | .neq=>match a6w ((T.get t).map (·.d)) x y with
   | some b=>some (.bool (!b),[])
   | none=>none
  | _=>none
def unV:UnOp->Value->Option (Value×List Prop)
 | .neg, .int k n=>some (.int k (0-n),inR k (0-n))
 | .not, .bool b=>some (.bool (!b),[])
 | _,_=>none

section
variable {P : Program} {w : World}
theorem b3T {op:BinOp} {k:IntKind} {m n:Int} {v:Value} {ob:List Prop} (h:b7g op k m n=some (v,ob)) (hob:Conj ob) (t:TypeId):(binOp op t (.int k m) (.int k n)).run P w= .ok v w:=by
 cases op<;>simp only[b7g,Option.some.injEq,Prod.mk.injEq,reduceCtorEq]at h<;>obtain⟨rfl,rfl⟩:=h
 case add=>simp[binOp,Op.intArith,Q4 hob]
 case sub=>simp[binOp,Op.intArith,Q4 hob]
 case mul=>simp[binOp,Op.intArith,Q4 hob]
 case quo=>simp[binOp,Op.intDiv,hob.1,Q4 hob.2]
 case rem=>simp[binOp,Op.intDiv,hob.1]
 all_goals first | (simp[binOp,Op.intBits];done) | (simp[binOp,Op.intCmp];done)
theorem b4F {op:BinOp} {k k':IntKind} {m n:Int} {v:Value} {ob:List Prop} (h:shI op k m n=some (v,ob)) (hob:Conj ob) (t:TypeId):(binOp op t (.int k m) (.int k' n)).run P w= .ok v w:=by
 cases op<;>simp only[shI,Option.some.injEq,Prod.mk.injEq,reduceCtorEq]at h<;>obtain⟨rfl,rfl⟩:=h
 case shl=>simp[binOp,Op.shift,Int.not_lt.2 hob.1,Q4 hob.2]
 case shr=>simp[binOp,Op.shift,Int.not_lt.2 hob.1]
theorem d7 {t:TypeId} {d:TypeDesc} (h:P.underlying t=some d):(underlying t).run P w= .ok d w:=by simp[underlying,h]
theorem a6v (d:Nat) {t:TypeId} (h:P.underlying t=some .bool) (a b:Bool):(Op.equalIn (d+1) t (.bool a) (.bool b)).run P w= .ok (a==b) w:=by simp[Op.equalIn,d7 h]
theorem a1m (d:Nat) {t x:TypeId} (h:P.underlying t=some (.pointer x)) (b:Option Addr):(Op.equalIn (d+1) t (.pointer none) (.pointer b)).run P w= .ok b.isNone w:=by simp[Op.equalIn,d7 h]
theorem a6t (d:Nat) {t x:TypeId} (h:P.underlying t=some (.pointer x)) (b:Addr):(Op.equalIn (d+1) t (.pointer (some b)) (.pointer none)).run P w= .ok false w:=by simp[Op.equalIn,d7 h]
theorem a2o (d:Nat) {t x:TypeId} (h:P.underlying t=some (.slice x)) (b:Option Addr) (m n m' n':Nat):(Op.equalIn (d+1) t (.slice none m n) (.slice b m' n')).run P w= .ok b.isNone w:=by simp[Op.equalIn,d7 h]
theorem a7O (d:Nat) {t x:TypeId} (h:P.underlying t=some (.slice x)) (b:Addr) (m n m' n':Nat):(Op.equalIn (d+1) t (.slice (some b) m n) (.slice none m' n')).run P w= .ok false w:=by simp[Op.equalIn,d7 h]
theorem a1n (d:Nat) {t x y:TypeId} (h:P.underlying t=some (.map x y)) (b:Option Nat):(Op.equalIn (d+1) t (.map none) (.map b)).run P w= .ok b.isNone w:=by simp[Op.equalIn,d7 h]
theorem a6u (d:Nat) {t x y:TypeId} (h:P.underlying t=some (.map x y)) (b:Nat):(Op.equalIn (d+1) t (.map (some b)) (.map none)).run P w= .ok false w:=by simp[Op.equalIn,d7 h]
theorem a3Y (t:TypeId) (x y:Value):Op.equal t x y=Op.equalIn (9999+1) t x y:=rfl
theorem a7P {T:Tab} (hT:TabOK P T) {t:TypeId} {x y:Value} {b:Bool} (h:a6w ((T.get t).map (·.d)) x y=some b):(Op.equal t x y).run P w= .ok b w/\∀op o1 o2,(eqGuard op t o1 o2 x y).run P w= .ok () w:=by
 rw[a3Y];generalize 9999=n;cases hg:T.get t with
 | none=>rw[hg]at h;simp[a6w]at h
 | some i=>
  rw[hg]at h;obtain⟨d,f,z,ok⟩:=i3 (hT.get hg);simp only[Option.map_some]at h;generalize hd:i.d=td at h;unfold a6w at h;split at h<;>simp only[Option.some.injEq,reduceCtorEq]at h<;>subst h<;>rename_i e<;>injection e with e<;>subst e
  ·have:=ok.bool hd;subst this;exact⟨a6v n ok.hd _ _,λop o1 o2=>by cases op<;>rfl⟩
  ·obtain⟨x',e⟩:=ok.ptr hd;subst e;exact⟨a1m n ok.hd _,λop o1 o2=>by cases op<;>rfl⟩
  ·obtain⟨x',e⟩:=ok.ptr hd;subst e;exact⟨a6t n ok.hd _,λop o1 o2=>by cases op<;>rfl⟩
  ·obtain⟨x',e⟩:=ok.ptr hd;subst e;exact⟨a1m n ok.hd _,λop o1 o2=>by cases op<;>rfl⟩
  ·obtain⟨fx,e,_⟩:=ok.slice hd;subst e;exact⟨a2o n ok.hd _ _ _ _ _,λop o1 o2=>by cases op<;>rfl⟩
  ·obtain⟨fx,e,_⟩:=ok.slice hd;subst e;exact⟨a2o n ok.hd _ _ _ _ _,λop o1 o2=>by cases op<;>rfl⟩
  ·obtain⟨fx,e,_⟩:=ok.slice hd;subst e;exact⟨a7O n ok.hd _ _ _ _ _,λop o1 o2=>by cases op<;>rfl⟩
  ·obtain⟨x',y',e⟩:=ok.map hd;subst e;exact⟨a1n n ok.hd _,λop o1 o2=>by cases op<;>rfl⟩
  ·obtain⟨x',y',e⟩:=ok.map hd;subst e;exact⟨a1n n ok.hd _,λop o1 o2=>by cases op<;>rfl⟩
  ·obtain⟨x',y',e⟩:=ok.map hd;subst e;exact⟨a6u n ok.hd _,λop o1 o2=>by cases op<;>rfl⟩
theorem b3S {T:Tab} (hT:TabOK P T) {op:BinOp} {t:TypeId} {x y v:Value} {ob:List Prop} (h:b7f T op t x y=some (v,ob)) (hob:Conj ob) (o1 o2:Operand):
  (do eqGuard op t o1 o2 x y;binOp op t x y:Sem Value).run P w= .ok v w:=by
 unfold b7f at h;split at h
 ·rename_i k m k' n;have hg:(eqGuard op t o1 o2 (.int k m) (.int k' n)).run P w= .ok () w:=by cases op<;>simp[eqGuard]
  simp only[Sem.run_bind,hg,Result.andThen_ok];split at h
  ·rename_i r hr;injection h with h;subst h;exact b4F hr hob t
  ·split at h
   ·rename_i e;have:=b5p e;subst this;exact b3T h hob t
   ·cases h
 ·rename_i hne;split at h
  ·split at h
   ·rename_i b hb;injection h with h;simp only[Prod.mk.injEq]at h;obtain⟨rfl,rfl⟩:=h;obtain⟨h1,h2⟩:=a7P (w:=w) hT hb;simp only[Sem.run_bind,h2,Result.andThen_ok];have:binOp .eql t x y=(do pure (.bool (<- Op.equal t x y)):Sem Value):=by
     cases x<;>cases y<;>first | rfl | (exact(hne _ _ _ _ rfl rfl).elim) | (revert hb;cases(T.get t).map (·.d)with
      | none=>simp[a6w]
      | some d=>cases d<;>simp[a6w])
    simp[this,h1]
   ·cases h
  ·split at h
   ·rename_i b hb;injection h with h;simp only[Prod.mk.injEq]at h;obtain⟨rfl,rfl⟩:=h;obtain⟨h1,h2⟩:=a7P (w:=w) hT hb;simp only[Sem.run_bind,h2,Result.andThen_ok];have:binOp .neq t x y=(do pure (.bool (!(<- Op.equal t x y))):Sem Value):=by
     cases x<;>cases y<;>first | rfl | (exact(hne _ _ _ _ rfl rfl).elim) | (revert hb;cases(T.get t).map (·.d)with
      | none=>simp[a6w]
      | some d=>cases d<;>simp[a6w])
    simp[this,h1]
   ·cases h
  ·cases h
theorem b4s {op:UnOp} {x v:Value} {ob:List Prop} (h:unV op x=some (v,ob)) (hob:Conj ob):(Op.unary op x).run P w= .ok v w:=by
 unfold unV at h;split at h<;>simp only[Option.some.injEq,Prod.mk.injEq,reduceCtorEq]at h<;>obtain⟨rfl,rfl⟩:=h
 ·simp only[Op.unary,Op.intArith,Q4 hob];rfl
 ·rfl
end
end Go.Proofs.YtpohajhbfllbbaaGreat
