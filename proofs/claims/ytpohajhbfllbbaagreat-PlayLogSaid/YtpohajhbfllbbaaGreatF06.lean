/- Helpers. No condition. -/
import Derived.Test.YtpohajhbfllbbaaGreatF01
import Derived.Test.YtpohajhbfllbbaaGreatF04
import Derived.Test.YtpohajhbfllbbaaGreatF05
import Derived.WalkKit
set_option maxRecDepth 20000
set_option linter.all false
namespace Go.Proofs.YtpohajhbfllbbaaGreat
open Go Go.RowKit
abbrev pp (n:Nat):Value:= .pointer (some ⟨n,0,none⟩)
abbrev iI (x:Int):Value:= .int .i64 x
abbrev si (k:Nat) (x:Int):Slot:=⟨k, .int .i64 x,0, .tt⟩
abbrev sp (k n:Nat):Slot:=⟨k, .pointer (some ⟨n,0,none⟩),0, .tt⟩
abbrev sv (k:Nat) (v:Value):Slot:=⟨k,v,0, .tt⟩
abbrev FP:=Fn Tryz.prog
theorem FE {f:FuncId} {args:List Value} {Pre:List Atom} {Post:Value->List Atom->Prop} {fn:Func} {c:Code} {N:Nat} (tags:List Nat) (hf:Tryz.prog.funcs[f]? =some fn)
  (h:∀(X:Cx) (F:HP),IsCx X Tryz.prog fn.results.toList N F Post->J X [.code c] (a0H keys args tags) (.hp F::Pre)) (hb:fn.body=some c:=by exact rfl) (hN:fn.ntmps=N:=by exact rfl) (hl:Nat.ble args.length N=true:=by exact rfl):Fn Tryz.prog f args Pre Post:=Fn.enter tags hf hb hN hl h
abbrev Ps (V:Value) (M:List Atom):Value->List Atom->Prop:=λv As=>v=V/\As=M
theorem aq_ (h:True:=by intros;(repeat' (first | exact Conj.nil | refine Conj.cons ?_ ?_ | omega | exact hq0 | (simpa using hq0) | (exactλh=>h) | exact rfl | (intro hq;have hq0:=hq;try simp only[Bool.and_eq_true,Bool.or_eq_true,decide_eq_true_eq,Bool.not_eq_true',decide_eq_false_iff_not]at hq) | (simp;done) | (simp;omega) | decide))):True:=h
theorem cpq {V:Value} {M:List Atom} {R:Value->List Atom->Prop} (h:R V M):∀v As,(v=V/\As=M)->R v As:=by
 rintro v As ⟨rfl,rfl⟩;exact h
section
variable {X : Cx} {K : List KI} {E : Env} {L : List Atom} {N : Nat} {F : HP} {Post : Value → List Atom → Prop} {rs : List ResultVar}
theorem J.q {K':(Nat->Nat)->List KI} {E':(Nat->Nat)->Env} {L':(Nat->Nat)->List Atom} {ob:(Nat->Nat)->List Prop} (hJ:∀bs,J X (K' bs) (E' bs) (L' bs))
  (hX:IsCx X Tryz.prog rs N F Post:=by assumption) (h:∀bs,Go.Proofs.YtpohajhbfllbbaaGreat.run tab N bs 400 K E L [] 0=⟨K' bs,E' bs,L' bs,ob bs⟩:=by exactλ_=>rfl) (hob:autoParam (∀bs,Conj (ob bs)) aq_._auto_1):J X K E L:=J.run hX tk 400 h hob hJ
theorem J.ru (hX:IsCx X Tryz.prog rs N F Post) {v:Value} {ob:List Prop} (is:List Nat) (hP:Post v (l8 L is)) (h:a1z tab E L rs=some (v,ob):=by exact rfl) (ok:m9 L (0::is)=true:=by exact rfl) (h0:j5 L 0=some (.hp F):=by exact rfl) (hob:autoParam (Conj ob) aq_._auto_1):J X (.code .ret::K) E L:=J.ret hX tk is h hob ok h0 hP
theorem J.cb {ops:Array Oper} {C:Cl} {l:Bool} {i:Nat} {t:PT} {o:Oper} {g:G} {f:FuncId} {vs:List Value} {ob:List Prop} {Pre:List Atom} {Po:Value->List Atom->Prop} {E':Value->Env}
  (c:Fn Tryz.prog f vs Pre Po) (is:List Nat) (hJ:∀v As,Po v As->∃L',D0 L is As=some L'/\Conj (l5 l C L')/\J X (.reg ops C t::K) (E' v) L') (hX:IsCx X Tryz.prog rs N F Post:=by assumption) (ho:j5 ops.toList i=some o:=by exact rfl) (hg:gd ops.toList E o=some g:=by exact rfl) (hgo:g.on=true:=by exact rfl) (hc:a0G E o.op=some (f,vs,ob):=by exact rfl) (hf:j7 Tryz.prog f=true:=by kernel_rfl) (ok:m9 L is=true:=by exact rfl) (hp:l8 L is=Pre:=by exact rfl)
  (hd:∀v,v6 N o.dst v 0 .tt E=some (E' v):=by exactλ_=>rfl) (hob:autoParam (Conj ob) aq_._auto_1):J X (.reg ops C (.alt l i t .non)::K) E L:=J.call hX hf c is 0 ho hg hgo hc hob ok hp hd hJ
theorem J.qn (n:Nat) {K':(Nat->Nat)->List KI} {E':(Nat->Nat)->Env} {L':(Nat->Nat)->List Atom} {ob:(Nat->Nat)->List Prop} (hJ:∀bs,J X (K' bs) (E' bs) (L' bs))
  (hX:IsCx X Tryz.prog rs N F Post:=by assumption) (h:∀bs,Go.Proofs.YtpohajhbfllbbaaGreat.run tab N bs n K E L [] 0=⟨K' bs,E' bs,L' bs,ob bs⟩:=by exactλ_=>rfl) (hob:autoParam (∀bs,Conj (ob bs)) aq_._auto_1):J X K E L:=J.run hX tk n h hob hJ
theorem J.cF {c:Operand} {x y:Code} {k tag:Nat} {b:Bool} (hJ:J X (.code y::K) E L) (hc:ev E c=some ⟨k, .bool b,tag, .tt⟩:=by exact rfl) (hb:b=false:=by first | exact rfl | decide | simp):J X (.code (.cond c x y)::K) E L:=J.cond hc (λh=>by rw[hb]at h;cases h) (λ_=>hJ)
theorem J.cT {c:Operand} {x y:Code} {k tag:Nat} {b:Bool} (hJ:J X (.code x::K) E L) (hc:ev E c=some ⟨k, .bool b,tag, .tt⟩:=by exact rfl) (hb:b=true:=by first | exact rfl | decide | simp):J X (.code (.cond c x y)::K) E L:=J.cond hc (λ_=>hJ) (λh=>by rw[hb]at h;cases h)
theorem J.qd {K' K2:(Nat->Nat)->List KI} {E':(Nat->Nat)->Env} {L':(Nat->Nat)->List Atom} {ob:(Nat->Nat)->List Prop} {c:(Nat->Nat)->Operand} {x y:(Nat->Nat)->Code} {k tag:(Nat->Nat)->Nat} {b:(Nat->Nat)->Bool} (h1:∀bs,b bs=true->J X (.code (x bs)::K2 bs) (E' bs) (L' bs)) (h2:∀bs,b bs=false->J X (.code (y bs)::K2 bs) (E' bs) (L' bs))
  (hX:IsCx X Tryz.prog rs N F Post:=by assumption) (h:∀bs,Go.Proofs.YtpohajhbfllbbaaGreat.run tab N bs 400 K E L [] 0=⟨K' bs,E' bs,L' bs,ob bs⟩:=by exactλ_=>rfl) (hob:autoParam (∀bs,Conj (ob bs)) aq_._auto_1) (hk:∀bs,K' bs= .code (.cond (c bs) (x bs) (y bs))::K2 bs:=by exactλ_=>rfl) (hc:∀bs,ev (E' bs) (c bs)=some ⟨k bs, .bool (b bs),tag bs, .tt⟩:=by exactλ_=>rfl):J X K E L:=J.run hX tk 400 h hob λbs=>by rw[hk bs];exact J.cond (hc bs) (h1 bs) (h2 bs)
theorem J.qF {K' K2:(Nat->Nat)->List KI} {E':(Nat->Nat)->Env} {L':(Nat->Nat)->List Atom} {ob:(Nat->Nat)->List Prop} {c:(Nat->Nat)->Operand} {x y:(Nat->Nat)->Code} {k tag:(Nat->Nat)->Nat} {b:(Nat->Nat)->Bool} (hJ:∀bs,J X (.code (y bs)::K2 bs) (E' bs) (L' bs))
  (hX:IsCx X Tryz.prog rs N F Post:=by assumption) (h:∀bs,Go.Proofs.YtpohajhbfllbbaaGreat.run tab N bs 400 K E L [] 0=⟨K' bs,E' bs,L' bs,ob bs⟩:=by exactλ_=>rfl) (hob:autoParam (∀bs,Conj (ob bs)) aq_._auto_1) (hk:∀bs,K' bs= .code (.cond (c bs) (x bs) (y bs))::K2 bs:=by exactλ_=>rfl) (hc:∀bs,ev (E' bs) (c bs)=some ⟨k bs, .bool (b bs),tag bs, .tt⟩:=by exactλ_=>rfl) (hb:∀bs,b bs=false:=by intro bs;first | exact rfl | decide | simp):J X K E L:=J.run hX tk 400 h hob λbs=>by rw[hk bs];exact J.cond (hc bs) (λh=>by rw[hb]at h;cases h) (λ_=>hJ bs)
theorem J.qT {K' K2:(Nat->Nat)->List KI} {E':(Nat->Nat)->Env} {L':(Nat->Nat)->List Atom} {ob:(Nat->Nat)->List Prop} {c:(Nat->Nat)->Operand} {x y:(Nat->Nat)->Code} {k tag:(Nat->Nat)->Nat} {b:(Nat->Nat)->Bool} (hJ:∀bs,J X (.code (x bs)::K2 bs) (E' bs) (L' bs))
  (hX:IsCx X Tryz.prog rs N F Post:=by assumption) (h:∀bs,Go.Proofs.YtpohajhbfllbbaaGreat.run tab N bs 400 K E L [] 0=⟨K' bs,E' bs,L' bs,ob bs⟩:=by exactλ_=>rfl) (hob:autoParam (∀bs,Conj (ob bs)) aq_._auto_1) (hk:∀bs,K' bs= .code (.cond (c bs) (x bs) (y bs))::K2 bs:=by exactλ_=>rfl) (hc:∀bs,ev (E' bs) (c bs)=some ⟨k bs, .bool (b bs),tag bs, .tt⟩:=by exactλ_=>rfl) (hb:∀bs,b bs=true:=by intro bs;first | exact rfl | decide | simp):J X K E L:=J.run hX tk 400 h hob λbs=>by rw[hk bs];exact J.cond (hc bs) (λ_=>hJ bs) (λh=>by rw[hb]at h;cases h)
theorem J.qr {K':(Nat->Nat)->List KI} {E':(Nat->Nat)->Env} {L':(Nat->Nat)->List Atom} {ob ob2:(Nat->Nat)->List Prop} {K2:(Nat->Nat)->List KI} {v:(Nat->Nat)->Value} (is:List Nat) (hP:∀bs,Post (v bs) (l8 (L' bs) is))
  (hX:IsCx X Tryz.prog rs N F Post:=by assumption) (h:∀bs,Go.Proofs.YtpohajhbfllbbaaGreat.run tab N bs 400 K E L [] 0=⟨K' bs,E' bs,L' bs,ob bs⟩:=by exactλ_=>rfl) (hob:autoParam (∀bs,Conj (ob bs)) aq_._auto_1) (hk:∀bs,K' bs= .code .ret::K2 bs:=by exactλ_=>rfl) (hr:∀bs,a1z tab (E' bs) (L' bs) rs=some (v bs,ob2 bs):=by exactλ_=>rfl) (ok:∀bs,m9 (L' bs) (0::is)=true:=by exactλ_=>rfl) (h0:∀bs,j5 (L' bs) 0=some (.hp F):=by exactλ_=>rfl) (hob2:autoParam (∀bs,Conj (ob2 bs)) aq_._auto_1):J X K E L:=J.run hX tk 400 h hob λbs=>by rw[hk bs];exact J.ret hX tk is (hr bs) (hob2 bs) (ok bs) (h0 bs) (hP bs)
theorem J.qc {K' K2:(Nat->Nat)->List KI} {E':(Nat->Nat)->Env} {L':(Nat->Nat)->List Atom} {ob:(Nat->Nat)->List Prop} {ob2:(Nat->Nat)->List Prop} {ops:(Nat->Nat)->Array Oper} {C:(Nat->Nat)->Cl} {l:(Nat->Nat)->Bool} {i:(Nat->Nat)->Nat} {t:(Nat->Nat)->PT} {o:(Nat->Nat)->Oper} {g:(Nat->Nat)->G} {f:FuncId} {vs:List Value} {Pre:List Atom} {Po:Value->List Atom->Prop} {E2:(Nat->Nat)->Value->Env}
  (c:Fn Tryz.prog f vs Pre Po) (is:List Nat) (hJ:∀bs,∀v As,Po v As->∃L2,D0 (L' bs) is As=some L2/\Conj (l5 (l bs) (C bs) L2)/\J X (.reg (ops bs) (C bs) (t bs)::K2 bs) (E2 bs v) L2)
  (hX:IsCx X Tryz.prog rs N F Post:=by assumption) (h:∀bs,Go.Proofs.YtpohajhbfllbbaaGreat.run tab N bs 400 K E L [] 0=⟨K' bs,E' bs,L' bs,ob bs⟩:=by exactλ_=>rfl) (hob:autoParam (∀bs,Conj (ob bs)) aq_._auto_1) (hk:∀bs,K' bs= .reg (ops bs) (C bs) (.alt (l bs) (i bs) (t bs) .non)::K2 bs:=by exactλ_=>rfl) (ho:∀bs,j5 (ops bs).toList (i bs)=some (o bs):=by exactλ_=>rfl) (hg:∀bs,gd (ops bs).toList (E' bs) (o bs)=some (g bs):=by exactλ_=>rfl) (hgo:∀bs,(g bs).on=true:=by exactλ_=>rfl) (hc:∀bs,a0G (E' bs) (o bs).op=some (f,vs,ob2 bs):=by exactλ_=>rfl) (hf:j7 Tryz.prog f=true:=by kernel_rfl) (ok:∀bs,m9 (L' bs) is=true:=by exactλ_=>rfl) (hp:∀bs,l8 (L' bs) is=Pre:=by exactλ_=>rfl)
  (hd:∀bs v,v6 N (o bs).dst v 0 .tt (E' bs)=some (E2 bs v):=by exactλ_ _=>rfl) (hob2:autoParam (∀bs,Conj (ob2 bs)) aq_._auto_1):J X K E L:=J.run hX tk 400 h hob λbs=>by rw[hk bs];exact J.call hX hf c is 0 (ho bs) (hg bs) (hgo bs) (hc bs) (hob2 bs) (ok bs) (hp bs) (hd bs) (hJ bs)
theorem J.qp {K' K2:(Nat->Nat)->List KI} {E':(Nat->Nat)->Env} {L':(Nat->Nat)->List Atom} {ob:(Nat->Nat)->List Prop} {ob2:(Nat->Nat)->List Prop} {ops:(Nat->Nat)->Array Oper} {C:(Nat->Nat)->Cl} {l:(Nat->Nat)->Bool} {i:(Nat->Nat)->Nat} {t:(Nat->Nat)->PT} {o:(Nat->Nat)->Oper} {g:(Nat->Nat)->G} {f:FuncId} {vs:List Value} {Pre M:List Atom} {V:Value} {E2:(Nat->Nat)->Value->Env} {L2:(Nat->Nat)->List Atom}
  (c:Fn Tryz.prog f vs Pre (λv As=>v=V/\As=M)) (is:List Nat) (hJ:∀bs,J X (.reg (ops bs) (C bs) (t bs)::K2 bs) (E2 bs V) (L2 bs))
  (hX:IsCx X Tryz.prog rs N F Post:=by assumption) (h:∀bs,Go.Proofs.YtpohajhbfllbbaaGreat.run tab N bs 400 K E L [] 0=⟨K' bs,E' bs,L' bs,ob bs⟩:=by exactλ_=>rfl) (hob:autoParam (∀bs,Conj (ob bs)) aq_._auto_1) (hk:∀bs,K' bs= .reg (ops bs) (C bs) (.alt (l bs) (i bs) (t bs) .non)::K2 bs:=by exactλ_=>rfl) (ho:∀bs,j5 (ops bs).toList (i bs)=some (o bs):=by exactλ_=>rfl) (hg:∀bs,gd (ops bs).toList (E' bs) (o bs)=some (g bs):=by exactλ_=>rfl) (hgo:∀bs,(g bs).on=true:=by exactλ_=>rfl) (hc:∀bs,a0G (E' bs) (o bs).op=some (f,vs,ob2 bs):=by exactλ_=>rfl) (hf:j7 Tryz.prog f=true:=by kernel_rfl) (ok:∀bs,m9 (L' bs) is=true:=by exactλ_=>rfl) (hp:∀bs,l8 (L' bs) is=Pre:=by exactλ_=>rfl)
  (hd:∀bs v,v6 N (o bs).dst v 0 .tt (E' bs)=some (E2 bs v):=by exactλ_ _=>rfl) (hob2:autoParam (∀bs,Conj (ob2 bs)) aq_._auto_1) (hl:∀bs,D0 (L' bs) is M=some (L2 bs):=by exactλ_=>rfl) (hs:∀bs,Conj (l5 (l bs) (C bs) (L2 bs)):=by intro bs;first | exact trivial | (repeat' (first | exact trivial | refine⟨rfl,?_⟩))):J X K E L:=J.qc c is (λbs v As ⟨e1,e2⟩=>by subst e1;subst e2;exact⟨_,hl bs,hs bs,hJ bs⟩) hX h hob hk ho hg hgo hc hf ok hp hd hob2
theorem b0a:Tryz.prog.follows .mixedOrders=true:=by kernel_rfl
theorem J.p {K' K2:(Nat->Nat)->List KI} {E':(Nat->Nat)->Env} {L':(Nat->Nat)->List Atom} {ob:(Nat->Nat)->List Prop} {id:(Nat->Nat)->Nat} {ops:(Nat->Nat)->Array Oper} (t:PT) (lt ro:List Nat) (hJ:∀bs,J X (.reg (ops bs) (snap (L' bs) ro) t::K2 bs) (E' bs) (L' bs)) (hX:IsCx X Tryz.prog rs N F Post:=by assumption) (h:∀bs,Go.Proofs.YtpohajhbfllbbaaGreat.run tab N bs 400 K E L [] 0=⟨K' bs,E' bs,L' bs,ob bs⟩:=by exactλ_=>rfl) (hob:autoParam (∀bs,Conj (ob bs)) aq_._auto_1) (hk:∀bs,K' bs= .code (.region (id bs) (ops bs) true)::K2 bs:=by exactλ_=>rfl) (ht:∀bs,t.good (ops bs) lt=true:=by intro bs;kernel_rfl):J X K E L:=J.run hX tk 400 h hob λbs=>by rw[hk bs];exact J.plan t lt ro (by rw[hX.hP];exact b0a) (ht bs) (hJ bs)
theorem J.pq {K' K2:(Nat->Nat)->List KI} {E':(Nat->Nat)->Env} {L':(Nat->Nat)->List Atom} {ob:(Nat->Nat)->List Prop} {id:(Nat->Nat)->Nat} {ops:(Nat->Nat)->Array Oper} {K3:(Nat->Nat)->(Nat->Nat)->List KI} {E3:(Nat->Nat)->(Nat->Nat)->Env} {L3:(Nat->Nat)->(Nat->Nat)->List Atom} {ob3:(Nat->Nat)->(Nat->Nat)->List Prop} (t:PT) (lt ro:List Nat) (hJ:∀bs cs,J X (K3 bs cs) (E3 bs cs) (L3 bs cs)) (hX:IsCx X Tryz.prog rs N F Post:=by assumption) (h:∀bs,Go.Proofs.YtpohajhbfllbbaaGreat.run tab N bs 400 K E L [] 0=⟨K' bs,E' bs,L' bs,ob bs⟩:=by exactλ_=>rfl) (hob:autoParam (∀bs,Conj (ob bs)) aq_._auto_1) (hk:∀bs,K' bs= .code (.region (id bs) (ops bs) true)::K2 bs:=by exactλ_=>rfl) (ht:∀bs,t.good (ops bs) lt=true:=by intro bs;kernel_rfl) (h3:∀bs cs,Go.Proofs.YtpohajhbfllbbaaGreat.run tab N cs 400 (.reg (ops bs) (snap (L' bs) ro) t::K2 bs) (E' bs) (L' bs) [] 0=⟨K3 bs cs,E3 bs cs,L3 bs cs,ob3 bs cs⟩:=by exactλ_ _=>rfl) (hob3:autoParam (∀bs cs,Conj (ob3 bs cs)) aq_._auto_1):J X K E L:=J.p t lt ro (λbs=>J.run hX tk 400 (h3 bs) (hob3 bs) (hJ bs)) hX h hob hk ht
theorem J.pn {K' K2:(Nat->Nat)->List KI} {E':(Nat->Nat)->Env} {L':(Nat->Nat)->List Atom} {ob:(Nat->Nat)->List Prop} {id:(Nat->Nat)->Nat} {ops:(Nat->Nat)->Array Oper} {K3:(Nat->Nat)->(Nat->Nat)->List KI} {E3:(Nat->Nat)->(Nat->Nat)->Env} {L3:(Nat->Nat)->(Nat->Nat)->List Atom} {ob3:(Nat->Nat)->(Nat->Nat)->List Prop} (n:Nat) (t:PT) (lt ro:List Nat) (hJ:∀bs cs,J X (K3 bs cs) (E3 bs cs) (L3 bs cs)) (hX:IsCx X Tryz.prog rs N F Post:=by assumption) (h:∀bs,Go.Proofs.YtpohajhbfllbbaaGreat.run tab N bs 400 K E L [] 0=⟨K' bs,E' bs,L' bs,ob bs⟩:=by exactλ_=>rfl) (hob:autoParam (∀bs,Conj (ob bs)) aq_._auto_1) (hk:∀bs,K' bs= .code (.region (id bs) (ops bs) true)::K2 bs:=by exactλ_=>rfl) (ht:∀bs,t.good (ops bs) lt=true:=by intro bs;kernel_rfl) (h3:∀bs cs,Go.Proofs.YtpohajhbfllbbaaGreat.run tab N cs n (.reg (ops bs) (snap (L' bs) ro) t::K2 bs) (E' bs) (L' bs) [] 0=⟨K3 bs cs,E3 bs cs,L3 bs cs,ob3 bs cs⟩:=by exactλ_ _=>rfl) (hob3:autoParam (∀bs cs,Conj (ob3 bs cs)) aq_._auto_1):J X K E L:=J.p t lt ro (λbs=>J.run hX tk n (h3 bs) (hob3 bs) (hJ bs)) hX h hob hk ht
theorem J.v {ops:Array Oper} {C:Cl} {l:Bool} {i:Nat} {t:PT} {o:Oper} {g:G} {E':Env} (v:Value) (ho:j5 ops.toList i=some o) (hg:gd ops.toList E o=some g)
  (hr:g.on=true->∀a w,EnvOK N E a->Sep L (hl w)->(execOp a.eval o).run Tryz.prog w= .ok (.value v) w) (hJ:J X (.reg ops C t::K) E' L) (hX:IsCx X Tryz.prog rs N F Post:=by assumption) (hd:v6 N o.dst v 0 g E=some E':=by exact rfl) (hst:Conj (l5 l C L):=by trivial):J X (.reg ops C (.alt l i t .non)::K) E L:=J.val hX v 0 ho hg hr hd hst hJ
theorem J.vT {ops:Array Oper} {C:Cl} {q:Bool} {i:Nat} {t:PT} {o:Oper} {g:G} {E':Env} (v:Value) (ho:j5 ops.toList i=some o) (hg:gd ops.toList E o=some g)
  (hr:g.on=true->∀a w,EnvOK N E a->(q=false->CAt C w)->(execOp a.eval o).run Tryz.prog w= .ok (.value v) w) (hJ:J X (.reg ops C t::K) E' L) (hX:IsCx X Tryz.prog rs N F Post:=by assumption) (hd:v6 N o.dst v 0 g E=some E':=by exact rfl):J X (.reg ops C (.take q i t)::K) E L:=J.valT hX v 0 ho hg hr hd hJ
theorem J.qx {K':(Nat->Nat)->List KI} {E':(Nat->Nat)->Env} {L':(Nat->Nat)->List Atom} {ob ob2:(Nat->Nat)->List Prop} {K2:(Nat->Nat)->List KI} {v:(Nat->Nat)->Value} (is:List Nat)
  (hX:IsCx X Tryz.prog rs N F Post:=by assumption) (h:∀bs,Go.Proofs.YtpohajhbfllbbaaGreat.run tab N bs 400 K E L [] 0=⟨K' bs,E' bs,L' bs,ob bs⟩:=by exactλ_=>rfl) (hob:autoParam (∀bs,Conj (ob bs)) aq_._auto_1) (hk:∀bs,K' bs= .code .ret::K2 bs:=by exactλ_=>rfl) (hr:∀bs,a1z tab (E' bs) (L' bs) rs=some (v bs,ob2 bs):=by exactλ_=>rfl) (ok:∀bs,m9 (L' bs) (0::is)=true:=by exactλ_=>rfl) (h0:∀bs,j5 (L' bs) 0=some (.hp F):=by exactλ_=>rfl) (hob2:autoParam (∀bs,Conj (ob2 bs)) aq_._auto_1) (hP:∀bs,Post (v bs) (l8 (L' bs) is):=by exactλ_=>⟨rfl,rfl⟩):J X K E L:=J.qr is hP hX h hob hk hr ok h0 hob2
theorem J.f {v:Value} {ob:List Prop} (is:List Nat) (hP:Post v (l8 L is)) (hX:IsCx X Tryz.prog rs N F Post:=by assumption) (h:a1z tab E L rs=some (v,ob):=by exact rfl) (ok:m9 L (0::is)=true:=by exact rfl) (h0:j5 L 0=some (.hp F):=by exact rfl) (hob:autoParam (Conj ob) aq_._auto_1):J X [] E L:=J.fin hX tk is h hob ok h0 hP
theorem J.o {α:Type} {f:α->List Atom} {L':α->List Atom} (i:Nat) (h:∀x,J X K E (L' x)) (ok:m9 L [i]=true:=by exact rfl) (hp:l8 L [i]=[exA f]:=by exact rfl) (hL:∀x,D0 L [i] (f x)=some (L' x):=by exactλ_=>rfl):J X K E L:=J.open_ i ok hp hL h
theorem J.cl {α:Type} (f:α->List Atom) {L':List Atom} (x:α) (is:List Nat) (h:J X K E L') (ok:m9 L is=true:=by exact rfl) (hp:l8 L is=f x:=by exact rfl) (hL:D0 L is [exA f]=some L':=by exact rfl):J X K E L:=J.close x is ok hp hL h
theorem J.s1 {ops:Array Oper} {C:Cl} {lt:Bool} {i:Nat} {t:PT} {o:Oper} {g:G} {ty0:TypeId} {x y:Operand} {k1 k2 t1 t2 b off ty:Nat} {g1 g2:G} {v:Value} {cs:List Value} {ti:TI} {E':Value->Env} {L2:List Atom} (is:Nat) (cs':List Value) (hlt:off<cs.length) (hcs:cs.set off v=cs') (hJ:J X (.reg ops C t::K) (E' undef) L2) (hX:IsCx X Tryz.prog rs N F Post:=by assumption)
  (ho:j5 ops.toList i=some o:=by exact rfl) (hg:gd ops.toList E o=some g:=by exact rfl) (hgo:g.on=true:=by exact rfl) (hop:o.op= .store ty0 x y:=by exact rfl) (hx:ev E x=some ⟨k1, .pointer (some ⟨b,off,none⟩),t1,g1⟩:=by exact rfl) (v1:g1.on=true:=by exact rfl) (hy:ev E y=some ⟨k2,v,t2,g2⟩:=by exact rfl) (v2:g2.on=true:=by exact rfl)
  (hti:tab.get ty0=some ti:=by exact rfl) (hsz:Nat.beq ti.size 1=true:=by exact rfl) (hc:v.cells.toList=[v]:=by exact rfl) (h1:v.oneCell'=true:=by exact rfl) (hL:j5 L is=some (.pt b ty cs):=by exact rfl) (hL2:r8 L is (.pt b ty cs')=some L2:=by exact rfl)
  (hd:∀v,v6 N o.dst v 0 .tt E=some (E' v):=by exactλ_=>rfl) (hs:Conj (l5 lt C L2):=by first | exact trivial | (repeat' (first | exact trivial | refine⟨rfl,?_⟩))):J X (.reg ops C (.alt lt i t .non)::K) E L:=J.store1 hX tk is ho hg hgo hop hx v1 hy v2 hti hsz hc h1 hL hlt cs' hcs hL2 hd ⟨hs,hJ⟩
theorem J.mk {ops:Array Oper} {C:Cl} {lt:Bool} {i:Nat} {t:PT} {o:Oper} {g:G} {st e by_ size:Nat} {x y:Operand} {k1 k2 t1 t2 n s1 b1:Nat} {kl kc:IntKind} {g1 g2:G} {z1 z:List Value} {td:TD} {E':Value->Env} {L2:Nat->List Atom} (tag:Nat) (hJ:∀b,J X (.reg ops C t::K) (E' (.slice (some ⟨b,0,none⟩) n n)) (L2 b)) (hX:IsCx X Tryz.prog rs N F Post:=by assumption)
  (ho:j5 ops.toList i=some o:=by exact rfl) (hg:gd ops.toList E o=some g:=by exact rfl) (hgo:g.on=true:=by exact rfl) (hop:o.op= .makeSlice st x y:=by exact rfl) (hx:ev E x=some ⟨k1, .int kl n,t1,g1⟩:=by exact rfl) (v1:g1.on=true:=by exact rfl) (hy:ev E y=some ⟨k2, .int kc n,t2,g2⟩:=by exact rfl) (v2:g2.on=true:=by exact rfl)
  (hst:tab.get st=some ⟨.slice e size,s1,z1,b1⟩:=by exact rfl) (he:tab.get e=some ⟨td,size,z,by_⟩:=by exact rfl) (hzs:Nat.beq z.length size=true:=by exact rfl) (h63:n<=maxLen:=by first | decide | (simp only[maxLen];omega)) (hbytes:by_*n<=281474976710656:=by first | omega | decide)
  (hL2:∀b,Q4 a6j L (.pt b e (List.replicate n z).flatten)=some (L2 b,tag):=by exactλ_=>rfl) (hd:∀v,v6 N o.dst v tag .tt E=some (E' v):=by exactλ_=>rfl) (hs:∀b,Conj (l5 lt C (L2 b)):=by intro b;first | exact trivial | (repeat' (first | exact trivial | refine⟨rfl,?_⟩))):J X (.reg ops C (.alt lt i t .non)::K) E L:=J.makeMany hX tk tag ho hg hgo hop hx v1 hy v2 hst he hzs h63 hbytes hL2 hd λb=>⟨hs b,hJ b⟩
theorem J.ap {ops:Array Oper} {C:Cl} {lt:Bool} {i:Nat} {t:PT} {o:Oper} {g:G} {x y:Operand} {st e size by_:Nat} {ks tgs:Nat} {gs:G} {a:Option Nat} {n cap:Nat} {xs ys:List Value} {ky tgy:Nat} {gy:G} {b m c ty:Nat} {cs:List Value} {s1 b1:Nat} {z1:List Value} {E':Value->Env} {L':Option Nat->Nat->List Atom} {td:TD} {z:List Value} (is iy tag:Nat) (hys:xs++cs=ys) (hJ:∀a' cap',J X (.reg ops C t::K) (E' (slv a' (n+m) cap')) (L' a' cap')) (hX:IsCx X Tryz.prog rs N F Post:=by assumption)
  (ho:j5 ops.toList i=some o:=by exact rfl) (hg:gd ops.toList E o=some g:=by exact rfl) (hgo:g.on=true:=by exact rfl) (hop:o.op= .call ⟨.builtin .append,#[x,y],#[st,st]⟩:=by exact rfl)
  (hx:ev E x=some ⟨ks,slv a n cap,tgs,gs⟩:=by exact rfl) (hvx:gs.on=true:=by exact rfl) (hy:ev E y=some ⟨ky, .slice (some ⟨b,0,none⟩) m c,tgy,gy⟩:=by exact rfl) (hvy:gy.on=true:=by exact rfl)
  (hLs:j5 L is=some (c8 e size a n cap xs):=by exact rfl) (hLy:j5 L iy=some (.pt b ty cs):=by exact rfl) (hst:tab.get st=some ⟨.slice e size,s1,z1,b1⟩:=by exact rfl) (he:tab.get e=some ⟨td,size,z,by_⟩:=by exact rfl) (hz:Nat.beq z.length size=true:=by exact rfl)
  (hsz:Nat.blt 0 size=true:=by exact rfl) (hcs:cs.length=m*size:=by exact rfl) (h1:cs.all (·.oneCell')=true:=by exact rfl) (h63:n+m<=maxLen:=by first | decide | (simp only[maxLen];omega)) (hbytes:(n+m)*by_<=140737488355328:=by first | omega | decide)
  (hd:∀v,v6 N o.dst v tag .tt E=some (E' v):=by exactλ_=>rfl) (hL:∀a' cap',r8 L is (c8 e size a' (n+m) cap' ys)=some (L' a' cap'):=by exactλ_ _=>rfl) (hs:∀a' cap',Conj (l5 lt C (L' a' cap')):=by intro _ _;first | exact trivial | (repeat' (first | exact trivial | refine⟨rfl,?_⟩))):J X (.reg ops C (.alt lt i t .non)::K) E L:=
 J.append hX tk is iy tag ho hg hgo hop hx hvx hy hvy hLs hLy hst he hz hsz hcs h1 h63 hbytes hd λa' cap'=>⟨L' a' cap',by rw[hys];exact hL a' cap',hs a' cap',hJ a' cap'⟩
theorem J.cO {g:Nat} {ys:List Value} {L':List Atom} (e size n cap:Nat) (xs:List Value) (i:Nat) (h:J X K E L') (ok:m9 L [i]=true:=by exact rfl) (hp:l8 L [i]=[.pt g e ys]:=by exact rfl) (h0:xs.length=n*size:=by exact rfl) (h2:n<=cap:=by decide) (h3:cap<=maxLen:=by decide) (h4:ys.length=cap*size:=by exact rfl) (h5:ys.take (n*size)=xs:=by exact rfl) (hL:D0 L [i] [c8 e size (some g) n cap xs]=some L':=by exact rfl):J X K E L:=J.closeOwn i ok hp h0 h2 h3 h4 h5 hL h
theorem J.sN {ops:Array Oper} {C:Cl} {lt:Bool} {i:Nat} {t:PT} {o:Oper} {g:G} {ty0:TypeId} {x y:Operand} {k1 k2 t1 t2 b off ty:Nat} {g1 g2:G} {v:Value} {cs:List Value} {ti:TI} {E':Value->Env} {L2:List Atom} (vs:List Value) (is:Nat) (cs':List Value) (hlt:off+vs.length<=cs.length) (hcs:cs.take off++vs++cs.drop (off+vs.length)=cs') (hJ:J X (.reg ops C t::K) (E' undef) L2) (hX:IsCx X Tryz.prog rs N F Post:=by assumption)
  (ho:j5 ops.toList i=some o:=by exact rfl) (hg:gd ops.toList E o=some g:=by exact rfl) (hgo:g.on=true:=by exact rfl) (hop:o.op= .store ty0 x y:=by exact rfl) (hx:ev E x=some ⟨k1, .pointer (some ⟨b,off,none⟩),t1,g1⟩:=by exact rfl) (v1:g1.on=true:=by exact rfl) (hy:ev E y=some ⟨k2,v,t2,g2⟩:=by exact rfl) (v2:g2.on=true:=by exact rfl)
  (hti:tab.get ty0=some ti:=by exact rfl) (hc:v.cells.toList=vs:=by exact rfl) (hsz:ti.size=vs.length:=by exact rfl) (h1:vs.all (·.oneCell')=true:=by exact rfl) (hL:j5 L is=some (.pt b ty cs):=by exact rfl) (hL2:r8 L is (.pt b ty cs')=some L2:=by exact rfl)
  (hd:∀v,v6 N o.dst v 0 .tt E=some (E' v):=by exactλ_=>rfl) (hs:Conj (l5 lt C L2):=by first | exact trivial | (repeat' (first | exact trivial | refine⟨rfl,?_⟩))):J X (.reg ops C (.alt lt i t .non)::K) E L:=J.storeN hX tk is ho hg hgo hop hx v1 hy v2 hti hc hsz h1 hL hlt cs' hcs hL2 hd ⟨hs,hJ⟩
theorem stq {p:Prop} (h:p:=by first | exact trivial | (repeat' (first | exact trivial | refine⟨rfl,?_⟩))):p:=h
theorem J.n {α:Type} {I:α->Prop} {Ei:α->Env} {Li:α->List Atom} {μ:α->Nat} {m:Nat} (x:α) (h1:I x) (h2:μ x<m) (is:List Nat) (ok:m9 L is=true:=by exact rfl) (hL:l8 L is=Li x:=by exact rfl) (h3:autoParam (Conj (a2x E (Ei x))) aq_._auto_1):
  J X (.stop (λa w=>Ext X.w0 w/\∃x',I x'/\μ x'<m/\EnvOK X.n (Ei x') a/\Sep (Li x') (hl w))::K) E L:=J.nextS x h1 h2 is h3 ok hL
theorem J.l {c:Code} {α:Type} (I:α->Prop) (Ei:α->Env) (is:List Nat) (As:α->List Atom) (μ:α->Nat) (x0:α) {Li:α->List Atom} (h0:I x0)
  (round:∀x,I x->J X (.code c:: .stop (λa w=>Ext X.w0 w/\∃x',I x'/\μ x'<μ x/\EnvOK X.n (Ei x') a/\Sep (Li x') (hl w))::K) (Ei x) (Li x)) (ok:m9 L is=true:=by exact rfl) (hA:l8 L is=As x0:=by exact rfl) (hLi:∀x,D0 L is (As x)=some (Li x):=by exactλ_=>rfl) (hE:autoParam (Conj (a2x E (Ei x0))) aq_._auto_1):J X (.code (.loop c)::K) E L:=J.loopN I Ei is As μ x0 h0 hE ok hA hLi round
end
def H4 (q:Nat) (l:List A3):Atom:=exA λmr:Nat=>[.pt q 181 [.map (some mr)],s7 mr a3v (w8 l)]
theorem b1J:Tryz.prog.underlying 179=some (.map 33 4):=by kernel_rfl
theorem a4N:FP 73 [] [] (λv As=>∃q,v=pp q/\As=[H4 q []]):=by
 refine FE [] Tryz.func73 λX F hX=>?_;refine J.q λbs=>?_;refine J.turn1 [1] rfl (As:=[s7 (bs 0) a3v (w8 [])]) (λh s=>?_) rfl ?_
 ·refine⟨λ_=>0,λi A hA=>?_⟩;cases i with
  | zero=>simp at hA;subst hA;exact⟨#[],0,res_some.2 ⟨rfl,s.get (i:=0) rfl⟩,rfl,by simp,by simp⟩
  | succ k=>simp at hA
 refine J.cl (λmr:Nat=>[.pt (bs 1) 181 [.map (some mr)],s7 mr a3v (w8 [])]) (bs 0) [2,1] ?_;refine J.qr [2] λ_=>?_;exact⟨bs 1,rfl,rfl⟩
theorem b3h (q:Nat) (l:List A3) (x y z:Int):FP 243 [pp q, .agg #[iI x,iI y,iI z]] [H4 q l]
  (Ps (.tuple #[.bool (decide ((x,y,z)∈l)), .bool (decide ((x,y,z)∈l))]) [H4 q l]):=by
 refine FE [2,0] Tryz.func243 λX F hX=>?_;refine J.o (α:=Nat) 1 λmr=>?_;refine J.qF λ_=>?_;refine J.pq (.of [0,4,8,13,17,21,24,28,32,36,40]) [10] [1,2,3] λ_ _=>?_;refine J.vT (.tuple #[.bool (decide ((x,y,z)∈l)), .bool (decide ((x,y,z)∈l))]) rfl rfl (λ_ a w he hC=>?_) ?_
 ·refine(i6 (key:=(x,y,z)) C7 b1J (z:= .bool false) (λw=>by kernel_rfl) rfl rfl rfl rfl he rfl rfl (hC rfl _ (f0 (i:=2) rfl))).trans ?_;simp only[(a0I l _).1,(a0I l _).2]
 refine J.cl (λmr:Nat=>[.pt q 181 [.map (some mr)],s7 mr a3v (w8 l)]) mr [1,2] ?_;exact J.qx [1]
theorem b4H (q:Nat) (l:List A3) (x y z:Int):FP 110 [pp q, .agg #[iI x,iI y,iI z], .bool true] [H4 q l]
  (Ps (.tuple #[]) [H4 q (a8H l (x,y,z))]):=by
 refine FE [2,0,0] Tryz.func110 λX F hX=>?_;refine J.o (α:=Nat) 1 λmr=>?_;refine J.qT λ_=>?_;refine J.pq (.of [0,4,8,13,17,20,27]) [6] [1,2,3] λ_ _=>?_;refine J.mapUpdate hX C7 b1J (x,y,z) 2 rfl rfl rfl rfl rfl rfl rfl rfl rfl rfl rfl rfl (λ_=>rfl) (by rw[a6E];rfl) ⟨trivial,?_⟩;refine J.cl (λmr:Nat=>[.pt q 181 [.map (some mr)],s7 mr a3v (w8 (a8H l (x,y,z)))]) mr [1,2] ?_;refine J.q λ_=>?_;refine J.f [1] ?_;exact⟨rfl,rfl⟩
theorem a9q (q:Nat) (l:List A3) (x y z:Int):FP 224 [pp q, .agg #[iI x,iI y,iI z]] [H4 q l]
  (Ps (.bool (decide ((x,y,z)∈l))) [H4 q (l.erase (x,y,z))]):=by
 refine FE [2,0] Tryz.func224 λX F hX=>?_;refine J.qp (b3h q l x y z) [1] λ_=>?_;refine J.qd (λ_ h=>?_) λ_ h=>?_
 ·refine J.o (α:=Nat) 1 λmr=>?_;refine J.pq (.of [0,4,8,13,17,22]) [] [1,2] λ_ _=>?_;refine J.delete hX C7 b1J (x,y,z) 3 rfl rfl rfl rfl rfl rfl rfl rfl rfl rfl (λ_=>rfl) (by rw[a6H];rfl) ⟨⟨rfl,rfl,trivial⟩,?_⟩;refine J.cl (λmr:Nat=>[.pt q 181 [.map (some mr)],s7 mr a3v (w8 (l.erase (x,y,z)))]) mr [1,3] ?_;exact J.qx [1]
 ·refine J.qr [1] λ_=>?_;simp only[decide_eq_false_iff_not]at h;exact⟨rfl,by rw[List.erase_of_not_mem h];rfl⟩
end Go.Proofs.YtpohajhbfllbbaaGreat
namespace Go.Proofs.YtpohajhbfllbbaaGreat
namespace Bt
def bits (u w:Nat):List Bool:=(List.range w).map λi=>u.testBit (w-1-i)
def byteAt (l:List Bool) (j:Nat):Nat:=
 (l.getD j false).toNat*128+(l.getD (j+1) false).toNat*64+(l.getD (j+2) false).toNat*32+(l.getD (j+3) false).toNat*16+
 (l.getD (j+4) false).toNat*8+(l.getD (j+5) false).toNat*4+(l.getD (j+6) false).toNat*2+(l.getD (j+7) false).toNat
def pack (l:List Bool):List UInt8:=(List.range ((l.length+7)/8)).map λj=>UInt8.ofNat (byteAt l (8*j))
theorem length_bits (u w:Nat):(bits u w).length=w:=by simp[bits]
theorem byteAt_lt (l:List Bool) (j:Nat):byteAt l j<256:=by
 unfold byteAt;have h:∀b:Bool,b.toNat<=1:=λb=>Bool.toNat_le b;have h0:=h (l.getD j false);have h1:=h (l.getD (j+1) false);have h2:=h (l.getD (j+2) false);have h3:=h (l.getD (j+3) false);have h4:=h (l.getD (j+4) false);have h5:=h (l.getD (j+5) false);have h6:=h (l.getD (j+6) false);have h7:=h (l.getD (j+7) false);omega
theorem length_pack (l:List Bool):(pack l).length=(l.length+7)/8:=by simp[pack]
theorem pack_get (l:List Bool) (j:Nat) (h:j<(l.length+7)/8):(pack l)[j]? =some (UInt8.ofNat (byteAt l (8*j))):=by
 simp[pack,h]
theorem byteAt_out (l:List Bool) (j:Nat) (h:l.length<=j):byteAt l j=0:=by
 have g:∀k,l.length<=k->l.getD k false=false:=λk hk=>by simp[List.getD_eq_getElem?_getD,List.getElem?_eq_none hk]
 unfold byteAt;rw[g _ h,g _ (by omega),g _ (by omega),g _ (by omega),g _ (by omega),g _ (by omega),g _ (by omega),g _ (by omega)];rfl
theorem getD_snoc (l:List Bool) (x:Bool) (k:Nat):(l++[x]).getD k false=if k=l.length then x else l.getD k false:=by
 simp only[List.getD_eq_getElem?_getD,List.getElem?_append]
 by_cases h:k<l.length
 ·rw[if_pos h,if_neg (by omega)]
 ·rw[if_neg h]
  by_cases e:k=l.length
  ·subst e;simp
  ·rw[if_neg e,List.getElem?_eq_none (by simp;omega),List.getElem?_eq_none (by omega)]
theorem byteAt_snoc (l:List Bool) (x:Bool) (j:Nat):byteAt (l++[x]) j=byteAt l j+(if j<=l.length/\l.length<j+8 then x.toNat*2^(7-(l.length-j))else 0):=by
 have g:∀k,l.length<=k->l.getD k false=false:=λk hk=>by simp[List.getD_eq_getElem?_getD,List.getElem?_eq_none hk]
 by_cases h:j<=l.length/\l.length<j+8
 ·rw[if_pos h];obtain⟨i,hi⟩:∃i,l.length=j+i:=⟨l.length-j,by omega⟩;have hi8:i<8:=by omega
  rw[show l.length-j=i from by omega];unfold byteAt;simp only[getD_snoc]
  match i,hi8 with
  | 0,_=>rw[g j (by omega),if_pos (by omega),if_neg (by omega),if_neg (by omega),if_neg (by omega),if_neg (by omega),if_neg (by omega),if_neg (by omega),if_neg (by omega)];simp;omega
  | 1,_=>rw[g (j+1) (by omega),if_neg (by omega),if_pos (by omega),if_neg (by omega),if_neg (by omega),if_neg (by omega),if_neg (by omega),if_neg (by omega),if_neg (by omega)];simp;omega
  | 2,_=>rw[g (j+2) (by omega),if_neg (by omega),if_neg (by omega),if_pos (by omega),if_neg (by omega),if_neg (by omega),if_neg (by omega),if_neg (by omega),if_neg (by omega)];simp;omega
  | 3,_=>rw[g (j+3) (by omega),if_neg (by omega),if_neg (by omega),if_neg (by omega),if_pos (by omega),if_neg (by omega),if_neg (by omega),if_neg (by omega),if_neg (by omega)];simp;omega
  | 4,_=>rw[g (j+4) (by omega),if_neg (by omega),if_neg (by omega),if_neg (by omega),if_neg (by omega),if_pos (by omega),if_neg (by omega),if_neg (by omega),if_neg (by omega)];simp;omega
  | 5,_=>rw[g (j+5) (by omega),if_neg (by omega),if_neg (by omega),if_neg (by omega),if_neg (by omega),if_neg (by omega),if_pos (by omega),if_neg (by omega),if_neg (by omega)];simp;omega
  | 6,_=>rw[g (j+6) (by omega),if_neg (by omega),if_neg (by omega),if_neg (by omega),if_neg (by omega),if_neg (by omega),if_neg (by omega),if_pos (by omega),if_neg (by omega)];simp;omega
  | 7,_=>rw[g (j+7) (by omega),if_neg (by omega),if_neg (by omega),if_neg (by omega),if_neg (by omega),if_neg (by omega),if_neg (by omega),if_neg (by omega),if_pos (by omega)];simp
 ·rw[if_neg h];unfold byteAt;simp only[getD_snoc];rw[if_neg (by omega),if_neg (by omega),if_neg (by omega),if_neg (by omega),if_neg (by omega),if_neg (by omega),if_neg (by omega),if_neg (by omega)];simp

def packZ (l:List Bool):List UInt8:=if l.length % 8=0 then pack l++[0]else pack l
theorem length_packZ (l:List Bool):(packZ l).length=l.length/8+1:=by
 unfold packZ;split
 ·simp[length_pack];omega
 ·rw[length_pack];omega
theorem packZ_get (l:List Bool) (j:Nat) (h:j<l.length/8+1):(packZ l)[j]? =some (UInt8.ofNat (byteAt l (8*j))):=by
 unfold packZ;split
 ·by_cases e:j<(pack l).length
  ·rw[List.getElem?_append_left e,pack_get _ _ (by rw[length_pack]at e;exact e)]
  ·have:j=(pack l).length:=by rw[length_pack]at e ⊢;omega
   subst this;rw[List.getElem?_append_right (Nat.le_refl _),Nat.sub_self,byteAt_out _ _ (by rw[length_pack];omega)];rfl
 ·exact pack_get _ _ (by omega)
theorem pack_snoc (l:List Bool) (x:Bool):pack (l++[x])=(packZ l).set (l.length/8) (UInt8.ofNat (byteAt l (8*(l.length/8))+x.toNat*2^(7-l.length % 8))):=by
 apply List.ext_getElem?;intro j;have hl:(pack (l++[x])).length=l.length/8+1:=by rw[length_pack];simp;omega
 by_cases h:j<l.length/8+1
 ·rw[pack_get _ _ (by simp;omega),List.getElem?_set,length_packZ,byteAt_snoc]
  by_cases e:l.length/8=j
  ·rw[if_pos e,if_pos (by omega),if_pos (by omega),<- e,show l.length-8*(l.length/8)=l.length % 8 from by omega]
  ·rw[if_neg e,if_neg (by omega),packZ_get _ _ h];simp
 ·rw[List.getElem?_eq_none (by omega),List.getElem?_eq_none (by simp[length_packZ];omega)]
theorem byte_or_dec:∀i,i<8->∀h,h<2^i->(h*2^(8-i))||| (2^(7-i))=h*2^(8-i)+2^(7-i):=by decide+kernel
theorem byteAt_last (l:List Bool):∃h,h<2^(l.length % 8)/\byteAt l (8*(l.length/8))=h*2^(8-l.length % 8):=by
 have g:∀k,l.length<=k->l.getD k false=false:=λk hk=>by simp[List.getD_eq_getElem?_getD,List.getElem?_eq_none hk]
 have hb:∀b:Bool,b.toNat<=1:=λb=>Bool.toNat_le b;generalize hj:8*(l.length/8)=j;have h8:l.length % 8<8:=Nat.mod_lt _ (by omega);have hn:l.length=j+l.length % 8:=by omega
 have h0:=hb (l.getD j false);have h1:=hb (l.getD (j+1) false);have h2:=hb (l.getD (j+2) false);have h3:=hb (l.getD (j+3) false);have h4:=hb (l.getD (j+4) false);have h5:=hb (l.getD (j+5) false);have h6:=hb (l.getD (j+6) false);generalize l.length % 8=i at*;unfold byteAt
 match i,h8 with
 | 0,_=>rw[g j (by omega),g (j+1) (by omega),g (j+2) (by omega),g (j+3) (by omega),g (j+4) (by omega),g (j+5) (by omega),g (j+6) (by omega),g (j+7) (by omega)];exact⟨0,by decide,rfl⟩
 | 1,_=>rw[g (j+1) (by omega),g (j+2) (by omega),g (j+3) (by omega),g (j+4) (by omega),g (j+5) (by omega),g (j+6) (by omega),g (j+7) (by omega)];exact⟨(l.getD j false).toNat,by omega,by simp⟩
 | 2,_=>rw[g (j+2) (by omega),g (j+3) (by omega),g (j+4) (by omega),g (j+5) (by omega),g (j+6) (by omega),g (j+7) (by omega)];exact⟨(l.getD j false).toNat*2+(l.getD (j+1) false).toNat,by omega,by simp;omega⟩
 | 3,_=>rw[g (j+3) (by omega),g (j+4) (by omega),g (j+5) (by omega),g (j+6) (by omega),g (j+7) (by omega)];exact⟨(l.getD j false).toNat*4+(l.getD (j+1) false).toNat*2+(l.getD (j+2) false).toNat,by omega,by simp;omega⟩
 | 4,_=>rw[g (j+4) (by omega),g (j+5) (by omega),g (j+6) (by omega),g (j+7) (by omega)];exact⟨(l.getD j false).toNat*8+(l.getD (j+1) false).toNat*4+(l.getD (j+2) false).toNat*2+(l.getD (j+3) false).toNat,by omega,by simp;omega⟩
 | 5,_=>rw[g (j+5) (by omega),g (j+6) (by omega),g (j+7) (by omega)];exact⟨(l.getD j false).toNat*16+(l.getD (j+1) false).toNat*8+(l.getD (j+2) false).toNat*4+(l.getD (j+3) false).toNat*2+(l.getD (j+4) false).toNat,by omega,by simp;omega⟩
 | 6,_=>rw[g (j+6) (by omega),g (j+7) (by omega)];exact⟨(l.getD j false).toNat*32+(l.getD (j+1) false).toNat*16+(l.getD (j+2) false).toNat*8+(l.getD (j+3) false).toNat*4+(l.getD (j+4) false).toNat*2+(l.getD (j+5) false).toNat,by omega,by simp;omega⟩
 | 7,_=>rw[g (j+7) (by omega)];exact⟨(l.getD j false).toNat*64+(l.getD (j+1) false).toNat*32+(l.getD (j+2) false).toNat*16+(l.getD (j+3) false).toNat*8+(l.getD (j+4) false).toNat*4+(l.getD (j+5) false).toNat*2+(l.getD (j+6) false).toNat,by omega,by simp;omega⟩
theorem byte_or (l:List Bool) (x:Bool):byteAt l (8*(l.length/8))||| x.toNat*2^(7-l.length % 8)=byteAt l (8*(l.length/8))+x.toNat*2^(7-l.length % 8):=by
 obtain⟨h,hh,e⟩:=byteAt_last l;cases x
 ·simp
 ·rw[e];simpa using byte_or_dec (l.length % 8) (Nat.mod_lt _ (by omega)) h hh
theorem take_bits_succ (u n k:Nat) (h:k<n):(bits u n).take (k+1)=(bits u n).take k++[u.testBit (n-1-k)]:=by
 rw[List.take_succ_eq_append_getElem (by rw[length_bits];exact h)];simp[bits]
def bitAt (b:List UInt8) (j:Nat):Bool:=(b.getD (j/8) 0).toNat.testBit (7-j % 8)
def numAt (b:List UInt8) (k:Nat):Nat->Nat
 | 0=>0
 | w+1=>2*numAt b k w+(bitAt b (k+w)).toNat
theorem numAt_lt (b:List UInt8) (k w:Nat):numAt b k w<2^w:=by
 induction w with
 | zero=>simp[numAt]
 | succ w ih=>
  have:=Bool.toNat_le (bitAt b (k+w));rw[numAt,Nat.pow_succ];omega
end Bt
end Go.Proofs.YtpohajhbfllbbaaGreat
namespace Go.Proofs.YtpohajhbfllbbaaGreat
structure Sh where
 data:List UInt8
 role:Int
 lpn:Int
 seq:Int
 kind:Int
 block:Int
 row:Int
 mask:Int
 deriving DecidableEq
def zeros16:List UInt8:=List.replicate 16 0
def Sh.zero:Sh:=⟨zeros16,0,0,0,0,0,0,0⟩
namespace S
def entry (s:Sh):Bool:=
 if s.role=1 then true
 else if s.role=2\/s.role=4 then decide (s.data=zeros16)
 else if s.role=3 then decide (s.data=zeros16)&&decide (s.lpn=0)&&decide (s.seq=0)
 else false
def inB (n a:Int):Bool:=decide (0<=n)&&decide (n<=a)
def place (s:Sh):Bool:=inB s.block 15&&inB s.row 7&&decide (2<=L.count s.mask)
def numbers (s:Sh):Bool:=inB s.seq 1099511627775&&inB s.lpn 65535&&inB s.role 255
def may (s:Sh):Bool:=place s&&numbers s&&(decide (s.kind=2)||(decide (s.kind=1)&&entry s))
def meta_ (role lpn seq:Int):Nat:=(role % 256).toNat*72057594037927936+((lpn % 65536).toNat*1099511627776+(seq % 1099511627776).toNat)
def head (s:Sh):List Bool:=Bt.bits (meta_ s.role s.lpn s.seq) 64++Bt.bits s.block.toNat 8++Bt.bits s.row.toNat 8++Bt.bits s.mask.toNat 8++Bt.bits s.kind.toNat 8
def put (s:Sh):List UInt8:=s.data++Bt.pack (head s++Bt.bits (K.sum (s.data++Bt.pack (head s))) 32)
def fields (p:List UInt8):Sh:=
 let b:=p.drop 16
 let m:=Bt.numAt b 0 64
 ⟨p.take 16,(m/72057594037927936:Nat),(m/1099511627776 % 65536:Nat),(m % 1099511627776:Nat),Bt.numAt b 88 8,Bt.numAt b 64 8,Bt.numAt b 72 8,Bt.numAt b 80 8⟩
def get (p:List UInt8):Option Sh:=if may (fields p)/\put (fields p)=p then some (fields p)else none
def getV (p:List UInt8):Sh:=(get p).getD Sh.zero
def getE (p:List UInt8):Int:=if(get p).isSome then 0 else 1
theorem may_bounds (s:Sh) (h:may s=true):(0<=s.block/\s.block<=15)/\(0<=s.row/\s.row<=7)/\(0<=s.mask/\s.mask<=255)/\(1<=s.kind/\s.kind<=2):=by
 simp only[may,place,inB,Bool.and_eq_true,decide_eq_true_eq,Bool.or_eq_true]at h;have hm:0<=s.mask/\s.mask<=255:=by
  by_cases hh:0<=s.mask/\s.mask<256
  ·omega
  ·have:=L.count_no s.mask hh;omega
 omega
theorem length_head (s:Sh):(head s).length=96:=by simp[head,Bt.length_bits]
theorem length_put (s:Sh) (h:s.data.length=16):(put s).length=32:=by simp[put,Bt.length_pack,length_head,Bt.length_bits,h]
theorem meta_lt (role lpn seq:Int):meta_ role lpn seq<18446744073709551616:=by unfold meta_;omega
end S
end Go.Proofs.YtpohajhbfllbbaaGreat
namespace Go.Proofs.YtpohajhbfllbbaaGreat
abbrev A3':=Int×Int×Int
structure NCell where
 p:List UInt8
 lost:Bool
 turned:Bool
structure NBlock where
 cells:List NCell
 worn:Int
 fails:Bool
 met:Bool
structure Nand where
 dies:Nat
 blocks:Nat
 pages:Nat
 blk:Nat->Nat->NBlock
 plan:List A3'
 dead:List Bool
 off:Bool
 ops:Int
 broken:Int
 cuts:Bool
 left:Int
 keep:Int
def m7 (d b p:Int):Bool:=decide (3<=d/\d<=6)&&decide (8<=b/\b<=16)&&decide (2<=p/\p<=8)
def x3 (d b p x y z:Int):Bool:=decide (0<=x/\x<d)&&decide (0<=y/\y<b)&&decide (0<=z/\z<p)
def O1:List UInt8:=List.replicate 32 0
structure Nand.Ok (N:Nand):Prop where
 geo:m7 N.dies N.blocks N.pages=true
 dead:N.dead.length=N.dies
 cells:∀i j,i<N.dies->j<N.blocks->(N.blk i j).cells.length<=N.pages/\∀c∈(N.blk i j).cells,c.p.length=32
 num:0<=N.ops/\0<=N.broken/\(∀i j,0<=(N.blk i j).worn/\(N.blk i j).worn<=N.ops)
 lft:N.cuts=true->0<=N.left/\N.left<=9223372036854775807
 lf2: -9223372036854775808<=N.left/\N.left<=9223372036854775807
 kp:0<=N.keep/\N.keep<=32
structure Nand.Room (N:Nand):Prop where
 ops:N.ops<4611686018427387904
 broken:N.broken<4611686018427387904
namespace Nand
def setBlk (N:Nand) (i j:Nat) (B:NBlock):Nand:={N with blk:=λa b=>if a=i/\b=j then B else N.blk a b}
def refuses (N:Nand) (x y z:Int):Int:=
 if N.off then 9 else if x3 N.dies N.blocks N.pages x y z=false then 3 else if N.dead.getD x.toNat false then 8 else 0
def cutB (N:Nand):Bool:=N.cuts&&decide (N.left<=0)
def cutN (N:Nand):Nand:={N with ops:=N.ops+1,left:=if N.cuts then N.left-1 else N.left,off:=if N.cutB then true else N.off,cuts:=if N.cutB then false else N.cuts}
def pageAt (N:Nand) (x y z:Int):Option NCell:=(N.blk x.toNat y.toNat).cells[z.toNat]?
def readV (N:Nand) (x y z:Int):List UInt8:=if N.refuses x y z≠0 then O1 else match N.pageAt x y z with
 | none=>O1
 | some c=>if c.lost then O1 else c.p
def readE (N:Nand) (x y z:Int):Int:=if N.refuses x y z≠0 then N.refuses x y z else match N.pageAt x y z with
 | none=>5
 | some c=>if c.lost then 6 else 0
def onN (N:Nand):Nand:={N with off:=false,cuts:=false}
def setCut (N:Nand) (x k:Int):Nand:=if N.off then N else {N with cuts:=decide (0<=x),left:=x,keep:=min (max k 0) 32,off:=decide (x<0)}
def next (N:Nand) (x y:Int):Nat:=if 0<=x/\x<N.dies/\0<=y/\y<N.blocks then(N.blk x.toNat y.toNat).cells.length else 0
def wornAt (N:Nand) (x y:Int):Int:=if 0<=x/\x<N.dies/\0<=y/\y<N.blocks then(N.blk x.toNat y.toNat).worn else 0
def deadAt (N:Nand) (x:Int):Bool:=decide (0<=x)&&decide (x<N.dies)&&N.dead.getD x.toNat false
def push (N:Nand) (i j:Nat) (c:NCell):Nand:=N.setBlk i j {N.blk i j with cells:=(N.blk i j).cells++[c]}
def fillP (k:Nat) (p:List UInt8):List UInt8:=p.take k++List.replicate (32-k) 255
def fails (N:Nand) (x y z:Int):Bool:=decide ((x,y,z)∈N.plan)||(N.blk x.toNat y.toNat).met
def progN (N:Nand) (x y z:Int) (pg:List UInt8):Nand:=
 if N.refuses x y z≠0 then N else
 if z≠(N.blk x.toNat y.toNat).cells.length then {N with broken:=N.broken+1}else
 if N.cutB then N.cutN.push x.toNat y.toNat ⟨fillP N.keep.toNat pg,false,true⟩else
 push {N.cutN with plan:=N.plan.erase (x,y,z)} x.toNat y.toNat ⟨pg,N.fails x y z,false⟩
def progE (N:Nand) (x y z:Int):Int:=
 if N.refuses x y z≠0 then N.refuses x y z else
 if z≠(N.blk x.toNat y.toNat).cells.length then 4 else
 if N.cutB then 9 else if N.fails x y z then 7 else 0
def zcell:NCell:=⟨O1,false,false⟩
def eraseN (N:Nand) (x y:Int):Nand:=
 let B:=N.blk x.toNat y.toNat
 if N.refuses x y 0≠0 then N else
 if N.cutB then N.cutN.setBlk x.toNat y.toNat {B with cells:=(B.cells++List.replicate (N.pages-B.cells.length) zcell).map λc=>{c with lost:=true}}else
 if B.fails then N.cutN.setBlk x.toNat y.toNat {B with met:=true}else
 {N.cutN.setBlk x.toNat y.toNat {B with cells:=[],worn:=B.worn+1}with plan:=N.plan.filter λa=>!(decide (a.1=x)&&decide (a.2.1=y))}
def eraseE (N:Nand) (x y:Int):Int:=
 if N.refuses x y 0≠0 then N.refuses x y 0 else if N.cutB then 9 else if(N.blk x.toNat y.toNat).fails then 7 else 0
def xorAt (p:List UInt8) (n:Nat) (x:UInt8):List UInt8:=p.set n ((p.getD n 0) ^^^ x)
def setCell (N:Nand) (x y z:Int) (f:NCell->NCell):Nand:=
 N.setBlk x.toNat y.toNat {N.blk x.toNat y.toNat with cells:=(N.blk x.toNat y.toNat).cells.modify z.toNat f}
def addP (l:List A3') (a:A3'):List A3':=if a∈l then l else l++[a]
def fault (N:Nand) (kind x y z n xx:Int):Bool×Nand:=
 if x3 N.dies N.blocks N.pages x y z=false then(false,N)else
 if kind=1 then(true,{N with plan:=addP N.plan (x,y,z)})else
 if kind=2 then(true,N.setBlk x.toNat y.toNat {N.blk x.toNat y.toNat with fails:=true})else
 if kind=3 then(true,N.setCell x y z λc=>{c with lost:=true})else
 if kind=4 then(true,{N with dead:=N.dead.set x.toNat true})else
 if kind=5 then
  if n<0\/32<=n then(false,N)else
  match N.pageAt x y z with
  | none=>(true,N)
  | some c=>if c.turned then(false,N)else if c.lost then(true,N)else
   (true,N.setCell x y z λc=>{c with p:=xorAt c.p n.toNat (UInt8.ofNat (xx % 256).toNat),turned:=true})
 else(false,N)
def new (d b p:Nat):Nand:=⟨d,b,p,λ_ _=>⟨[],0,false,false⟩,[],List.replicate d false,false,0,0,false,0,0⟩
theorem refuses_zero {N:Nand} {x y z:Int} (h:N.refuses x y z=0):N.off=false/\N.dead.getD x.toNat false=false/\0<=x/\x<N.dies/\0<=y/\y<N.blocks/\0<=z/\z<N.pages:=by
 unfold refuses at h;split at h
 ·omega
 ·rename_i h1;split at h
  ·omega
  ·rename_i h2;split at h
   ·omega
   ·rename_i h3;simp[x3]at h2;exact⟨by simpa using h1,by simpa using h3,by omega⟩
end Nand
end Go.Proofs.YtpohajhbfllbbaaGreat
