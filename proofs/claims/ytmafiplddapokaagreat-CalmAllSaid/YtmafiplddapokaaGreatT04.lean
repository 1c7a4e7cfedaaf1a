/- Helpers. No condition. -/
import Derived.Test.YtmafiplddapokaaGreatT03
import Derived.WalkKit
import Derived.Maps.RangeRun
set_option maxRecDepth 20000
set_option linter.all false
namespace Go.Proofs.YtmafiplddapokaaGreat
open Go Go.RowKit
abbrev pp (n:Nat):Value:= .pointer (some ⟨n,0,none⟩)
abbrev iI (x:Int):Value:= .int .i64 x
abbrev si (k:Nat) (x:Int):Slot:=⟨k, .int .i64 x,0, .tt⟩
abbrev sp (k n:Nat):Slot:=⟨k, .pointer (some ⟨n,0,none⟩),0, .tt⟩
abbrev sv (k:Nat) (v:Value):Slot:=⟨k,v,0, .tt⟩
abbrev FP:=Fn Tryz.prog
theorem FE {f:FuncId} {args:List Value} {Pre:List Atom} {Post:Value->List Atom->Prop} {fn:Func} {c:Code} {N:Nat} (tags:List Nat) (hf:Tryz.prog.funcs[f]? =some fn)
  (h:∀(X:Cx) (F:HP),IsCx X Tryz.prog fn.results.toList N F Post->J X [.code c] (a7a keys args tags) (.hp F::Pre)) (hb:fn.body=some c:=by exact rfl) (hN:fn.ntmps=N:=by exact rfl) (hl:Nat.ble args.length N=true:=by exact rfl):Fn Tryz.prog f args Pre Post:=Fn.enter tags hf hb hN hl h
abbrev Ps (V:Value) (M:List Atom):Value->List Atom->Prop:=λv As=>v=V/\As=M
theorem cpq {V:Value} {M:List Atom} {R:Value->List Atom->Prop} (h:R V M):∀v As,(v=V/\As=M)->R v As:=by
 rintro v As ⟨rfl,rfl⟩;exact h
section
variable {X : Cx} {K : List KI} {E : Env} {L : List Atom} {N : Nat} {F : HP} {Post : Value → List Atom → Prop} {rs : List ResultVar}
theorem J.q {K':(Nat->Nat)->List KI} {E':(Nat->Nat)->Env} {L':(Nat->Nat)->List Atom} {ob:(Nat->Nat)->List Prop} (hJ:∀bs,J X (K' bs) (E' bs) (L' bs))
  (hX:IsCx X Tryz.prog rs N F Post:=by assumption) (h:∀bs,Go.Proofs.YtmafiplddapokaaGreat.run tab N bs 400 K E L [] 0=⟨K' bs,E' bs,L' bs,ob bs⟩:=by exactλ_=>rfl) (hob:∀bs,Conj (ob bs):=by intros;(repeat' (first | exact Conj.nil | refine Conj.cons ?_ ?_ | omega | exact hq0 | (simpa using hq0) | (exactλh=>h) | exact rfl | (intro hq;have hq0:=hq;try simp only[f8,j7,d6,i4,c8]at hq) | (simp;done) | (simp;omega) | decide))):J X K E L:=J.run hX tk 400 h hob hJ
theorem J.ru (hX:IsCx X Tryz.prog rs N F Post) {v:Value} {ob:List Prop} (is:List Nat) (hP:Post v (O2 L is)) (h:a8d tab E L rs=some (v,ob):=by exact rfl) (ok:P8 L (0::is)=true:=by exact rfl) (h0:J2 L 0=some (.hp F):=by exact rfl) (hob:Conj ob:=by intros;(repeat' (first | exact Conj.nil | refine Conj.cons ?_ ?_ | omega | exact hq0 | (simpa using hq0) | (exactλh=>h) | exact rfl | (intro hq;have hq0:=hq;try simp only[f8,j7,d6,i4,c8]at hq) | (simp;done) | (simp;omega) | decide))):J X (.code .ret::K) E L:=J.ret hX tk is h hob ok h0 hP
theorem J.cb {ops:Array Oper} {C:Cl} {l:Bool} {i:Nat} {t:PT} {o:Oper} {g:G} {f:FuncId} {vs:List Value} {ob:List Prop} {Pre:List Atom} {Po:Value->List Atom->Prop} {E':Value->Env}
  (c:Fn Tryz.prog f vs Pre Po) (is:List Nat) (hJ:∀v As,Po v As->∃L',a1k L is As=some L'/\Conj (M6 l C L')/\J X (.reg ops C t::K) (E' v) L') (hX:IsCx X Tryz.prog rs N F Post:=by assumption) (ho:J2 ops.toList i=some o:=by exact rfl) (hg:gd ops.toList E o=some g:=by exact rfl) (hgo:g.on=true:=by exact rfl) (hc:a6Z E o.op=some (f,vs,ob):=by exact rfl) (hf:K0 Tryz.prog f=true:=by kernel_rfl) (ok:P8 L is=true:=by exact rfl) (hp:O2 L is=Pre:=by exact rfl)
  (hd:∀v,Y5 N o.dst v 0 .tt E=some (E' v):=by exactλ_=>rfl) (hob:Conj ob:=by intros;(repeat' (first | exact Conj.nil | refine Conj.cons ?_ ?_ | omega | exact hq0 | (simpa using hq0) | (exactλh=>h) | exact rfl | (intro hq;have hq0:=hq;try simp only[f8,j7,d6,i4,c8]at hq) | (simp;done) | (simp;omega) | decide))):J X (.reg ops C (.alt l i t .non)::K) E L:=J.call hX hf c is 0 ho hg hgo hc hob ok hp hd hJ
theorem J.qn (n:Nat) {K':(Nat->Nat)->List KI} {E':(Nat->Nat)->Env} {L':(Nat->Nat)->List Atom} {ob:(Nat->Nat)->List Prop} (hJ:∀bs,J X (K' bs) (E' bs) (L' bs))
  (hX:IsCx X Tryz.prog rs N F Post:=by assumption) (h:∀bs,Go.Proofs.YtmafiplddapokaaGreat.run tab N bs n K E L [] 0=⟨K' bs,E' bs,L' bs,ob bs⟩:=by exactλ_=>rfl) (hob:∀bs,Conj (ob bs):=by intros;(repeat' (first | exact Conj.nil | refine Conj.cons ?_ ?_ | omega | exact hq0 | (simpa using hq0) | (exactλh=>h) | exact rfl | (intro hq;have hq0:=hq;try simp only[f8,j7,d6,i4,c8]at hq) | (simp;done) | (simp;omega) | decide))):J X K E L:=J.run hX tk n h hob hJ
theorem J.cF {c:Operand} {x y:Code} {k tag:Nat} {b:Bool} (hJ:J X (.code y::K) E L) (hc:ev E c=some ⟨k, .bool b,tag, .tt⟩:=by exact rfl) (hb:b=false:=by first | exact rfl | decide | simp):J X (.code (.cond c x y)::K) E L:=J.cond hc (λh=>by rw[hb]at h;cases h) (λ_=>hJ)
theorem J.cT {c:Operand} {x y:Code} {k tag:Nat} {b:Bool} (hJ:J X (.code x::K) E L) (hc:ev E c=some ⟨k, .bool b,tag, .tt⟩:=by exact rfl) (hb:b=true:=by first | exact rfl | decide | simp):J X (.code (.cond c x y)::K) E L:=J.cond hc (λ_=>hJ) (λh=>by rw[hb]at h;cases h)
theorem J.qd {K' K2:(Nat->Nat)->List KI} {E':(Nat->Nat)->Env} {L':(Nat->Nat)->List Atom} {ob:(Nat->Nat)->List Prop} {c:(Nat->Nat)->Operand} {x y:(Nat->Nat)->Code} {k tag:(Nat->Nat)->Nat} {b:(Nat->Nat)->Bool} (h1:∀bs,b bs=true->J X (.code (x bs)::K2 bs) (E' bs) (L' bs)) (h2:∀bs,b bs=false->J X (.code (y bs)::K2 bs) (E' bs) (L' bs))
  (hX:IsCx X Tryz.prog rs N F Post:=by assumption) (h:∀bs,Go.Proofs.YtmafiplddapokaaGreat.run tab N bs 400 K E L [] 0=⟨K' bs,E' bs,L' bs,ob bs⟩:=by exactλ_=>rfl) (hob:∀bs,Conj (ob bs):=by intros;(repeat' (first | exact Conj.nil | refine Conj.cons ?_ ?_ | omega | exact hq0 | (simpa using hq0) | (exactλh=>h) | exact rfl | (intro hq;have hq0:=hq;try simp only[f8,j7,d6,i4,c8]at hq) | (simp;done) | (simp;omega) | decide))) (hk:∀bs,K' bs= .code (.cond (c bs) (x bs) (y bs))::K2 bs:=by exactλ_=>rfl) (hc:∀bs,ev (E' bs) (c bs)=some ⟨k bs, .bool (b bs),tag bs, .tt⟩:=by exactλ_=>rfl):J X K E L:=J.run hX tk 400 h hob λbs=>by rw[hk bs];exact J.cond (hc bs) (h1 bs) (h2 bs)
theorem J.qF {K' K2:(Nat->Nat)->List KI} {E':(Nat->Nat)->Env} {L':(Nat->Nat)->List Atom} {ob:(Nat->Nat)->List Prop} {c:(Nat->Nat)->Operand} {x y:(Nat->Nat)->Code} {k tag:(Nat->Nat)->Nat} {b:(Nat->Nat)->Bool} (hJ:∀bs,J X (.code (y bs)::K2 bs) (E' bs) (L' bs))
  (hX:IsCx X Tryz.prog rs N F Post:=by assumption) (h:∀bs,Go.Proofs.YtmafiplddapokaaGreat.run tab N bs 400 K E L [] 0=⟨K' bs,E' bs,L' bs,ob bs⟩:=by exactλ_=>rfl) (hob:∀bs,Conj (ob bs):=by intros;(repeat' (first | exact Conj.nil | refine Conj.cons ?_ ?_ | omega | exact hq0 | (simpa using hq0) | (exactλh=>h) | exact rfl | (intro hq;have hq0:=hq;try simp only[f8,j7,d6,i4,c8]at hq) | (simp;done) | (simp;omega) | decide))) (hk:∀bs,K' bs= .code (.cond (c bs) (x bs) (y bs))::K2 bs:=by exactλ_=>rfl) (hc:∀bs,ev (E' bs) (c bs)=some ⟨k bs, .bool (b bs),tag bs, .tt⟩:=by exactλ_=>rfl) (hb:∀bs,b bs=false:=by intro bs;first | exact rfl | decide | simp):J X K E L:=J.run hX tk 400 h hob λbs=>by rw[hk bs];exact J.cond (hc bs) (λh=>by rw[hb]at h;cases h) (λ_=>hJ bs)
theorem J.qT {K' K2:(Nat->Nat)->List KI} {E':(Nat->Nat)->Env} {L':(Nat->Nat)->List Atom} {ob:(Nat->Nat)->List Prop} {c:(Nat->Nat)->Operand} {x y:(Nat->Nat)->Code} {k tag:(Nat->Nat)->Nat} {b:(Nat->Nat)->Bool} (hJ:∀bs,J X (.code (x bs)::K2 bs) (E' bs) (L' bs))
  (hX:IsCx X Tryz.prog rs N F Post:=by assumption) (h:∀bs,Go.Proofs.YtmafiplddapokaaGreat.run tab N bs 400 K E L [] 0=⟨K' bs,E' bs,L' bs,ob bs⟩:=by exactλ_=>rfl) (hob:∀bs,Conj (ob bs):=by intros;(repeat' (first | exact Conj.nil | refine Conj.cons ?_ ?_ | omega | exact hq0 | (simpa using hq0) | (exactλh=>h) | exact rfl | (intro hq;have hq0:=hq;try simp only[f8,j7,d6,i4,c8]at hq) | (simp;done) | (simp;omega) | decide))) (hk:∀bs,K' bs= .code (.cond (c bs) (x bs) (y bs))::K2 bs:=by exactλ_=>rfl) (hc:∀bs,ev (E' bs) (c bs)=some ⟨k bs, .bool (b bs),tag bs, .tt⟩:=by exactλ_=>rfl) (hb:∀bs,b bs=true:=by intro bs;first | exact rfl | decide | simp):J X K E L:=J.run hX tk 400 h hob λbs=>by rw[hk bs];exact J.cond (hc bs) (λ_=>hJ bs) (λh=>by rw[hb]at h;cases h)
theorem J.qr {K':(Nat->Nat)->List KI} {E':(Nat->Nat)->Env} {L':(Nat->Nat)->List Atom} {ob ob2:(Nat->Nat)->List Prop} {K2:(Nat->Nat)->List KI} {v:(Nat->Nat)->Value} (is:List Nat) (hP:∀bs,Post (v bs) (O2 (L' bs) is))
  (hX:IsCx X Tryz.prog rs N F Post:=by assumption) (h:∀bs,Go.Proofs.YtmafiplddapokaaGreat.run tab N bs 400 K E L [] 0=⟨K' bs,E' bs,L' bs,ob bs⟩:=by exactλ_=>rfl) (hob:∀bs,Conj (ob bs):=by intros;(repeat' (first | exact Conj.nil | refine Conj.cons ?_ ?_ | omega | exact hq0 | (simpa using hq0) | (exactλh=>h) | exact rfl | (intro hq;have hq0:=hq;try simp only[f8,j7,d6,i4,c8]at hq) | (simp;done) | (simp;omega) | decide))) (hk:∀bs,K' bs= .code .ret::K2 bs:=by exactλ_=>rfl) (hr:∀bs,a8d tab (E' bs) (L' bs) rs=some (v bs,ob2 bs):=by exactλ_=>rfl) (ok:∀bs,P8 (L' bs) (0::is)=true:=by exactλ_=>rfl) (h0:∀bs,J2 (L' bs) 0=some (.hp F):=by exactλ_=>rfl) (hob2:∀bs,Conj (ob2 bs):=by intros;(repeat' (first | exact Conj.nil | refine Conj.cons ?_ ?_ | omega | exact hq0 | (simpa using hq0) | (exactλh=>h) | exact rfl | (intro hq;have hq0:=hq;try simp only[f8,j7,d6,i4,c8]at hq) | (simp;done) | (simp;omega) | decide))):J X K E L:=J.run hX tk 400 h hob λbs=>by rw[hk bs];exact J.ret hX tk is (hr bs) (hob2 bs) (ok bs) (h0 bs) (hP bs)
theorem J.qc {K' K2:(Nat->Nat)->List KI} {E':(Nat->Nat)->Env} {L':(Nat->Nat)->List Atom} {ob:(Nat->Nat)->List Prop} {ob2:(Nat->Nat)->List Prop} {ops:(Nat->Nat)->Array Oper} {C:(Nat->Nat)->Cl} {l:(Nat->Nat)->Bool} {i:(Nat->Nat)->Nat} {t:(Nat->Nat)->PT} {o:(Nat->Nat)->Oper} {g:(Nat->Nat)->G} {f:FuncId} {vs:List Value} {Pre:List Atom} {Po:Value->List Atom->Prop} {E2:(Nat->Nat)->Value->Env}
  (c:Fn Tryz.prog f vs Pre Po) (is:List Nat) (hJ:∀bs,∀v As,Po v As->∃L2,a1k (L' bs) is As=some L2/\Conj (M6 (l bs) (C bs) L2)/\J X (.reg (ops bs) (C bs) (t bs)::K2 bs) (E2 bs v) L2)
  (hX:IsCx X Tryz.prog rs N F Post:=by assumption) (h:∀bs,Go.Proofs.YtmafiplddapokaaGreat.run tab N bs 400 K E L [] 0=⟨K' bs,E' bs,L' bs,ob bs⟩:=by exactλ_=>rfl) (hob:∀bs,Conj (ob bs):=by intros;(repeat' (first | exact Conj.nil | refine Conj.cons ?_ ?_ | omega | exact hq0 | (simpa using hq0) | (exactλh=>h) | exact rfl | (intro hq;have hq0:=hq;try simp only[f8,j7,d6,i4,c8]at hq) | (simp;done) | (simp;omega) | decide))) (hk:∀bs,K' bs= .reg (ops bs) (C bs) (.alt (l bs) (i bs) (t bs) .non)::K2 bs:=by exactλ_=>rfl) (ho:∀bs,J2 (ops bs).toList (i bs)=some (o bs):=by exactλ_=>rfl) (hg:∀bs,gd (ops bs).toList (E' bs) (o bs)=some (g bs):=by exactλ_=>rfl) (hgo:∀bs,(g bs).on=true:=by exactλ_=>rfl) (hc:∀bs,a6Z (E' bs) (o bs).op=some (f,vs,ob2 bs):=by exactλ_=>rfl) (hf:K0 Tryz.prog f=true:=by kernel_rfl) (ok:∀bs,P8 (L' bs) is=true:=by exactλ_=>rfl) (hp:∀bs,O2 (L' bs) is=Pre:=by exactλ_=>rfl)
  (hd:∀bs v,Y5 N (o bs).dst v 0 .tt (E' bs)=some (E2 bs v):=by exactλ_ _=>rfl) (hob2:∀bs,Conj (ob2 bs):=by intros;(repeat' (first | exact Conj.nil | refine Conj.cons ?_ ?_ | omega | exact hq0 | (simpa using hq0) | (exactλh=>h) | exact rfl | (intro hq;have hq0:=hq;try simp only[f8,j7,d6,i4,c8]at hq) | (simp;done) | (simp;omega) | decide))):J X K E L:=J.run hX tk 400 h hob λbs=>by rw[hk bs];exact J.call hX hf c is 0 (ho bs) (hg bs) (hgo bs) (hc bs) (hob2 bs) (ok bs) (hp bs) (hd bs) (hJ bs)
theorem J.qp {K' K2:(Nat->Nat)->List KI} {E':(Nat->Nat)->Env} {L':(Nat->Nat)->List Atom} {ob:(Nat->Nat)->List Prop} {ob2:(Nat->Nat)->List Prop} {ops:(Nat->Nat)->Array Oper} {C:(Nat->Nat)->Cl} {l:(Nat->Nat)->Bool} {i:(Nat->Nat)->Nat} {t:(Nat->Nat)->PT} {o:(Nat->Nat)->Oper} {g:(Nat->Nat)->G} {f:FuncId} {vs:List Value} {Pre M:List Atom} {V:Value} {E2:(Nat->Nat)->Value->Env} {L2:(Nat->Nat)->List Atom}
  (c:Fn Tryz.prog f vs Pre (λv As=>v=V/\As=M)) (is:List Nat) (hJ:∀bs,J X (.reg (ops bs) (C bs) (t bs)::K2 bs) (E2 bs V) (L2 bs))
  (hX:IsCx X Tryz.prog rs N F Post:=by assumption) (h:∀bs,Go.Proofs.YtmafiplddapokaaGreat.run tab N bs 400 K E L [] 0=⟨K' bs,E' bs,L' bs,ob bs⟩:=by exactλ_=>rfl) (hob:∀bs,Conj (ob bs):=by intros;(repeat' (first | exact Conj.nil | refine Conj.cons ?_ ?_ | omega | exact hq0 | (simpa using hq0) | (exactλh=>h) | exact rfl | (intro hq;have hq0:=hq;try simp only[f8,j7,d6,i4,c8]at hq) | (simp;done) | (simp;omega) | decide))) (hk:∀bs,K' bs= .reg (ops bs) (C bs) (.alt (l bs) (i bs) (t bs) .non)::K2 bs:=by exactλ_=>rfl) (ho:∀bs,J2 (ops bs).toList (i bs)=some (o bs):=by exactλ_=>rfl) (hg:∀bs,gd (ops bs).toList (E' bs) (o bs)=some (g bs):=by exactλ_=>rfl) (hgo:∀bs,(g bs).on=true:=by exactλ_=>rfl) (hc:∀bs,a6Z (E' bs) (o bs).op=some (f,vs,ob2 bs):=by exactλ_=>rfl) (hf:K0 Tryz.prog f=true:=by kernel_rfl) (ok:∀bs,P8 (L' bs) is=true:=by exactλ_=>rfl) (hp:∀bs,O2 (L' bs) is=Pre:=by exactλ_=>rfl)
  (hd:∀bs v,Y5 N (o bs).dst v 0 .tt (E' bs)=some (E2 bs v):=by exactλ_ _=>rfl) (hob2:∀bs,Conj (ob2 bs):=by intros;(repeat' (first | exact Conj.nil | refine Conj.cons ?_ ?_ | omega | exact hq0 | (simpa using hq0) | (exactλh=>h) | exact rfl | (intro hq;have hq0:=hq;try simp only[f8,j7,d6,i4,c8]at hq) | (simp;done) | (simp;omega) | decide))) (hl:∀bs,a1k (L' bs) is M=some (L2 bs):=by exactλ_=>rfl) (hs:∀bs,Conj (M6 (l bs) (C bs) (L2 bs)):=by intro bs;first | exact trivial | (repeat' (first | exact trivial | refine⟨rfl,?_⟩))):J X K E L:=J.qc c is (λbs v As ⟨e1,e2⟩=>by subst e1;subst e2;exact⟨_,hl bs,hs bs,hJ bs⟩) hX h hob hk ho hg hgo hc hf ok hp hd hob2
theorem b7P:Tryz.prog.follows .mixedOrders=true:=by kernel_rfl
theorem J.p {K' K2:(Nat->Nat)->List KI} {E':(Nat->Nat)->Env} {L':(Nat->Nat)->List Atom} {ob:(Nat->Nat)->List Prop} {id:(Nat->Nat)->Nat} {ops:(Nat->Nat)->Array Oper} (t:PT) (lt ro:List Nat) (hJ:∀bs,J X (.reg (ops bs) (snap (L' bs) ro) t::K2 bs) (E' bs) (L' bs)) (hX:IsCx X Tryz.prog rs N F Post:=by assumption) (h:∀bs,Go.Proofs.YtmafiplddapokaaGreat.run tab N bs 400 K E L [] 0=⟨K' bs,E' bs,L' bs,ob bs⟩:=by exactλ_=>rfl) (hob:∀bs,Conj (ob bs):=by intros;(repeat' (first | exact Conj.nil | refine Conj.cons ?_ ?_ | omega | exact hq0 | (simpa using hq0) | (exactλh=>h) | exact rfl | (intro hq;have hq0:=hq;try simp only[f8,j7,d6,i4,c8]at hq) | (simp;done) | (simp;omega) | decide))) (hk:∀bs,K' bs= .code (.region (id bs) (ops bs) true)::K2 bs:=by exactλ_=>rfl) (ht:∀bs,t.good (ops bs) lt=true:=by intro bs;kernel_rfl):J X K E L:=J.run hX tk 400 h hob λbs=>by rw[hk bs];exact J.plan t lt ro (by rw[hX.hP];exact b7P) (ht bs) (hJ bs)
theorem J.pq {K' K2:(Nat->Nat)->List KI} {E':(Nat->Nat)->Env} {L':(Nat->Nat)->List Atom} {ob:(Nat->Nat)->List Prop} {id:(Nat->Nat)->Nat} {ops:(Nat->Nat)->Array Oper} {K3:(Nat->Nat)->(Nat->Nat)->List KI} {E3:(Nat->Nat)->(Nat->Nat)->Env} {L3:(Nat->Nat)->(Nat->Nat)->List Atom} {ob3:(Nat->Nat)->(Nat->Nat)->List Prop} (t:PT) (lt ro:List Nat) (hJ:∀bs cs,J X (K3 bs cs) (E3 bs cs) (L3 bs cs)) (hX:IsCx X Tryz.prog rs N F Post:=by assumption) (h:∀bs,Go.Proofs.YtmafiplddapokaaGreat.run tab N bs 400 K E L [] 0=⟨K' bs,E' bs,L' bs,ob bs⟩:=by exactλ_=>rfl) (hob:∀bs,Conj (ob bs):=by intros;(repeat' (first | exact Conj.nil | refine Conj.cons ?_ ?_ | omega | exact hq0 | (simpa using hq0) | (exactλh=>h) | exact rfl | (intro hq;have hq0:=hq;try simp only[f8,j7,d6,i4,c8]at hq) | (simp;done) | (simp;omega) | decide))) (hk:∀bs,K' bs= .code (.region (id bs) (ops bs) true)::K2 bs:=by exactλ_=>rfl) (ht:∀bs,t.good (ops bs) lt=true:=by intro bs;kernel_rfl) (h3:∀bs cs,Go.Proofs.YtmafiplddapokaaGreat.run tab N cs 400 (.reg (ops bs) (snap (L' bs) ro) t::K2 bs) (E' bs) (L' bs) [] 0=⟨K3 bs cs,E3 bs cs,L3 bs cs,ob3 bs cs⟩:=by exactλ_ _=>rfl) (hob3:∀bs cs,Conj (ob3 bs cs):=by intros;(repeat' (first | exact Conj.nil | refine Conj.cons ?_ ?_ | omega | exact hq0 | (simpa using hq0) | (exactλh=>h) | exact rfl | (intro hq;have hq0:=hq;try simp only[f8,j7,d6,i4,c8]at hq) | (simp;done) | (simp;omega) | decide))):J X K E L:=J.p t lt ro (λbs=>J.run hX tk 400 (h3 bs) (hob3 bs) (hJ bs)) hX h hob hk ht
theorem J.pn {K' K2:(Nat->Nat)->List KI} {E':(Nat->Nat)->Env} {L':(Nat->Nat)->List Atom} {ob:(Nat->Nat)->List Prop} {id:(Nat->Nat)->Nat} {ops:(Nat->Nat)->Array Oper} {K3:(Nat->Nat)->(Nat->Nat)->List KI} {E3:(Nat->Nat)->(Nat->Nat)->Env} {L3:(Nat->Nat)->(Nat->Nat)->List Atom} {ob3:(Nat->Nat)->(Nat->Nat)->List Prop} (n:Nat) (t:PT) (lt ro:List Nat) (hJ:∀bs cs,J X (K3 bs cs) (E3 bs cs) (L3 bs cs)) (hX:IsCx X Tryz.prog rs N F Post:=by assumption) (h:∀bs,Go.Proofs.YtmafiplddapokaaGreat.run tab N bs 400 K E L [] 0=⟨K' bs,E' bs,L' bs,ob bs⟩:=by exactλ_=>rfl) (hob:∀bs,Conj (ob bs):=by intros;(repeat' (first | exact Conj.nil | refine Conj.cons ?_ ?_ | omega | exact hq0 | (simpa using hq0) | (exactλh=>h) | exact rfl | (intro hq;have hq0:=hq;try simp only[f8,j7,d6,i4,c8]at hq) | (simp;done) | (simp;omega) | decide))) (hk:∀bs,K' bs= .code (.region (id bs) (ops bs) true)::K2 bs:=by exactλ_=>rfl) (ht:∀bs,t.good (ops bs) lt=true:=by intro bs;kernel_rfl) (h3:∀bs cs,Go.Proofs.YtmafiplddapokaaGreat.run tab N cs n (.reg (ops bs) (snap (L' bs) ro) t::K2 bs) (E' bs) (L' bs) [] 0=⟨K3 bs cs,E3 bs cs,L3 bs cs,ob3 bs cs⟩:=by exactλ_ _=>rfl) (hob3:∀bs cs,Conj (ob3 bs cs):=by intros;(repeat' (first | exact Conj.nil | refine Conj.cons ?_ ?_ | omega | exact hq0 | (simpa using hq0) | (exactλh=>h) | exact rfl | (intro hq;have hq0:=hq;try simp only[f8,j7,d6,i4,c8]at hq) | (simp;done) | (simp;omega) | decide))):J X K E L:=J.p t lt ro (λbs=>J.run hX tk n (h3 bs) (hob3 bs) (hJ bs)) hX h hob hk ht
theorem J.v {ops:Array Oper} {C:Cl} {l:Bool} {i:Nat} {t:PT} {o:Oper} {g:G} {E':Env} (v:Value) (ho:J2 ops.toList i=some o) (hg:gd ops.toList E o=some g)
  (hr:g.on=true->∀a w,EnvOK N E a->Sep L (hl w)->(execOp a.eval o).run Tryz.prog w= .ok (.value v) w) (hJ:J X (.reg ops C t::K) E' L) (hX:IsCx X Tryz.prog rs N F Post:=by assumption) (hd:Y5 N o.dst v 0 g E=some E':=by exact rfl) (hst:Conj (M6 l C L):=by trivial):J X (.reg ops C (.alt l i t .non)::K) E L:=J.val hX v 0 ho hg hr hd hst hJ
theorem J.vT {ops:Array Oper} {C:Cl} {q:Bool} {i:Nat} {t:PT} {o:Oper} {g:G} {E':Env} (v:Value) (ho:J2 ops.toList i=some o) (hg:gd ops.toList E o=some g)
  (hr:g.on=true->∀a w,EnvOK N E a->(q=false->CAt C w)->(execOp a.eval o).run Tryz.prog w= .ok (.value v) w) (hJ:J X (.reg ops C t::K) E' L) (hX:IsCx X Tryz.prog rs N F Post:=by assumption) (hd:Y5 N o.dst v 0 g E=some E':=by exact rfl):J X (.reg ops C (.take q i t)::K) E L:=J.valT hX v 0 ho hg hr hd hJ
theorem J.qx {K':(Nat->Nat)->List KI} {E':(Nat->Nat)->Env} {L':(Nat->Nat)->List Atom} {ob ob2:(Nat->Nat)->List Prop} {K2:(Nat->Nat)->List KI} {v:(Nat->Nat)->Value} (is:List Nat)
  (hX:IsCx X Tryz.prog rs N F Post:=by assumption) (h:∀bs,Go.Proofs.YtmafiplddapokaaGreat.run tab N bs 400 K E L [] 0=⟨K' bs,E' bs,L' bs,ob bs⟩:=by exactλ_=>rfl) (hob:∀bs,Conj (ob bs):=by intros;(repeat' (first | exact Conj.nil | refine Conj.cons ?_ ?_ | omega | exact hq0 | (simpa using hq0) | (exactλh=>h) | exact rfl | (intro hq;have hq0:=hq;try simp only[f8,j7,d6,i4,c8]at hq) | (simp;done) | (simp;omega) | decide))) (hk:∀bs,K' bs= .code .ret::K2 bs:=by exactλ_=>rfl) (hr:∀bs,a8d tab (E' bs) (L' bs) rs=some (v bs,ob2 bs):=by exactλ_=>rfl) (ok:∀bs,P8 (L' bs) (0::is)=true:=by exactλ_=>rfl) (h0:∀bs,J2 (L' bs) 0=some (.hp F):=by exactλ_=>rfl) (hob2:∀bs,Conj (ob2 bs):=by intros;(repeat' (first | exact Conj.nil | refine Conj.cons ?_ ?_ | omega | exact hq0 | (simpa using hq0) | (exactλh=>h) | exact rfl | (intro hq;have hq0:=hq;try simp only[f8,j7,d6,i4,c8]at hq) | (simp;done) | (simp;omega) | decide))) (hP:∀bs,Post (v bs) (O2 (L' bs) is):=by exactλ_=>⟨rfl,rfl⟩):J X K E L:=J.qr is hP hX h hob hk hr ok h0 hob2
theorem J.f {v:Value} {ob:List Prop} (is:List Nat) (hP:Post v (O2 L is)) (hX:IsCx X Tryz.prog rs N F Post:=by assumption) (h:a8d tab E L rs=some (v,ob):=by exact rfl) (ok:P8 L (0::is)=true:=by exact rfl) (h0:J2 L 0=some (.hp F):=by exact rfl) (hob:Conj ob:=by intros;(repeat' (first | exact Conj.nil | refine Conj.cons ?_ ?_ | omega | exact hq0 | (simpa using hq0) | (exactλh=>h) | exact rfl | (intro hq;have hq0:=hq;try simp only[f8,j7,d6,i4,c8]at hq) | (simp;done) | (simp;omega) | decide))):J X [] E L:=J.fin hX tk is h hob ok h0 hP
theorem J.o {α:Type} {f:α->List Atom} {L':α->List Atom} (i:Nat) (h:∀x,J X K E (L' x)) (ok:P8 L [i]=true:=by exact rfl) (hp:O2 L [i]=[exA f]:=by exact rfl) (hL:∀x,a1k L [i] (f x)=some (L' x):=by exactλ_=>rfl):J X K E L:=J.open_ i ok hp hL h
theorem J.cl {α:Type} (f:α->List Atom) {L':List Atom} (x:α) (is:List Nat) (h:J X K E L') (ok:P8 L is=true:=by exact rfl) (hp:O2 L is=f x:=by exact rfl) (hL:a1k L is [exA f]=some L':=by exact rfl):J X K E L:=J.close x is ok hp hL h
theorem J.s1 {ops:Array Oper} {C:Cl} {lt:Bool} {i:Nat} {t:PT} {o:Oper} {g:G} {ty0:TypeId} {x y:Operand} {k1 k2 t1 t2 b off ty:Nat} {g1 g2:G} {v:Value} {cs:List Value} {ti:TI} {E':Value->Env} {L2:List Atom} (is:Nat) (cs':List Value) (hlt:off<cs.length) (hcs:cs.set off v=cs') (hJ:J X (.reg ops C t::K) (E' undef) L2) (hX:IsCx X Tryz.prog rs N F Post:=by assumption)
  (ho:J2 ops.toList i=some o:=by exact rfl) (hg:gd ops.toList E o=some g:=by exact rfl) (hgo:g.on=true:=by exact rfl) (hop:o.op= .store ty0 x y:=by exact rfl) (hx:ev E x=some ⟨k1, .pointer (some ⟨b,off,none⟩),t1,g1⟩:=by exact rfl) (v1:g1.on=true:=by exact rfl) (hy:ev E y=some ⟨k2,v,t2,g2⟩:=by exact rfl) (v2:g2.on=true:=by exact rfl)
  (hti:tab.get ty0=some ti:=by exact rfl) (hsz:Nat.beq ti.size 1=true:=by exact rfl) (hc:v.cells.toList=[v]:=by exact rfl) (h1:v.oneCell'=true:=by exact rfl) (hL:J2 L is=some (.pt b ty cs):=by exact rfl) (hL2:V2 L is (.pt b ty cs')=some L2:=by exact rfl)
  (hd:∀v,Y5 N o.dst v 0 .tt E=some (E' v):=by exactλ_=>rfl) (hs:Conj (M6 lt C L2):=by first | exact trivial | (repeat' (first | exact trivial | refine⟨rfl,?_⟩))):J X (.reg ops C (.alt lt i t .non)::K) E L:=J.store1 hX tk is ho hg hgo hop hx v1 hy v2 hti hsz hc h1 hL hlt cs' hcs hL2 hd ⟨hs,hJ⟩
theorem J.mk {ops:Array Oper} {C:Cl} {lt:Bool} {i:Nat} {t:PT} {o:Oper} {g:G} {st e by_ size:Nat} {x y:Operand} {k1 k2 t1 t2 n s1 b1:Nat} {kl kc:IntKind} {g1 g2:G} {z1 z:List Value} {td:TD} {E':Value->Env} {L2:Nat->List Atom} (tag:Nat) (hJ:∀b,J X (.reg ops C t::K) (E' (.slice (some ⟨b,0,none⟩) n n)) (L2 b)) (hX:IsCx X Tryz.prog rs N F Post:=by assumption)
  (ho:J2 ops.toList i=some o:=by exact rfl) (hg:gd ops.toList E o=some g:=by exact rfl) (hgo:g.on=true:=by exact rfl) (hop:o.op= .makeSlice st x y:=by exact rfl) (hx:ev E x=some ⟨k1, .int kl n,t1,g1⟩:=by exact rfl) (v1:g1.on=true:=by exact rfl) (hy:ev E y=some ⟨k2, .int kc n,t2,g2⟩:=by exact rfl) (v2:g2.on=true:=by exact rfl)
  (hst:tab.get st=some ⟨.slice e size,s1,z1,b1⟩:=by exact rfl) (he:tab.get e=some ⟨td,size,z,by_⟩:=by exact rfl) (hzs:Nat.beq z.length size=true:=by exact rfl) (h63:n<=maxLen:=by first | decide | (simp only[maxLen];omega)) (hbytes:by_*n<=281474976710656:=by first | omega | decide)
  (hL2:∀b,a3L b3w L (.pt b e (List.replicate n z).flatten)=some (L2 b,tag):=by exactλ_=>rfl) (hd:∀v,Y5 N o.dst v tag .tt E=some (E' v):=by exactλ_=>rfl) (hs:∀b,Conj (M6 lt C (L2 b)):=by intro b;first | exact trivial | (repeat' (first | exact trivial | refine⟨rfl,?_⟩))):J X (.reg ops C (.alt lt i t .non)::K) E L:=J.makeMany hX tk tag ho hg hgo hop hx v1 hy v2 hst he hzs h63 hbytes hL2 hd λb=>⟨hs b,hJ b⟩
theorem J.ap {ops:Array Oper} {C:Cl} {lt:Bool} {i:Nat} {t:PT} {o:Oper} {g:G} {x y:Operand} {st e size by_:Nat} {ks tgs:Nat} {gs:G} {a:Option Nat} {n cap:Nat} {xs ys:List Value} {ky tgy:Nat} {gy:G} {b m c ty:Nat} {cs:List Value} {s1 b1:Nat} {z1:List Value} {E':Value->Env} {L':Option Nat->Nat->List Atom} {td:TD} {z:List Value} (is iy tag:Nat) (hys:xs++cs=ys) (hJ:∀a' cap',J X (.reg ops C t::K) (E' (slv a' (n+m) cap')) (L' a' cap')) (hX:IsCx X Tryz.prog rs N F Post:=by assumption)
  (ho:J2 ops.toList i=some o:=by exact rfl) (hg:gd ops.toList E o=some g:=by exact rfl) (hgo:g.on=true:=by exact rfl) (hop:o.op= .call ⟨.builtin .append,#[x,y],#[st,st]⟩:=by exact rfl)
  (hx:ev E x=some ⟨ks,slv a n cap,tgs,gs⟩:=by exact rfl) (hvx:gs.on=true:=by exact rfl) (hy:ev E y=some ⟨ky, .slice (some ⟨b,0,none⟩) m c,tgy,gy⟩:=by exact rfl) (hvy:gy.on=true:=by exact rfl)
  (hLs:J2 L is=some (l9 e size a n cap xs):=by exact rfl) (hLy:J2 L iy=some (.pt b ty cs):=by exact rfl) (hst:tab.get st=some ⟨.slice e size,s1,z1,b1⟩:=by exact rfl) (he:tab.get e=some ⟨td,size,z,by_⟩:=by exact rfl) (hz:Nat.beq z.length size=true:=by exact rfl)
  (hsz:Nat.blt 0 size=true:=by exact rfl) (hcs:cs.length=m*size:=by exact rfl) (h1:cs.all (·.oneCell')=true:=by exact rfl) (h63:n+m<=maxLen:=by first | decide | (simp only[maxLen];omega)) (hbytes:(n+m)*by_<=140737488355328:=by first | omega | decide)
  (hd:∀v,Y5 N o.dst v tag .tt E=some (E' v):=by exactλ_=>rfl) (hL:∀a' cap',V2 L is (l9 e size a' (n+m) cap' ys)=some (L' a' cap'):=by exactλ_ _=>rfl) (hs:∀a' cap',Conj (M6 lt C (L' a' cap')):=by intro _ _;first | exact trivial | (repeat' (first | exact trivial | refine⟨rfl,?_⟩))):J X (.reg ops C (.alt lt i t .non)::K) E L:=
 J.append hX tk is iy tag ho hg hgo hop hx hvx hy hvy hLs hLy hst he hz hsz hcs h1 h63 hbytes hd λa' cap'=>⟨L' a' cap',by rw[hys];exact hL a' cap',hs a' cap',hJ a' cap'⟩
theorem J.cO {g:Nat} {ys:List Value} {L':List Atom} (e size n cap:Nat) (xs:List Value) (i:Nat) (h:J X K E L') (ok:P8 L [i]=true:=by exact rfl) (hp:O2 L [i]=[.pt g e ys]:=by exact rfl) (h0:xs.length=n*size:=by exact rfl) (h2:n<=cap:=by decide) (h3:cap<=maxLen:=by decide) (h4:ys.length=cap*size:=by exact rfl) (h5:ys.take (n*size)=xs:=by exact rfl) (hL:a1k L [i] [l9 e size (some g) n cap xs]=some L':=by exact rfl):J X K E L:=J.closeOwn i ok hp h0 h2 h3 h4 h5 hL h
theorem J.sN {ops:Array Oper} {C:Cl} {lt:Bool} {i:Nat} {t:PT} {o:Oper} {g:G} {ty0:TypeId} {x y:Operand} {k1 k2 t1 t2 b off ty:Nat} {g1 g2:G} {v:Value} {cs:List Value} {ti:TI} {E':Value->Env} {L2:List Atom} (vs:List Value) (is:Nat) (cs':List Value) (hlt:off+vs.length<=cs.length) (hcs:cs.take off++vs++cs.drop (off+vs.length)=cs') (hJ:J X (.reg ops C t::K) (E' undef) L2) (hX:IsCx X Tryz.prog rs N F Post:=by assumption)
  (ho:J2 ops.toList i=some o:=by exact rfl) (hg:gd ops.toList E o=some g:=by exact rfl) (hgo:g.on=true:=by exact rfl) (hop:o.op= .store ty0 x y:=by exact rfl) (hx:ev E x=some ⟨k1, .pointer (some ⟨b,off,none⟩),t1,g1⟩:=by exact rfl) (v1:g1.on=true:=by exact rfl) (hy:ev E y=some ⟨k2,v,t2,g2⟩:=by exact rfl) (v2:g2.on=true:=by exact rfl)
  (hti:tab.get ty0=some ti:=by exact rfl) (hc:v.cells.toList=vs:=by exact rfl) (hsz:ti.size=vs.length:=by exact rfl) (h1:vs.all (·.oneCell')=true:=by exact rfl) (hL:J2 L is=some (.pt b ty cs):=by exact rfl) (hL2:V2 L is (.pt b ty cs')=some L2:=by exact rfl)
  (hd:∀v,Y5 N o.dst v 0 .tt E=some (E' v):=by exactλ_=>rfl) (hs:Conj (M6 lt C L2):=by first | exact trivial | (repeat' (first | exact trivial | refine⟨rfl,?_⟩))):J X (.reg ops C (.alt lt i t .non)::K) E L:=J.storeN hX tk is ho hg hgo hop hx v1 hy v2 hti hc hsz h1 hL hlt cs' hcs hL2 hd ⟨hs,hJ⟩
theorem stq {p:Prop} (h:p:=by first | exact trivial | (repeat' (first | exact trivial | refine⟨rfl,?_⟩))):p:=h
theorem J.n {α:Type} {I:α->Prop} {Ei:α->Env} {Li:α->List Atom} {μ:α->Nat} {m:Nat} (x:α) (h1:I x) (h2:μ x<m) (is:List Nat) (ok:P8 L is=true:=by exact rfl) (hL:O2 L is=Li x:=by exact rfl) (h3:Conj (a9o E (Ei x)):=by intros;(repeat' (first | exact Conj.nil | refine Conj.cons ?_ ?_ | omega | exact hq0 | (simpa using hq0) | (exactλh=>h) | exact rfl | (intro hq;have hq0:=hq;try simp only[f8,j7,d6,i4,c8]at hq) | (simp;done) | (simp;omega) | decide))):
  J X (.stop (λa w=>Ext X.w0 w/\∃x',I x'/\μ x'<m/\EnvOK X.n (Ei x') a/\Sep (Li x') (hl w))::K) E L:=J.nextS x h1 h2 is h3 ok hL
theorem J.l {c:Code} {α:Type} (I:α->Prop) (Ei:α->Env) (is:List Nat) (As:α->List Atom) (μ:α->Nat) (x0:α) {Li:α->List Atom} (h0:I x0)
  (round:∀x,I x->J X (.code c:: .stop (λa w=>Ext X.w0 w/\∃x',I x'/\μ x'<μ x/\EnvOK X.n (Ei x') a/\Sep (Li x') (hl w))::K) (Ei x) (Li x)) (ok:P8 L is=true:=by exact rfl) (hA:O2 L is=As x0:=by exact rfl) (hLi:∀x,a1k L is (As x)=some (Li x):=by exactλ_=>rfl) (hE:Conj (a9o E (Ei x0)):=by intros;(repeat' (first | exact Conj.nil | refine Conj.cons ?_ ?_ | omega | exact hq0 | (simpa using hq0) | (exactλh=>h) | exact rfl | (intro hq;have hq0:=hq;try simp only[f8,j7,d6,i4,c8]at hq) | (simp;done) | (simp;omega) | decide))):J X (.code (.loop c)::K) E L:=J.loopN I Ei is As μ x0 h0 hE ok hA hLi round
end
def a1K (q:Nat) (l:List A3):Atom:=exA λmr:Nat=>[.pt q 169 [.map (some mr)],W4 mr a3v (a0f l)]
theorem b9y:Tryz.prog.underlying 167=some (.map 39 4):=by kernel_rfl
theorem b1T:FP 83 [] [] (λv As=>∃q,v=pp q/\As=[a1K q []]):=by
 refine FE [] Tryz.func83 λX F hX=>?_;refine J.q λbs=>?_;refine J.turn1 [1] rfl (As:=[W4 (bs 0) a3v (a0f [])]) (λh s=>?_) rfl ?_
 ·refine⟨λ_=>0,λi A hA=>?_⟩;cases i with
  | zero=>simp at hA;subst hA;exact⟨#[],0,res_some.2 ⟨rfl,s.get (i:=0) rfl⟩,rfl,by simp,by simp⟩
  | succ k=>simp at hA
 refine J.cl (λmr:Nat=>[.pt (bs 1) 169 [.map (some mr)],W4 mr a3v (a0f [])]) (bs 0) [2,1] ?_;refine J.qr [2] λ_=>?_;exact⟨bs 1,rfl,rfl⟩
theorem c1e (q:Nat) (l:List A3) (x y z:Int):FP 240 [pp q, .agg #[iI x,iI y,iI z]] [a1K q l]
  (Ps (.tuple #[.bool (decide ((x,y,z)∈l)), .bool (decide ((x,y,z)∈l))]) [a1K q l]):=by
 refine FE [2,0] Tryz.func240 λX F hX=>?_;refine J.o (α:=Nat) 1 λmr=>?_;refine J.qF λ_=>?_;refine J.pq (.of [0,4,8,13,17,21,24,28,32,36,40]) [10] [1,2,3] λ_ _=>?_;refine J.vT (.tuple #[.bool (decide ((x,y,z)∈l)), .bool (decide ((x,y,z)∈l))]) rfl rfl (λ_ a w he hC=>?_) ?_
 ·refine(I5 (key:=(x,y,z)) a1f b9y (z:= .bool false) (λw=>by kernel_rfl) rfl rfl rfl rfl he rfl rfl (hC rfl _ (C0 (i:=2) rfl))).trans ?_;simp only[(a7b l _).1,(a7b l _).2]
 refine J.cl (λmr:Nat=>[.pt q 169 [.map (some mr)],W4 mr a3v (a0f l)]) mr [1,2] ?_;exact J.qx [1]
theorem c2K (q:Nat) (l:List A3) (x y z:Int):FP 54 [pp q, .agg #[iI x,iI y,iI z], .bool true] [a1K q l]
  (Ps (.tuple #[]) [a1K q (b6w l (x,y,z))]):=by
 refine FE [2,0,0] Tryz.func54 λX F hX=>?_;refine J.o (α:=Nat) 1 λmr=>?_;refine J.qT λ_=>?_;refine J.pq (.of [0,4,8,13,17,20,27]) [6] [1,2,3] λ_ _=>?_;refine J.mapUpdate hX a1f b9y (x,y,z) 2 rfl rfl rfl rfl rfl rfl rfl rfl rfl rfl rfl rfl (λ_=>rfl) (by rw[b3Y];rfl) ⟨trivial,?_⟩;refine J.cl (λmr:Nat=>[.pt q 169 [.map (some mr)],W4 mr a3v (a0f (b6w l (x,y,z)))]) mr [1,2] ?_;refine J.q λ_=>?_;refine J.f [1] ?_;exact⟨rfl,rfl⟩
theorem b7h (q:Nat) (l:List A3) (x y z:Int):FP 221 [pp q, .agg #[iI x,iI y,iI z]] [a1K q l]
  (Ps (.bool (decide ((x,y,z)∈l))) [a1K q (l.erase (x,y,z))]):=by
 refine FE [2,0] Tryz.func221 λX F hX=>?_;refine J.qp (c1e q l x y z) [1] λ_=>?_;refine J.qd (λ_ h=>?_) λ_ h=>?_
 ·refine J.o (α:=Nat) 1 λmr=>?_;refine J.pq (.of [0,4,8,13,17,22]) [] [1,2] λ_ _=>?_;refine J.delete hX a1f b9y (x,y,z) 3 rfl rfl rfl rfl rfl rfl rfl rfl rfl rfl (λ_=>rfl) (by rw[b4b];rfl) ⟨⟨rfl,rfl,trivial⟩,?_⟩;refine J.cl (λmr:Nat=>[.pt q 169 [.map (some mr)],W4 mr a3v (a0f (l.erase (x,y,z)))]) mr [1,3] ?_;exact J.qx [1]
 ·refine J.qr [1] λ_=>?_;simp only[c8]at h;exact⟨rfl,by rw[List.erase_of_not_mem h];rfl⟩
def itP {K:Type} (bm r:Nat) (kv:K->Value) (l:List (K×Value)) (is:List Nat) (h:Hl):Prop:=
 ∃es clock seen,h bm=some (.map es clock)/\h r=some (.mapIter (some bm) clock seen clock)/\es.toList.map (λe=>(e.key,e.val))=l.map (λx=>(kv x.1,x.2))/\(es.toList.map (·.born)).Nodup/\(∀e∈es.toList,e.born<clock)/\
  is.Nodup/\(∀i∈is,i<l.length)/\seen.toList=is.map (λi=>(es.toList.map (·.born)).getD i 0)
def itA {K:Type} (bm r:Nat) (kv:K->Value) (l:List (K×Value)) (is:List Nat):Atom:= .hp ⟨itP bm r kv l is,λ_ _ u ⟨es,c,s,h1,h2,h3⟩=>⟨es,c,s,u _ _ h1,u _ _ h2,h3⟩⟩
theorem b8k {K:Type} {bm r:Nat} {kv:K->Value} {l:List (K×Value)} {is:List Nat} {h:Hl} (s:Sep [itA bm r kv l is] h):Sep [W4 bm kv l] h:=by
 obtain⟨es,c,sn,h1,h2,h3,h4,h5,_⟩:=s.get (i:=0) rfl;exact Sep.one ⟨es,c,h1,h3,h4,h5⟩
theorem b5E {α:Type} {l:List α} (h:l.Nodup) {i j:Nat} (hi:i<l.length) (hj:j<l.length) (e:l[i]=l[j]):i=j:=by
 have h':=List.pairwise_iff_getElem.1 h;rcases Nat.lt_trichotomy i j with h1 | h1 | h1
 ·exact absurd e (h' i j hi hj h1)
 ·exact h1
 ·exact absurd e.symm (h' j i hj hi h1)
theorem b9d {n:Nat} {is:List Nat} (hn:is.Nodup) (hl:∀i∈is,i<n) (hall:∀i,i<n->i∈is):is.Perm (List.range n):=by
 rw[List.perm_iff_count];intro a;rw[List.Nodup.count hn,List.Nodup.count a3R]
 by_cases h:a∈is
 ·rw[d7 h,d7 (List.mem_range.2 (hl a h))]
 ·rw[d4 h,d4 (λh2=>h (hall a (List.mem_range.1 h2)))]
theorem Sep.part {L:List Atom} {h:Hl} (s:Sep L h) {i b:Nat} {o':Obj} {A A':Atom} (hA:L[i]? =some A) (hs:∀h',A.sat h'->∃o,h' b=some o) (hs':∀h',Hle h' h->A.sat h'->A'.sat (V3 h' b o')):Sep (L.set i A') (V3 h b o'):=by
 obtain⟨own,hw⟩:=s;obtain⟨o,ho⟩:=hs _ (hw i A hA);have hb:=res_some.1 ho;have hi:i<L.length:=(List.getElem?_eq_some_iff.1 hA).1;refine⟨own,λj B hB=>?_⟩;rw[A9]at hB;split at hB
 ·rename_i e;injection hB with hB;subst hB;subst e;refine Atom.up (λx u hx=>?_) (hs' _ (λb o hb=>(res_some.1 hb).2) (hw _ A hA));rw[res_some];unfold V3 at hx ⊢;split at hx
  ·rename_i e;subst e;exact⟨hb.1,by simpa using hx⟩
  ·rename_i e;rw[res_some]at hx;exact⟨hx.1,by rw[d4 e];exact hx.2⟩
 ·rename_i e;refine Atom.up (λx u hx=>?_) (hw j B hB);rw[res_some]at hx ⊢;refine⟨hx.1,?_⟩;unfold V3;rw[d4]
  ·exact hx.2
  ·rintro rfl;exact e (hb.1.symm.trans hx.1)
theorem Sep.grow {L:List Atom} {h:Hl} (s:Sep L h) {i b:Nat} {o':Obj} {A A':Atom} (hA:L[i]? =some A) (hn:h b=none) (hs':∀h',Hle h' h->h' b=none->A.sat h'->A'.sat (V3 h' b o')):Sep (L.set i A') (V3 h b o'):=by
 obtain⟨own,hw⟩:=s;have hi:i<L.length:=(List.getElem?_eq_some_iff.1 hA).1;have hres:∀k,res h own k b=none:=λk=>by unfold res;split<;>first | exact hn | rfl
 refine⟨λx=>if x=b then i else own x,λj B hB=>?_⟩;rw[A9]at hB;split at hB
 ·rename_i e;injection hB with hB;subst hB;subst e;refine Atom.up (λx u hx=>?_) (hs' _ (λb o hb=>(res_some.1 hb).2) (hres _) (hw _ A hA));rw[res_some];unfold V3 at hx ⊢;split at hx
  ·rename_i e;subst e;exact⟨by simp,by simpa using hx⟩
  ·rename_i e;rw[res_some]at hx;exact⟨by rw[d4 e];exact hx.1,by rw[d4 e];exact hx.2⟩
 ·rename_i e;refine Atom.up (λx u hx=>?_) (hw j B hB);rw[res_some]at hx ⊢;have hxb:x≠b:=by rintro rfl;rw[hn]at hx;cases hx.2
  refine⟨by rw[d4 hxb];exact hx.1,?_⟩;unfold V3;rw[d4 hxb];exact hx.2
theorem b2B {w:World} {r:Nat} {o o':Obj} (h:hl w r=some o):hl (Go.ChangeMaps.setBlock w r o')=V3 (hl w) r o':=by
 funext x;unfold hl V3 Go.ChangeMaps.setBlock;simp only[Array.getElem?_setIfInBounds]
 by_cases e:x=r
 ·subst e;have hlt:x<w.heap.size:=by
   rcases L8 x w.heap.size with h1 | h1
   ·exact h1
   ·simp only[hl]at h;rw[Q7 h1]at h;cases h
  simp[hlt]
 ·rw[d4 (Ne.symm e),d4 e]
section
variable {X : Cx} {P : Program} {T : Tab} {K : List KI} {E : Env} {L : List Atom} {N : Nat} {F : HP} {Post : Value → List Atom → Prop} {rs : List ResultVar} {KK : Type} {kv : KK → Value}
theorem J.rangeMap (hX:IsCx X P rs N F Post) {ops:Array Oper} {C:Cl} {lt:Bool} {i:Nat} {t:PT} {o:Oper} {g:G} {MT KT ET:TypeId} {x:Operand} {k1 t1 bm:Nat} {g1:G} {l:List (KK×Value)} {E':Value->Env} {L2:Nat->List Atom} (im:Nat)
  (hm:P.underlying MT=some (.map KT ET)) (ho:J2 ops.toList i=some o) (hg:gd ops.toList E o=some g) (hgo:g.on=true) (hop:o.op= .range MT x) (hx:ev E x=some ⟨k1, .map (some bm),t1,g1⟩) (v1:g1.on=true)
  (hL:J2 L im=some (W4 bm kv l)) (hL2:∀r,V2 L im (itA bm r kv l [])=some (L2 r)) (hd:∀v,Y5 N o.dst v 0 .tt E=some (E' v))
  (hJ:∀r,Conj (M6 lt C (L2 r))/\J X (.reg ops C t::K) (E' (.pointer (some ⟨r,0,none⟩))) (L2 r)):J X (.reg ops C (.alt lt i t .non)::K) E L:=by
 refine J.op hX (S:=λv' L'=>∃r,v'= .pointer (some ⟨r,0,none⟩)/\L'=L.set im (itA bm r kv l [])) 0 ho hg hgo (λa0 w hen hs=>?_) hd (λv L' ⟨r,e1,e2⟩=>by subst e1;subst e2;rw[<- V0 (hL2 r)];exact hJ r);rw[J1]at hL;have ex:=C8 hen hx;simp only[Slot.val,v1]at ex;obtain⟨es,clock,h1,h2,h3,h4⟩:b3A bm kv l (hl w):=hs.get hL;have hr:=run_range_map (P:=P) w MT KT ET bm es clock hm h1;have hbm:bm≠w.heap.size:=λe=>by
  have:=h1;simp only[hl]at this;rw[e,Q7 (j3 _)]at this;cases this
 refine⟨_,_, .value (.pointer (some ⟨w.heap.size,0,none⟩)),w.alloc (.mapIter (some bm) clock #[] clock),⟨w.heap.size,rfl,rfl⟩,?_, .inl rfl,?_,⟨rfl,rfl,rfl,by show w.heap.size<=(w.heap.push _).size;simp⟩⟩
 ·simp only[execOp,hop,ex,hr,Sem.run_bind,Result.andThen_ok,Sem.run_pure]
 ·show Sep _ (hl {w with heap:=w.heap.push (Obj.mapIter (some bm) clock #[] clock)});rw[a5D];refine Sep.grow hs hL (a5E w) (λh' hle hn ⟨es',c',q1,q2,q3,q4⟩=>?_);have e1:=(hle _ _ q1).symm.trans h1;simp only[l7,Obj.map.injEq]at e1;obtain⟨rfl,rfl⟩:=e1;exact⟨es',c',#[],by unfold V3;rw[d4 hbm];exact q1,by unfold V3;rw[d7 rfl],q2,q3,q4,a5W,by simp,rfl⟩
theorem J.rangeNext (hX:IsCx X P rs N F Post) {ops:Array Oper} {C:Cl} {lt:Bool} {i:Nat} {t:PT} {o:Oper} {g:G} {x:Operand} {k1 t1 bm r:Nat} {g1:G} {l:List (KK×Value)} {is:List Nat} {E':Value->Env} {L2:Nat->List Atom} (im:Nat)
  (ho:J2 ops.toList i=some o) (hg:gd ops.toList E o=some g) (hgo:g.on=true) (hop:o.op= .next x false) (hx:ev E x=some ⟨k1, .pointer (some ⟨r,0,none⟩),t1,g1⟩) (v1:g1.on=true)
  (hL:J2 L im=some (itA bm r kv l is)) (hL2:∀j,V2 L im (itA bm r kv l (is++[j]))=some (L2 j)) (hd:∀v,Y5 N o.dst v 0 .tt E=some (E' v))
  (h0:is.Perm (List.range l.length)->Conj (M6 lt C L)/\J X (.reg ops C t::K) (E' (.tuple #[.bool false])) L)
  (h1:∀j y,j∉is->l[j]? =some y->Conj (M6 lt C (L2 j))/\J X (.reg ops C t::K) (E' (.tuple #[.bool true,kv y.1,y.2])) (L2 j)):J X (.reg ops C (.alt lt i t .non)::K) E L:=by
 refine J.op hX (S:=λv' L'=>(is.Perm (List.range l.length)/\v'= .tuple #[.bool false]/\L'=L)\/∃j y,j∉is/\l[j]? =some y/\v'= .tuple #[.bool true,kv y.1,y.2]/\L'=L.set im (itA bm r kv l (is++[j]))) 0 ho hg hgo (λa0 w hen hs=>?_) hd (λv L' hS=>by
  rcases hS with⟨e0,e1,e2⟩ | ⟨j,y,e0,e1,e2,e3⟩
  ·subst e1;subst e2;exact h0 e0
  ·subst e2;subst e3;rw[<- V0 (hL2 j)];exact h1 j y e0 e1)
 rw[J1]at hL;have ex:=C8 hen hx;simp only[Slot.val,v1]at ex;obtain⟨es,clock,seen,q1,q2,q3,q4,q5,q6,q7,q8⟩:itP bm r kv l is (hl w):=hs.get hL;have hlen:es.toList.length=l.length:=by have:=congrArg List.length q3;simpa using this
 rcases run_next_at (P:=P) w o.type r bm clock clock seen es clock q2 q1 q5 (j3 _)with⟨z1,z2⟩ | ⟨e,z1,w1,z2,z3⟩
 ·refine⟨.tuple #[.bool false],L, .value (.tuple #[.bool false]),w, .inl ⟨?_,rfl,rfl⟩,?_, .inl rfl,hs,Ext.refl _⟩
  ·refine b9d q6 q7 (λj hj=>?_);have hj':j<es.toList.length:=by omega
   have h0:leftOf es seen= #[]:=Array.eq_empty_of_size_eq_zero z1;have hm:es.toList[j]∈es.toList:=I2 hj';have hs1:seen.contains (es.toList[j]).born=true:=by
    cases hc:seen.contains (es.toList[j]).born with
    | true=>rfl
    | false=>
     exfalso
     have:es.toList[j]∈leftOf es seen:=by
      unfold leftOf;rw[Array.mem_filter];exact⟨by simpa using hm,by rw[hc];rfl⟩
     rw[h0]at this;simp at this
   have hs2:(es.toList[j]).born∈seen.toList:=by simpa using hs1
   rw[q8,Q5]at hs2;obtain⟨i',hi',e⟩:=hs2;have hi2:i'<es.toList.length:=by have:=q7 i' hi';omega
   have e2:(es.toList.map (·.born))[i']'(by simpa using hi2)=(es.toList.map (·.born))[j]'(by simpa using hj'):=by
    rw[d5,c9 (by simpa using hi2),j4]at e;rw[e,Z5]
   have:=b5E q4 _ _ e2;subst this;exact hi'
  ·simp only[execOp,hop,ex,z2,Sem.run_bind,Result.andThen_ok,Sem.run_pure]
 ·have hle:e∈es.toList/\seen.contains e.born=false:=by
   have:e∈leftOf es seen:=by simpa using z1
   unfold leftOf at this;rw[Array.mem_filter]at this;exact⟨by simpa using this.1,by simpa using this.2⟩
  obtain⟨j,hj,hje⟩:=List.mem_iff_getElem.1 hle.1;have hjl:j<l.length:=by omega
  have hkv:(e.key,e.val)=(kv l[j].1,l[j].2):=by
   have h2:(es.toList.map λe=>(e.key,e.val))[j]'(by simpa using hj)=(l.map λx=>(kv x.1,x.2))[j]'(by simpa using hjl):=by simp only[q3]
   rw[Z5,Z5,hje]at h2;exact h2
  simp only[C7]at hkv;have hbj:(es.toList.map (·.born)).getD j 0=e.born:=by
   rw[d5,c9 (by simpa using hj),j4,Z5,hje]
  have hnj:j∉is:=λhm=>by
   have:e.born∈seen.toList:=by rw[q8,Q5];exact⟨j,hm,hbj⟩
   have h2:seen.contains e.born=true:=by simpa using this
   rw[hle.2]at h2;cases h2
  have hw1:hl w1=hl w:=by rcases z2 with rfl | rfl<;>rfl
  have hx1:Ext w w1:=by rcases z2 with rfl | rfl<;>exact⟨rfl,rfl,rfl,j3 _⟩
  refine⟨.tuple #[.bool true,kv l[j].1,l[j].2],L.set im (itA bm r kv l (is++[j])), .value (.tuple #[.bool true,e.key,e.val]),Go.ChangeMaps.setBlock w1 r (.mapIter (some bm) clock (seen.push e.born) clock), .inr ⟨j,l[j],hnj,c9 hjl,rfl,rfl⟩,?_, .inl (by rw[hkv.1,hkv.2]),?_,?_⟩
  ·simp only[execOp,hop,ex,z3,Sem.run_bind,Result.andThen_ok,Sem.run_pure]
  ·rw[b2B (by rw[hw1];exact q2),hw1];refine Sep.part hs hL (λh' ⟨_,_,_,_,u,_⟩=>⟨_,u⟩) (λh' hh ⟨es',c',sn',u1,u2,u3⟩=>?_);have e1:=(hh _ _ u1).symm.trans q1;have e2:=(hh _ _ u2).symm.trans q2;simp only[l7,Obj.map.injEq]at e1;simp only[l7,Obj.mapIter.injEq]at e2;obtain⟨rfl,rfl⟩:=e1;obtain⟨-,-,rfl,-⟩:=e2;have hne:bm≠r:=by rintro rfl;rw[q1]at q2;cases q2
   refine⟨es',c',sn'.push e.born,by unfold V3;rw[d4 hne];exact u1,by unfold V3;rw[d7 rfl],q3,q4,q5,?_,?_,?_⟩
   ·rw[M7];exact⟨q6,by simp,λa ha b hb=>by simp at hb;subst hb;rintro rfl;exact hnj ha⟩
   ·intro a ha;rw[M4]at ha;rcases ha with ha | ha
    ·exact q7 a ha
    ·simp at ha;subst ha;exact hjl
   ·rw[Array.toList_push,q8,s8,n8,S8,hbj]
  ·exact⟨hx1.os,hx1.tape,hx1.output,E9 hx1.size (by simp[Go.ChangeMaps.setBlock])⟩
theorem J.rangeEntry (hX:IsCx X P rs N F Post) {ops:Array Oper} {C:Cl} {lt:Bool} {i:Nat} {t:PT} {o:Oper} {g:G} {x:Operand} {k1 t1 bm r:Nat} {g1:G} {l:List (KK×Value)} {is:List Nat} {j:Nat} {y:KK×Value} {E':Env} (im:Nat)
  (ho:J2 ops.toList i=some o) (hg:gd ops.toList E o=some g) (hgo:g.on=true) (hop:o.op= .entry x) (hx:ev E x=some ⟨k1, .pointer (some ⟨r,0,none⟩),t1,g1⟩) (v1:g1.on=true)
  (hL:J2 L im=some (itA bm r kv l (is++[j]))) (hy:l[j]? =some y) (hd:Y5 N o.dst (.tuple #[kv y.1,y.2]) 0 g E=some E')
  (hJ:Conj (M6 lt C L)/\J X (.reg ops C t::K) E' L):J X (.reg ops C (.alt lt i t .non)::K) E L:=by
 refine J.val hX _ 0 ho hg (λ_ a w hen hs=>?_) hd hJ.1 hJ.2;rw[J1]at hL;have ex:=C8 hen hx;simp only[Slot.val,v1]at ex;obtain⟨es,clock,seen,q1,q2,q3,q4,q5,q6,q7,q8⟩:itP bm r kv l (is++[j]) (hl w):=hs.get hL;have hjl:j<l.length:=(List.getElem?_eq_some_iff.1 hy).1;have hlen:es.toList.length=l.length:=by have:=congrArg List.length q3;simpa using this
 have hj:j<es.toList.length:=by omega
 have hkv:((es.toList[j]).key,(es.toList[j]).val)=(kv y.1,y.2):=by
  have h2:(es.toList.map λe=>(e.key,e.val))[j]'(by simpa using hj)=(l.map λx=>(kv x.1,x.2))[j]'(by simpa using hjl):=by simp only[q3]
  rw[Z5,Z5,(List.getElem?_eq_some_iff.1 hy).2]at h2;exact h2
 simp only[C7]at hkv;have hs:seen=(is.map (λi=>(es.toList.map (·.born)).getD i 0)).toArray.push (es.toList[j]).born:=by
  apply Array.toList_inj.1;rw[q8,Array.toList_push,s8,n8,S8,d5,c9 (by simpa using hj),j4,Z5]
 have hr:=run_entry_at (P:=P) w r bm clock (is.map (λi=>(es.toList.map (·.born)).getD i 0)).toArray es clock (es.toList[j]) (by rw[<- hs];exact q2) q1 (I2 hj) q4;simp only[execOp,hop,ex,hr,Sem.run_bind,Result.andThen_ok,Sem.run_pure,hkv.1,hkv.2]
end
theorem D7 {e size:Nat} {c:Option Nat×Nat} {n:Nat} {xs:List Value} (hn:0<n) {h:Hl} (s:(l9 e size c.1 n c.2 xs).sat h):∃g,c.1=some g:=by
 obtain⟨_,h2⟩:=s;cases hc:c.1 with
 | none=>rw[hc]at h2;omega
 | some g=>exact⟨g,rfl⟩
theorem J.cg {X:Cx} {K:List KI} {E E':Env} {L:List Atom} {N:Nat} {F:HP} {Post:Value->List Atom->Prop} {rs:List ResultVar} (hX:IsCx X Tryz.prog rs N F Post) {ops:Array Oper} {C:Cl} {l:Bool} {i:Nat} {t:PT} {o:Oper} {b:Bool} {f:FuncId} {vs:List Value} {ob:List Prop} {V:Value}
  (c:Fn Tryz.prog f vs [] (Ps V [])) (hJ:J X (.reg ops C t::K) E' L) (hf:K0 Tryz.prog f=true:=by kernel_rfl) (ho:J2 ops.toList i=some o:=by exact rfl) (hg:gd ops.toList E o=some (.when b):=by exact rfl) (hc:a6Z E o.op=some (f,vs,ob):=by exact rfl) (hob:b=true->Conj ob:=by intro hq;(repeat' (first | exact Conj.nil | refine Conj.cons ?_ ?_ | omega | exact hq0 | (simpa using hq0) | (exactλh=>h) | exact rfl | (intro hq;have hq0:=hq;try simp only[f8,j7,d6,i4,c8]at hq) | (simp;done) | (simp;omega) | decide)))
  (hd:Y5 N o.dst V 0 (.when b) E=some E':=by exact rfl) (ok:P8 L []=true:=by exact rfl) (h0:a1k L [] []=some L:=by exact rfl) (hst:Conj (M6 l C L):=by first | exact trivial | (repeat' (first | exact trivial | refine⟨rfl,?_⟩))):J X (.reg ops C (.alt l i t .non)::K) E L:=by
 intro a w hx he hs;rw[J1]at ho;have ho':ops[i]? =some o:=by simpa using ho
 refine⟨⟨o,ho',?_⟩,trivial⟩;have hw:=a1s he hg;unfold sOp;cases b with
 | true=>
  rw[d7 (by rw[hw];rfl),b0x (P:=X.P) he (by rw[hX.hP];exact hf) hc (hob rfl)];have hcall:=c (HP.of (a1b L [])) w (hs.split ok);rw[<- hX.hP]at hcall;refine Calls.mono hcall λe w' ⟨v,As,he',⟨e1,e2⟩,hs',hx'⟩=>⟨v,he',?_⟩;subst e1 e2;have hs2:=Sep.back ok hs';rw[<- a3s (a0I ok).1 h0]at hs2;exact⟨R0 hst hs2,hJ _ w' (hx.trans hx') (U6 he (by rw[hX.hN];exact hd) _ rfl) hs2⟩
 | false=>
  rw[d4 (by rw[hw];simp[G.on])];exact⟨R0 hst hs,hJ _ w hx (U6 he (by rw[hX.hN];exact hd) _ rfl) hs⟩
theorem b8x (m d:Int) (h0:0<=m) (h1:m<256):(bits .and .i64 m (L.one d) !=0)=L.has m d:=by
 obtain⟨m,rfl⟩:=f9 h0
 by_cases hd:0<=d/\d<8
 ·obtain⟨d,rfl⟩:=f9 hd.1;exact(by decide+kernel:∀m,m<256->∀d,d<8->(bits .and .i64 ((m:Nat):Int) (L.one (d:Nat)) !=0)=L.has m d) m (by omega) d (by omega)
 ·have h4:L.has (m:Int) d=false:=by
   simp only[L.has,Bool.and_eq_false_iff,c8];omega
  rw[h4,L.one,d4 hd];exact(by decide+kernel:∀m,m<256->(bits .and .i64 ((m:Nat):Int) 0 !=0)=false) m (by omega)
theorem b5B (d:Int):L.one d=0\/∃k:Nat,k<8/\d=k/\L.one d=((2^k:Nat):Int):=by
 by_cases hd:0<=d/\d<8
 ·obtain⟨d,rfl⟩:=f9 hd.1;exact .inr ⟨d,by omega,rfl,by simp only[L.one,hd,and_self,a0d,i9]⟩
 ·exact .inl (by simp[L.one,hd])
theorem without_dec:∀m,m<256->∀k,k<8->bits .andNot .i64 ((m:Nat):Int) ((2^k:Nat):Int)=((m&&& (255-2^k):Nat):Int):=by decide+kernel
theorem with_dec:∀m,m<256->∀k,k<8->bits .or .i64 ((m:Nat):Int) ((2^k:Nat):Int)=((m||| 2^k:Nat):Int):=by decide+kernel
theorem b5d:∀m,m<256->bits .or .i64 ((m:Nat):Int) 0=((m||| 0:Nat):Int)/\bits .andNot .i64 ((m:Nat):Int) 0=((m&&& 255:Nat):Int):=by decide+kernel
theorem a9B (m d:Int) (h0:0<=m) (h1:m<256):bits .or .i64 m (L.one d)=L.with_ m d/\bits .andNot .i64 m (L.one d)=L.without m d:=by
 obtain⟨m,rfl⟩:=f9 h0;have hs:L.set (m:Int)=true:=by simp[L.set];omega
 simp only[L.with_,L.without,hs,a0d];rcases b5B d with h | ⟨k,hk,_,h⟩
 ·rw[h];exact b5d m (by omega)
 ·rw[h];exact⟨with_dec m (by omega) k hk,without_dec m (by omega) k hk⟩
theorem b4J (m:Int):FP 172 [iI m] [] (Ps (.bool (L.set m)) []):=by
 refine FE [0] Tryz.func172 λX F hX=>?_;exact J.qx []
theorem b7Z (d:Int):FP 173 [iI d] [] (Ps (iI (L.one d)) []):=by
 refine FE [0] Tryz.func173 λX F hX=>?_;refine J.qd (λ_ h=>?_) λ_ h=>?_
 ·simp only[j7,d6]at h;refine J.qr [] λ_=>?_;exact⟨by rw[L.one,d4 (by omega)],rfl⟩
 ·simp only[D5,c8]at h;obtain⟨d,rfl⟩:=f9 (by omega:0<=d)
  match d,(by omega:d<8)with
  | 0,_ | 1,_ | 2,_ | 3,_ | 4,_ | 5,_ | 6,_ | 7,_=>
   exact J.qx []
theorem b2w (n:Int):FP 159 [iI n] [] (Ps (iI (L.all n)) []):=by
 refine FE [0] Tryz.func159 λX F hX=>?_;refine J.qd (λ_ h=>?_) λ_ h=>?_
 ·simp only[j7,d6]at h;refine J.qr [] λ_=>?_;exact⟨by rw[L.all,d4 (by omega)],rfl⟩
 ·simp only[D5,c8]at h;obtain⟨d,rfl⟩:=f9 (by omega:0<=n)
  match d,(by omega:d<9)with
  | 0,_ | 1,_ | 2,_ | 3,_ | 4,_ | 5,_ | 6,_ | 7,_ | 8,_=>
   exact J.qx []
theorem b0c (m d:Int):FP 111 [iI m,iI d] [] (Ps (.bool (L.has m d)) []):=by
 refine FE [0,0] Tryz.func111 λX F hX=>?_;refine J.qp (b4J m) [] λ_=>?_;cases h:L.set m with
 | false=>
  refine J.q λ_=>?_;refine J.v (iI 0) rfl rfl (λhg a w he hw=>by simp[G.on]at hg) ?_;refine J.qr [] λ_=>?_;exact⟨by simp[L.has,h],rfl⟩
 | true=>
  refine J.qp (b7Z d) [] λ_=>?_;refine J.qr [] λ_=>?_;exact⟨congrArg Value.bool (b8x m d ((L.set_iff m).1 h).1 ((L.set_iff m).1 h).2),rfl⟩
theorem b1e (m d:Int):FP 131 [iI m,iI d] [] (Ps (iI (L.with_ m d)) []):=by
 refine FE [0,0] Tryz.func131 λX F hX=>?_;refine J.qp (b4J m) [] λ_=>?_;cases h:L.set m with
 | false=>
  refine J.qT λ_=>?_;refine J.qr [] λ_=>?_;exact⟨by simp[L.with_,h],rfl⟩
 | true=>
  refine J.qF λ_=>?_;refine J.qp (b7Z d) [] λ_=>?_;refine J.qr [] λ_=>?_;exact⟨congrArg (Value.int .i64) (a9B m d ((L.set_iff m).1 h).1 ((L.set_iff m).1 h).2).1,rfl⟩
theorem a4y (m d:Int):FP 189 [iI m,iI d] [] (Ps (iI (L.without m d)) []):=by
 refine FE [0,0] Tryz.func189 λX F hX=>?_;refine J.qp (b4J m) [] λ_=>?_;cases h:L.set m with
 | false=>
  refine J.qT λ_=>?_;refine J.qr [] λ_=>?_;exact⟨by simp[L.without,h],rfl⟩
 | true=>
  refine J.qF λ_=>?_;refine J.qp (b7Z d) [] λ_=>?_;refine J.qr [] λ_=>?_;exact⟨congrArg (Value.int .i64) (a9B m d ((L.set_iff m).1 h).1 ((L.set_iff m).1 h).2).2,rfl⟩
def oc1 (m:Int):Int:=IntKind.u64.wrap (bits BinOp.and IntKind.u64 (m/2) 6148914691236517205+bits BinOp.and IntKind.u64 m 6148914691236517205)
def oc2 (x:Int):Int:=IntKind.u64.wrap (bits BinOp.and IntKind.u64 (x/4) 3689348814741910323+bits BinOp.and IntKind.u64 x 3689348814741910323)
def oc3 (x:Int):Int:=bits BinOp.and IntKind.u64 (IntKind.u64.wrap (x/16+x)) 1085102592571150095
def oc4 (x:Int):Int:=IntKind.u64.wrap (x+x/256)
def oc5 (x:Int):Int:=IntKind.u64.wrap (x+x/65536)
def oc6 (x:Int):Int:=IntKind.u64.wrap (x+x/4294967296)
def oc (m:Int):Int:=bits BinOp.and IntKind.i64 (wrap64 (oc6 (oc5 (oc4 (oc3 (oc2 (oc1 m))))))) 127
theorem c1N:∀m,m<256->oc ((m:Nat):Int)=(L.count (m:Int):Int):=by decide+kernel
set_option maxHeartbeats 400000 in
theorem c1L (m:Int) (h0:0<=m) (h1:m<256) (w:World):
  Calls Tryz.prog 252 #[.int .u64 m] w λe w'=>e= .returned (iI (L.count m))/\w=w':=by
 obtain⟨k,rfl⟩:=f9 h0;have hoc:=Lib.hid (c1N k (by omega))
 go_enter Tryz.func252,Tryz.ntmps252
 go_wp2
 go_ret
 exact⟨b0R hoc.out,rfl⟩
theorem c1S (m:Int) (h0:0<=m) (h1:m<256):FP 224 [.int .u64 m] [] (Ps (iI (L.count m)) []):=by
 refine FE [0] Tryz.func224 λX F hX=>?_;refine J.qF λ_=>?_;refine J.qp ((Fn.of_same (c1L m h0 h1))) [] λ_=>?_;exact J.qx []
theorem a5B (m:Int):FP 187 [iI m] [] (Ps (iI (L.count m)) []):=by
 refine FE [0] Tryz.func187 λX F hX=>?_;refine J.qp (b4J m) [] λ_=>?_;cases h:L.set m with
 | false=>
  refine J.qT λ_=>?_;refine J.qr [] λ_=>?_;exact⟨by simp[L.count,L.dies,h],rfl⟩
 | true=>
  obtain⟨h0,h1⟩:=(L.set_iff m).1 h;refine J.qF λ_=>?_;refine J.qp (c1S m h0 h1) [] λ_=>?_;exact J.qx []
theorem c1T (m i:Int) (h0: -1000000<=i) (h1:i<=1000000):FP 188 [iI m,iI i] [] (Ps (iI (L.at_ m i)) []):=by
 refine FE [0,0] Tryz.func188 λX F hX=>?_;have hz:=L.below_zero m;refine J.q λ_=>?_;refine J.l (α:=(Nat×Int)) (λz=>z.1<=8/\z.2=i-L.below m z.1/\(0<=i->(L.below m z.1:Int)<=i)) (λz=>[si 6 z.1,si 1 z.2,si 0 m]) [] (λz=>[]) (λz=>8-z.1) ((0,i)) (⟨j8 _,by dsimp only;omega,λ_=>by dsimp only;omega⟩) λz hI=>?_;obtain⟨k,x⟩:=z;dsimp only at hI ⊢;obtain⟨hk,hx,hi⟩:=hI;have hb:L.below m k<=8:=E9 (J8 _ _) (by simp);refine J.qd (λ_ h=>?_) λ_ h=>?_
 ·simp only[d6]at h;have hs:=L.below_succ m k (by omega);have ha:=L.at_below m k (by omega);refine J.qp (b0c m k) [] λ_=>?_;cases hh:L.has m k with
  | false=>
   rw[hh]at hs;refine J.qT λ_=>?_;refine J.q λ_=>?_;refine J.n ((k+1,x)) (⟨by dsimp only;omega,by dsimp only;rw[hs];simpa using hx,by dsimp only;rw[hs];simpa using hi⟩) (by dsimp only;omega) [0]
  | true=>
   rw[hh,d7 rfl]at hs;refine J.qF λ_=>?_;refine J.qd (λ_ h2=>?_) λ_ h2=>?_
   ·simp only[B4]at h2;refine J.qr [] λ_=>?_;exact⟨by rw[<- ha hh,show(L.below m k:Int)=i from by omega],rfl⟩
   ·simp only[m6,I1]at h2;refine J.q λ_=>?_;refine J.n ((k+1,x-1)) (⟨by dsimp only;omega,by dsimp only;omega,λh=>by have:=hi h;dsimp only;omega⟩) (by dsimp only;omega) [0]
 ·simp only[c8]at h;obtain rfl:k=8:=by omega
  rw[L.below_eight]at hi;refine J.qr [] λ_=>?_;exact⟨by rw[L.at_ge m i (by omega)],rfl⟩
theorem all_dec:∀m,m<256->∀d,d<8->L.has (m:Nat) (d:Nat)=true->(L.count (bits .and .i64 ((m:Nat):Int) (L.all (d:Nat))):Int)=L.spot (m:Nat) (d:Nat):=by decide+kernel
theorem b8a (m d:Int):FP 308 [iI m,iI d] [] (Ps (iI (L.spot m d)) []):=by
 refine FE [0,0] Tryz.func308 λX F hX=>?_;refine J.qp (b0c m d) [] λ_=>?_;cases h:L.has m d with
 | false=>
  refine J.qT λ_=>?_;refine J.qr [] λ_=>?_;exact⟨by simp[L.spot,h],rfl⟩
 | true=>
  obtain⟨h1,h2,h3,h4⟩:=L.has_lt m d h;obtain⟨m,rfl⟩:=f9 h3;obtain⟨d,rfl⟩:=f9 h1;refine J.qF λ_=>?_;refine J.qp (b2w d) [] λ_=>?_;refine J.qp (a5B _) [] λ_=>?_;refine J.qr [] λ_=>?_;exact⟨congrArg (Value.int .i64) (all_dec m (by omega) d (by omega) h),rfl⟩
theorem a1t (m:Int):FP 121 [iI m] [] (Ps (iI (G.slots m)) []):=by
 have:=L.count_le m;refine FE [0] Tryz.func121 λX F hX=>?_;refine J.qp (a5B m) [] λ_=>?_;refine J.qd (λ_ h=>?_) λ_ h=>?_
 ·simp only[d6]at h;refine J.qr [] λ_=>?_;exact⟨by rw[G.slots,d7 (by omega)],rfl⟩
 ·simp only[c8]at h;refine J.qr [] λ_=>?_;exact⟨by rw[G.slots,d4 (by omega)],rfl⟩
theorem a1x (m b r:Int):FP 165 [iI m,iI b,iI r] [] (Ps (iI (G.parity m b r)) []):=by
 have hc:=L.count_le m;refine FE [0,0,0] Tryz.func165 λX F hX=>?_;refine J.qp (a5B m) [] λ_=>?_;refine J.qd (λ_ h=>?_) λ_ h=>?_
 ·simp only[j7,d6]at h;refine J.qr [] λ_=>?_;exact⟨by rw[G.parity,d7 (by omega)],rfl⟩
 ·simp only[D5,c8]at h;have hn0:(L.count m:Int)≠0:=by omega
  have hn1:(0:Int)<L.count m:=by omega
  have h1:=a2u b hn0;have h2:=a0V b hn1;have h3:=a2u r hn0;have h4:=a0V r hn1;have h5:=a2u (b+r) hn0;have h6:=a0V (b+r) hn1;have e1:b.tmod (L.count m:Int)=b % (L.count m:Int):=a5X (by omega);have e2:r.tmod (L.count m:Int)=r % (L.count m:Int):=a5X (by omega);have e3:(b.tmod (L.count m:Int)+r.tmod (L.count m:Int)).tmod (L.count m:Int)=(b+r) % (L.count m:Int):=by rw[e1,e2,a5X (by omega),<- Int.add_emod]
  refine J.pq (.of [0,4,8,12,16,20,24,28,32,36,43,44]) [10,11] [] λ_ _=>?_;rw[e3];refine J.q λ_=>?_;refine J.ca hX (by kernel_rfl) (c1T m _ (by omega) (by omega)) [] 0 rfl rfl rfl rfl rfl rfl (λ_=>rfl) ?_;refine cpq ⟨_,rfl,trivial,?_⟩;refine J.qr [] λ_=>?_;exact⟨by rw[G.parity,d4 (by omega)],rfl⟩
theorem b4L (m b r s:Int) (h0: -1000000<=s) (h1:s<=1000000):FP 124 [iI m,iI b,iI r,iI s] [] (Ps (iI (G.die m b r s)) []):=by
 refine FE [0,0,0,0] Tryz.func124 λX F hX=>?_;refine J.qp (a1x m b r) [] λ_=>?_;refine J.qd (λ_ h=>?_) λ_ h=>?_
 ·simp only[d6]at h;refine J.qr [] λ_=>?_;exact⟨by rw[G.die,d7 h],rfl⟩
 ·simp only[c8]at h;refine J.qp (a4y m _) [] λ_=>?_;refine J.qp (c1T _ s h0 h1) [] λ_=>?_;refine J.qr [] λ_=>?_;exact⟨by rw[G.die,d4 h],rfl⟩
theorem b8G (m b r s:Int):FP 304 [iI m,iI b,iI r,iI s] [] (Ps (iI (G.slot m b r s)) []):=by
 refine FE [0,0,0,0] Tryz.func304 λX F hX=>?_;refine J.qp (a1x m b r) [] λ_=>?_;refine J.qd (λ_ h=>?_) λ_ h=>?_
 ·simp only[d6]at h;refine J.qr [] λ_=>?_;exact⟨by rw[G.slot,d7 h],rfl⟩
 ·simp only[c8]at h;refine J.qp (a4y m _) [] λ_=>?_;refine J.qp (b8a _ s) [] λ_=>?_;refine J.qr [] λ_=>?_;exact⟨by rw[G.slot,d4 h],rfl⟩
theorem a3a (n a b:Int):FP 96 [iI n,iI a,iI b] [] (Ps (.bool (decide (a<=n)&&decide (n<=b))) []):=by
 refine FE [0,0,0] Tryz.func96 λX F hX=>?_;exact J.qx []
theorem a6W (d b p:Int):FP 82 [.agg #[iI d,iI b,iI p]] [] (Ps (.bool (L4 d b p)) []):=by
 have hs:L4 d b p=(((decide (3<=d)&&decide (d<=6))&&(decide (8<=b)&&decide (b<=16)))&&(decide (2<=p)&&decide (p<=8))):=by simp[L4,Bool.decide_and]
 refine FE [0] Tryz.func82 λX F hX=>?_;refine J.qp (a3a d 3 6) [] λ_=>?_;refine J.q λ_=>?_;refine J.cg hX (a3a b 8 16) ?_;refine J.q λ_=>?_;refine J.cg hX (a3a p 2 8) ?_;refine J.qr [] λ_=>?_;exact⟨by rw[hs],rfl⟩
theorem b2J (d b p x y z:Int) (hd:0<=d/\d<=1000000) (hb:0<=b/\b<=1000000) (hp:0<=p/\p<=1000000):FP 52 [.agg #[iI d,iI b,iI p], .agg #[iI x,iI y,iI z]] [] (Ps (.bool (X4 d b p x y z)) []):=by
 have e:∀u v:Int,decide (0<=u/\u<v)=(decide (0<=u)&&decide (u<=v-1)):=λu v=>by rw[a2v];simp;omega
 have hs:X4 d b p x y z=(((decide (0<=x)&&decide (x<=d-1))&&(decide (0<=y)&&decide (y<=b-1)))&&(decide (0<=z)&&decide (z<=p-1))):=by simp only[X4,e]
 refine FE [0,0] Tryz.func52 λX F hX=>?_;refine J.qp (a3a x 0 (d-1)) [] λ_=>?_;refine J.q λ_=>?_;refine J.cg hX (a3a y 0 (b-1)) ?_;refine J.q λ_=>?_;refine J.cg hX (a3a z 0 (p-1)) ?_;refine J.qr [] λ_=>?_;exact⟨by rw[hs],rfl⟩
def byC (l:List UInt8) (k:Nat):Value:=bv (l.getD k 0)
def H4 (l:List UInt8):List Value:=[byC l 0,byC l 1,byC l 2,byC l 3,byC l 4,byC l 5,byC l 6,byC l 7,byC l 8,byC l 9,byC l 10,byC l 11,byC l 12,byC l 13,byC l 14,byC l 15]
def T4 (l:List UInt8):List Value:=[byC l 0,byC l 1,byC l 2,byC l 3,byC l 4,byC l 5,byC l 6,byC l 7,byC l 8,byC l 9,byC l 10,byC l 11,byC l 12,byC l 13,byC l 14,byC l 15,byC l 16,byC l 17,byC l 18,byC l 19,byC l 20,byC l 21,byC l 22,byC l 23,byC l 24,byC l 25,byC l 26,byC l 27,byC l 28,byC l 29,byC l 30,byC l 31]
def NCell.vals (c:NCell):List Value:=[byC c.p 0,byC c.p 1,byC c.p 2,byC c.p 3,byC c.p 4,byC c.p 5,byC c.p 6,byC c.p 7,byC c.p 8,byC c.p 9,byC c.p 10,byC c.p 11,byC c.p 12,byC c.p 13,byC c.p 14,byC c.p 15,byC c.p 16,byC c.p 17,byC c.p 18,byC c.p 19,byC c.p 20,byC c.p 21,byC c.p 22,byC c.p 23,byC c.p 24,byC c.p 25,byC c.p 26,byC c.p 27,byC c.p 28,byC c.p 29,byC c.p 30,byC c.p 31, .bool c.lost, .bool c.turned]
def P5 (l:List NCell):List Value:=l.flatMap NCell.vals
structure NLoc where
 r:Nat
 q:Nat
 d:Nat
 bp:Nat->Nat
def Nand.mainV (N:Nand) (Y:NLoc):List Value:=
 [iI N.dies,iI N.blocks,iI N.pages, .map (some Y.r),pp Y.q, .slice (some ⟨Y.d,0,none⟩) N.dies N.dies, .bool N.off,iI N.ops,iI N.broken, .bool N.cuts,iI N.left,iI N.keep]
def a9v (b:Nat) (B:NBlock):Atom:=exA λa:Option Nat×Nat=>
 [.pt b 107 [slv a.1 B.cells.length a.2,iI B.worn, .bool B.fails, .bool B.met],l9 112 34 a.1 B.cells.length a.2 (P5 B.cells)]
def a4p (nb n:Nat) (bp:Nat->Nat):List (A3×Value):=(List.range n).map λk=>((((k/nb:Nat):Int),((k % nb:Nat):Int),0),pp (bp k))
def a0T (nb n:Nat) (bp:Nat->Nat) (f:Nat->Nat->NBlock):List Atom:=(List.range n).map λk=>a9v (bp k) (f (k/nb) (k % nb))
def a0O (p:Nat) (N:Nand) (Y:NLoc):List Atom:=
 [.pt p 92 (N.mainV Y),W4 Y.r a3v (a4p N.blocks (N.dies*N.blocks) Y.bp),a1K Y.q N.plan, .pt Y.d 4 (N.dead.map Value.bool), .hp (HP.of (a0T N.blocks (N.dies*N.blocks) Y.bp N.blk))]
def C3 (p:Nat) (N:Nand):Atom:=exA (a0O p N)
theorem b3Z (nb:Nat) (bp:Nat->Nat) (i j:Nat) (hj:j<nb):∀n,R3 (a4p nb n bp) ((i:Int),(j:Int),0)=if i*nb+j<n then some (pp (bp (i*nb+j)))else none:=by
 have hnb:0<nb:=by omega
 have key:∀(m k:Nat),R3 ((List.range' m k).map λk=>((((k/nb:Nat):Int),((k % nb:Nat):Int),(0:Int)),Value.pointer (some ⟨bp k,0,none⟩))) ((i:Int),(j:Int),0)=if m<=i*nb+j/\i*nb+j<m+k then some (pp (bp (i*nb+j)))else none:=by
  intro m k
  induction k generalizing m with
  | zero=>simp[R3]
  | succ k ih=>
   rw[List.range'_succ,n8,R3]
   by_cases e:m=i*nb+j
   ·subst e;rw[d7,d7 (by omega)];have h1:(i*nb+j)/nb=i:=by rw[a0U,V9,Nat.add_mul_div_left _ _ hnb,Nat.div_eq_of_lt hj,J6]
    have h2:(i*nb+j) % nb=j:=by rw[a0U,Nat.add_mul_mod_self_right];exact K4 hj
    rw[h1,h2]
   ·rw[d4,ih]
    ·by_cases h:m+1<=i*nb+j/\i*nb+j<m+1+k
     ·rw[d7 h,d7 (by omega)]
     ·rw[d4 h,d4 (by omega)]
    ·intro h;simp only[C7,a4P,and_true]at h;apply e;rw[h.1,h.2,V9];exact(a4O m nb).symm
 intro n;have:=key 0 n;simpa[a4p,List.range_eq_range']using this
theorem a9b (nb:Nat) (hnb:0<nb) (bp:Nat->Nat) (a:A3) (n:Nat) (h:∀i j:Nat,i*nb+j<n->j<nb->a≠((i:Int),(j:Int),0)):R3 (a4p nb n bp) a=none:=by
 have key:∀(l:List Nat),(∀k∈l,k<n)->R3 (l.map λk=>((((k/nb:Nat):Int),((k % nb:Nat):Int),(0:Int)),Value.pointer (some ⟨bp k,0,none⟩))) a=none:=by
  intro l
  induction l with
  | nil=>intro _;rfl
  | cons k l ih=>
   intro hl;rw[n8,R3,d4,ih (λk' hk'=>hl k' (H1 _ hk'))];refine h (k/nb) (k % nb) ?_ (a3Q _ hnb);have:=a4O k nb;rw[V9]at this;rw[this];exact hl k (H5 ..)
 exact key _ (λk hk=>by simpa using hk)
theorem Sep.openAt {BL:List Atom} {h:Hl} {k:Nat} {A:Atom} (s:Sep [.hp (HP.of BL)] h) (hk:BL[k]? =some A):Sep [.hp (HP.of (BL.set k .emp)),A] h:=by
 obtain⟨own,hw⟩:=Sep.hpOf.1 s;refine⟨λb=>if own b=k then 1 else 0,λj B hB=>?_⟩
 match j with
 | 0=>
  simp at hB;subst hB;refine⟨own,λi C hC=>?_⟩;rw[A9]at hC;split at hC
  ·split at hC
   ·simp at hC;subst hC;trivial
   ·cases hC
  ·rename_i hne;refine Atom.up (λb o hb=>?_) (hw i C hC);rw[res_some]at hb ⊢;exact⟨hb.1,res_some.2 ⟨by rw[d4 (by rw[hb.1];exactλe=>hne e.symm)],hb.2⟩⟩
 | 1=>
  simp at hB;subst hB;refine Atom.up (λb o hb=>?_) (hw k _ hk);rw[res_some]at hb ⊢;exact⟨by rw[d7 hb.1],hb.2⟩
 | j+2=>simp at hB
theorem Sep.closeAt {BL:List Atom} {h:Hl} {k:Nat} {A:Atom} (s:Sep [.hp (HP.of (BL.set k .emp)),A] h):Sep [.hp (HP.of (BL.set k A))] h:=by
 obtain⟨own,hw⟩:=s;obtain⟨own2,hw2⟩:=hw 0 _ rfl;refine Sep.hpOf.2 ⟨λb=>if own b=0 then own2 b else k,λj B hB=>?_⟩;rw[A9]at hB;split at hB
 ·rename_i e;split at hB
  ·injection hB with hB;subst hB;subst e;refine Atom.up (λb o hb=>?_) (hw 1 _ rfl);rw[res_some]at hb ⊢;exact⟨by rw[d4 (by omega)],hb.2⟩
  ·cases hB
 ·rename_i hne;refine Atom.up (λb o hb=>?_) (hw2 j B (by rw[A9,d4 hne];exact hB));rw[res_some]at hb ⊢;have:=res_some.1 hb.2;exact⟨by rw[d7 this.1];exact hb.1,this.2⟩
section
variable {X : Cx} {K : List KI} {E : Env} {L : List Atom}
theorem J.openAt {BL L':List Atom} (i k:Nat) {A:Atom} (ok:P8 L [i]=true) (hp:O2 L [i]=[.hp (HP.of BL)]) (hk:BL[k]? =some A) (hL:a1k L [i] [.hp (HP.of (BL.set k .emp)),A]=some L') (h:J X K E L'):J X K E L:=
 J.turn1 [i] ok (λh' s=>by rw[hp]at s;exact s.openAt hk) hL h
theorem J.closeAt {BL L':List Atom} (i j k:Nat) {A:Atom} (ok:P8 L [i,j]=true) (hp:O2 L [i,j]=[.hp (HP.of (BL.set k .emp)),A]) (hL:a1k L [i,j] [.hp (HP.of (BL.set k A))]=some L') (h:J X K E L'):J X K E L:=
 J.turn1 [i,j] ok (λh' s=>by rw[hp]at s;exact s.closeAt) hL h
end
theorem a1q (nb n:Nat) (bp:Nat->Nat) (f:Nat->Nat->NBlock) (k:Nat) (h:k<n):(a0T nb n bp f)[k]? =some (a9v (bp k) (f (k/nb) (k % nb))):=by simp[a0T,h]
theorem a0w {i j nb:Nat} (hj:j<nb):(i*nb+j)/nb=i/\(i*nb+j) % nb=j:=by
 have hnb:0<nb:=by omega
 exact⟨by rw[a0U,V9,Nat.add_mul_div_left _ _ hnb,Nat.div_eq_of_lt hj,J6],by rw[a0U,Nat.add_mul_mod_self_right];exact K4 hj⟩
theorem a8u {i j d nb:Nat} (hi:i<d) (hj:j<nb):i*nb+j<d*nb:=by
 have:(i+1)*nb<=d*nb:=H9 nb hi;rw[P6]at this;omega
theorem b6s (nb n:Nat) (bp:Nat->Nat) (f:Nat->Nat->NBlock) (i j:Nat) (B:NBlock) (hj:j<nb):(a0T nb n bp f).set (i*nb+j) (a9v (bp (i*nb+j)) B)=a0T nb n bp (λa b=>if a=i/\b=j then B else f a b):=by
 apply z8;intro k;rw[A9];have hlen:(a0T nb n bp f).length=n:=by simp[a0T]
 have hg:∀g k,(a0T nb n bp g)[k]? =if k<n then some (a9v (bp k) (g (k/nb) (k % nb)))else none:=λg k=>by
  by_cases hk:k<n
  ·rw[a1q _ _ _ _ _ hk,d7 hk]
  ·rw[d4 hk,j6 (by simp[a0T];omega)]
 rw[hlen,hg,hg]
 by_cases e:i*nb+j=k
 ·subst e;rw[d7 rfl]
  by_cases hk:i*nb+j<n
  ·rw[d7 hk,d7 hk,(a0w hj).1,(a0w hj).2,d7 ⟨rfl,rfl⟩]
  ·rw[d4 hk,d4 hk]
 ·rw[d4 e]
  by_cases hk:k<n
  ·rw[d7 hk,d7 hk,d4];rintro⟨rfl,rfl⟩;apply e;have:=a4O k nb;rw[V9]at this;exact this
  ·rw[d4 hk,d4 hk]
theorem a1y (l:List UInt8) (h:l.length=16):H4 l=l.map bv:=by
 match l,h with
 | [a0,a1,a2,a3,a4,a5,a6,a7,a8,a9,a10,a11,a12,a13,a14,a15],_=>rfl
theorem X2 (l:List UInt8) (h:l.length=32):T4 l=l.map bv:=by
 match l,h with
 | [a0,a1,a2,a3,a4,a5,a6,a7,a8,a9,a10,a11,a12,a13,a14,a15,a16,a17,a18,a19,a20,a21,a22,a23,a24,a25,a26,a27,a28,a29,a30,a31],_=>rfl
theorem I6:∀(l:List NCell),(P5 l).length=l.length*34
 | []=>rfl
 | c::l=>by
  have:=I6 l;simp only[P5,z7,d8,l6]at this ⊢;rw[this,show c.vals.length=34 from rfl];omega
theorem a6y:∀(l:List NCell) (r:List Value) (z:Nat) (c:NCell),l[z]? =some c->((P5 l++r).drop (z*34)).take 34=c.vals
 | [],r,z,c,h=>by simp at h
 | x::l,r,0,c,h=>by
  simp at h;subst h;simp only[P5,z7,m9,Q3,a0b];have:=List.take_left (l₁:=x.vals) (l₂:=List.flatMap NCell.vals l++r);exact this
 | x::l,r,z+1,c,h=>by
  have:=a6y l r z c (by simpa using h);simp only[P5,z7,m9,P6]at this ⊢;rw[show z*34+34=x.vals.length+z*34 from by show _=34+_;omega,<- C2,List.drop_left];exact this
theorem b2S {l:List NCell} {z:Nat} {c:NCell} (h:l[z]? =some c):((P5 l).drop (z*34)).take 32=T4 c.p:=by
 have h1:=a6y l [] z c h;rw[l8]at h1;have:=congrArg (List.take 32) h1;rw[a5V]at this;exact this
theorem a6Y {l:List NCell} {z k:Nat} {c:NCell} (h:l[z]? =some c) (hk:k<34):(P5 l)[z*34+k]? =c.vals[k]?:=by
 have h1:=a6y l [] z c h;rw[l8]at h1;rw[<- h1,C6,d7 hk,J5]
theorem J.closeN {X:Cx} {K:List KI} {E:Env} {L L':List Atom} (p:Nat) (N N':Nand) (Y:NLoc) (i j:Nat) (hj:j<N.blocks) (B:NBlock) (c:Option Nat×Nat) (is:List Nat) (ok:P8 L is=true)
  (hp:O2 L is=[.pt p 92 (N'.mainV Y),W4 Y.r a3v (a4p N.blocks (N.dies*N.blocks) Y.bp),a1K Y.q N'.plan, .pt Y.d 4 (N'.dead.map Value.bool), .hp (HP.of ((a0T N.blocks (N.dies*N.blocks) Y.bp N.blk).set (i*N.blocks+j) .emp)),
   .pt (Y.bp (i*N.blocks+j)) 107 [slv c.1 B.cells.length c.2,iI B.worn, .bool B.fails, .bool B.met],l9 112 34 c.1 B.cells.length c.2 (P5 B.cells)])
  (h1:N'.dies=N.dies) (h2:N'.blocks=N.blocks) (hB:N'.blk=λa b=>if a=i/\b=j then B else N.blk a b) (hL:a1k L is [C3 p N']=some L') (h:J X K E L'):J X K E L:=by
 refine J.turn1 is ok (λh' s=>?_) hL h;rw[hp]at s;have s1:=s.turn1 [5,6] rfl (As:=[a9v (Y.bp (i*N.blocks+j)) B]) (λh2 s2=>⟨λ_=>0,λk A hA=>by
  cases k with
  | zero=>simp at hA;subst hA;exact⟨c,s2.up λb o hb=>res_some.2 ⟨rfl,hb⟩⟩
  | succ k=>simp at hA⟩)
 have s2:=s1.turn1 [4,5] rfl (As:=[.hp (HP.of ((a0T N.blocks (N.dies*N.blocks) Y.bp N.blk).set (i*N.blocks+j) (a9v (Y.bp (i*N.blocks+j)) B)))]) (λh2 s2=>Sep.closeAt s2);rw[b6s _ _ _ _ _ _ _ hj,<- hB]at s2;have s3:=s2.sub [0,1,2,3,4] rfl;refine⟨λ_=>0,λk A hA=>?_⟩;cases k with
 | zero=>
  simp at hA;subst hA;refine⟨Y,?_⟩;have:a0O p N' Y=[.pt p 92 (N'.mainV Y),W4 Y.r a3v (a4p N.blocks (N.dies*N.blocks) Y.bp),a1K Y.q N'.plan, .pt Y.d 4 (N'.dead.map Value.bool), .hp (HP.of (a0T N.blocks (N.dies*N.blocks) Y.bp N'.blk))]:=by rw[a0O,h1,h2]
  rw[this];exact s3.up λb o hb=>res_some.2 ⟨rfl,hb⟩
 | succ k=>simp at hA
theorem X5 (f:Nat->Nat->NBlock) (i j:Nat):f=λa b=>if a=i/\b=j then f i j else f a b:=by
 funext a b;split
 ·rename_i h;rw[h.1,h.2]
 ·rfl
theorem Nand.Ok.bd {N:Nand} (h:N.Ok):(3<=N.dies/\N.dies<=6)/\(8<=N.blocks/\N.blocks<=16)/\(2<=N.pages/\N.pages<=8):=by
 have:=h.geo;simp[L4]at this;omega
theorem a6j (p:Nat) (N:Nand) (hN:N.Ok) (x y z:Int):FP 218 [pp p, .agg #[iI x,iI y,iI z]] [C3 p N] (Ps (iI (N.refuses x y z)) [C3 p N]):=by
 have hbd:=hN.bd;refine FE [2,0] Tryz.func218 λX F hX=>?_;refine J.o (α:=NLoc) 1 λY=>?_;refine J.qF λ_=>?_;refine J.qd (λ_ h1=>?_) λ_ h1=>?_
 ·refine J.q λ_=>?_;refine J.cl (a0O p N) (Y) [1,2,3,4,5] ?_;refine J.qr [1] λ_=>?_;exact⟨by simp[Nand.refuses,h1],rfl⟩
 refine J.pq (.of [0,4,8,13,17,22,24,28]) [] [1,2,3,4,5,6] λ_ _=>?_;refine J.ca hX (by kernel_rfl) (b2J _ _ _ x y z (by omega) (by omega) (by omega)) [] 0 rfl rfl rfl rfl rfl rfl (λ_=>rfl) ?_;refine cpq ⟨_,rfl,⟨rfl,rfl,rfl,rfl,rfl,rfl,trivial⟩,?_⟩;refine J.qd (λ_ h2=>?_) λ_ h2=>?_
 ·refine J.q λ_=>?_;refine J.cl (a0O p N) (Y) [1,2,3,4,5] ?_;refine J.qr [1] λ_=>?_;simp only[i4]at h2;exact⟨by simp[Nand.refuses,h1,h2],rfl⟩
 simp only[B5]at h2;have h3:(0<=x/\x<N.dies):=by simp[X4]at h2;omega
 obtain⟨i,rfl⟩:=f9 h3.1;have h4:i<N.dead.length:=by rw[hN.dead];omega
 refine J.pq (.of [0,4,8,13,16,21,24,29,32]) [] [1,2,3,4,5,6] λ_ _=>?_;refine J.vT (.bool N.dead[i]) rfl rfl (λ_ a w he hC=>?_) ?_
 ·exact B6 tk rfl rfl he rfl rfl rfl (hC rfl _ (C0 (i:=4) rfl)) (by simp[h4])
 refine J.qd (λ_ h5=>?_) λ_ h5=>?_
 ·refine J.q λ_=>?_;refine J.cl (a0O p N) (Y) [1,2,3,4,5] ?_;refine J.qr [1] λ_=>?_;exact⟨by simp[Nand.refuses,h1,h2,h4,h5],rfl⟩
 refine J.q λ_=>?_;refine J.cl (a0O p N) (Y) [1,2,3,4,5] ?_;refine J.qr [1] λ_=>?_;exact⟨by simp[Nand.refuses,h1,h2,h4,h5],rfl⟩
theorem a2U (x y:Int):FP 53 [iI x,iI y] [] (Ps (.agg #[iI x,iI y,iI 0]) []):=by
 refine FE [] Tryz.func53 λX F hX=>?_;exact J.qx []
theorem a3I:Tryz.prog.underlying 89=some (.map 39 103):=by kernel_rfl
theorem a1B {N:Nand} {Y:NLoc} {i j:Nat} (hi:i<N.dies) (hj:j<N.blocks):R3 (a4p N.blocks (N.dies*N.blocks) Y.bp) ((i:Int),(j:Int),0)=some (pp (Y.bp (i*N.blocks+j))):=by
 rw[b3Z _ _ _ _ hj,d7 (a8u hi hj)]
theorem b0B {N:Nand} {Y:NLoc} {x y:Int} (hb:0<N.blocks) (h:¬(0<=x/\x<N.dies/\0<=y/\y<N.blocks)):R3 (a4p N.blocks (N.dies*N.blocks) Y.bp) (x,y,0)=none:=by
 refine a9b _ hb _ _ _ λi j hij hj e=>h ?_;simp only[C7]at e;have hi:i<N.dies:=by
  rcases L8 i N.dies with h | h
  ·exact h
  ·have:=H9 N.blocks h;omega
 omega
theorem b7L (p:Nat) (N:Nand) (hN:N.Ok) (x y:Int):FP 113 [pp p,iI x,iI y] [C3 p N] (λv As=>v=iI (N.next x y)/\As=[C3 p N]):=by
 have hbd:=hN.bd
 by_cases hr:0<=x/\x<N.dies/\0<=y/\y<N.blocks
 ·obtain⟨i,rfl⟩:=f9 hr.1;obtain⟨j,rfl⟩:=f9 hr.2.2.1;have hi:i<N.dies:=by omega
  have hj:j<N.blocks:=by omega
  have hv:((N.next i j:Nat):Int)=((N.blk i j).cells.length:Nat):=by rw[Nand.next,d7 (by omega)];rfl
  refine FE [2,0,0] Tryz.func113 λX F hX=>?_;refine J.o (α:=NLoc) 1 λY=>?_;refine J.openAt 5 (i*N.blocks+j) rfl rfl (a1q _ _ _ _ _ (a8u hi hj)) rfl ?_;rw[(a0w hj).1,(a0w hj).2];refine J.o (α:=(Option Nat×Nat)) 6 λc=>?_;refine J.p (.of [0,4,8,12,16,20,25,28,32,38,41,44,48]) [] [1,2,3,4,6,7] λ_=>?_;refine J.qp (a2U i j) [] λ_=>?_;refine J.valT hX (pp (Y.bp (i*N.blocks+j))) 7 rfl rfl (λ_ a w he hC=>?_) rfl ?_
  ·refine(I5 (key:=((i:Int),(j:Int),0)) a1f a3I (z:= .pointer none) (λw=>by kernel_rfl) rfl rfl rfl rfl he rfl rfl (hC rfl _ (C0 (i:=2) rfl))).trans ?_;simp only[a1B hi hj];rfl
  refine J.qF λ_=>?_;refine J.p (.of [0,4,8,13,16,20,26,29,32,36,41,44,48]) [12] [1,2,3,4,6,7] λ_=>?_;refine J.qp (a2U i j) [] λ_=>?_;refine J.valT hX (pp (Y.bp (i*N.blocks+j))) 7 rfl rfl (λ_ a w he hC=>?_) rfl ?_
  ·refine(I5 (key:=((i:Int),(j:Int),0)) a1f a3I (z:= .pointer none) (λw=>by kernel_rfl) rfl rfl rfl rfl he rfl rfl (hC rfl _ (C0 (i:=2) rfl))).trans ?_;simp only[a1B hi hj];rfl
  refine J.q λ_=>?_;refine J.closeN p N (N) Y i j hj (N.blk i j) _ [1,2,3,4,5,6,7] rfl rfl rfl rfl (X5 _ _ _) rfl ?_;refine J.qr [1] λ_=>?_;exact⟨by rw[hv],rfl⟩
 ·refine FE [2,0,0] Tryz.func113 λX F hX=>?_;refine J.o (α:=NLoc) 1 λY=>?_;refine J.p (.of [0,4,8,12,16,20,25,28,32,38,41,44,48]) [] [1,2,3,4] λ_=>?_;refine J.qp (a2U x y) [] λ_=>?_;refine J.vT (.pointer none) rfl rfl (λ_ a w he hC=>?_) ?_
  ·refine(I5 (key:=(x,y,0)) a1f a3I (z:= .pointer none) (λw=>by kernel_rfl) rfl rfl rfl rfl he rfl rfl (hC rfl _ (C0 (i:=2) rfl))).trans ?_;simp only[b0B (show 0<N.blocks by omega) hr];rfl
  refine J.qT λ_=>?_;refine J.q λ_=>?_;refine J.cl (a0O p N) (Y) [1,2,3,4,5] ?_;refine J.qr [1] λ_=>?_;exact⟨by simp[Nand.next,hr],rfl⟩
theorem b3y (p:Nat) (N:Nand) (hN:N.Ok) (x y:Int):FP 110 [pp p,iI x,iI y] [C3 p N] (λv As=>v=iI (N.wornAt x y)/\As=[C3 p N]):=by
 have hbd:=hN.bd
 by_cases hr:0<=x/\x<N.dies/\0<=y/\y<N.blocks
 ·obtain⟨i,rfl⟩:=f9 hr.1;obtain⟨j,rfl⟩:=f9 hr.2.2.1;have hi:i<N.dies:=by omega
  have hj:j<N.blocks:=by omega
  have hv:N.wornAt i j=(N.blk i j).worn:=by rw[Nand.wornAt,d7 (by omega)];rfl
  refine FE [2,0,0] Tryz.func110 λX F hX=>?_;refine J.o (α:=NLoc) 1 λY=>?_;refine J.openAt 5 (i*N.blocks+j) rfl rfl (a1q _ _ _ _ _ (a8u hi hj)) rfl ?_;rw[(a0w hj).1,(a0w hj).2];refine J.o (α:=(Option Nat×Nat)) 6 λc=>?_;refine J.p (.of [0,4,8,12,16,20,25,28,32,38,41,44,48]) [] [1,2,3,4,6,7] λ_=>?_;refine J.qp (a2U i j) [] λ_=>?_;refine J.valT hX (pp (Y.bp (i*N.blocks+j))) 7 rfl rfl (λ_ a w he hC=>?_) rfl ?_
  ·refine(I5 (key:=((i:Int),(j:Int),0)) a1f a3I (z:= .pointer none) (λw=>by kernel_rfl) rfl rfl rfl rfl he rfl rfl (hC rfl _ (C0 (i:=2) rfl))).trans ?_;simp only[a1B hi hj];rfl
  refine J.qF λ_=>?_;refine J.p (.of [0,4,8,13,16,20,26,29,32,36,41,44]) [11] [1,2,3,4,6,7] λ_=>?_;refine J.qp (a2U i j) [] λ_=>?_;refine J.valT hX (pp (Y.bp (i*N.blocks+j))) 7 rfl rfl (λ_ a w he hC=>?_) rfl ?_
  ·refine(I5 (key:=((i:Int),(j:Int),0)) a1f a3I (z:= .pointer none) (λw=>by kernel_rfl) rfl rfl rfl rfl he rfl rfl (hC rfl _ (C0 (i:=2) rfl))).trans ?_;simp only[a1B hi hj];rfl
  refine J.q λ_=>?_;refine J.closeN p N (N) Y i j hj (N.blk i j) _ [1,2,3,4,5,6,7] rfl rfl rfl rfl (X5 _ _ _) rfl ?_;refine J.qr [1] λ_=>?_;exact⟨by rw[hv],rfl⟩
 ·refine FE [2,0,0] Tryz.func110 λX F hX=>?_;refine J.o (α:=NLoc) 1 λY=>?_;refine J.p (.of [0,4,8,12,16,20,25,28,32,38,41,44,48]) [] [1,2,3,4] λ_=>?_;refine J.qp (a2U x y) [] λ_=>?_;refine J.vT (.pointer none) rfl rfl (λ_ a w he hC=>?_) ?_
  ·refine(I5 (key:=(x,y,0)) a1f a3I (z:= .pointer none) (λw=>by kernel_rfl) rfl rfl rfl rfl he rfl rfl (hC rfl _ (C0 (i:=2) rfl))).trans ?_;simp only[b0B (show 0<N.blocks by omega) hr];rfl
  refine J.qT λ_=>?_;refine J.q λ_=>?_;refine J.cl (a0O p N) (Y) [1,2,3,4,5] ?_;refine J.qr [1] λ_=>?_;exact⟨by simp[Nand.wornAt,hr],rfl⟩
theorem a2V (p:Nat) (N:Nand):FP 9 [pp p] [C3 p N] (λv As=>v= .agg #[iI N.dies,iI N.blocks,iI N.pages]/\As=[C3 p N]):=by
 refine FE [2] Tryz.func9 λX F hX=>?_;refine J.o (α:=NLoc) 1 λY=>?_;refine J.qF λ_=>?_;refine J.q λ_=>?_;refine J.cl (a0O p N) (Y) [1,2,3,4,5] ?_;exact J.qx [1]
theorem a3r (p:Nat) (N:Nand):FP 15 [pp p] [C3 p N] (λv As=>v= .bool (!N.off)/\As=[C3 p N]):=by
 refine FE [2] Tryz.func15 λX F hX=>?_;refine J.o (α:=NLoc) 1 λY=>?_;refine J.q λ_=>?_;refine J.cl (a0O p N) (Y) [1,2,3,4,5] ?_;refine J.qr [1] λ_=>?_;exact⟨by simp,rfl⟩
theorem b4v (p:Nat) (N:Nand):FP 77 [pp p] [C3 p N] (λv As=>v=iI N.ops/\As=[C3 p N]):=by
 refine FE [2] Tryz.func77 λX F hX=>?_;refine J.o (α:=NLoc) 1 λY=>?_;refine J.qF λ_=>?_;refine J.q λ_=>?_;refine J.cl (a0O p N) (Y) [1,2,3,4,5] ?_;exact J.qx [1]
theorem b2k (p:Nat) (N:Nand):FP 20 [pp p] [C3 p N] (λv As=>v=iI N.broken/\As=[C3 p N]):=by
 refine FE [2] Tryz.func20 λX F hX=>?_;refine J.o (α:=NLoc) 1 λY=>?_;refine J.qF λ_=>?_;refine J.q λ_=>?_;refine J.cl (a0O p N) (Y) [1,2,3,4,5] ?_;exact J.qx [1]
theorem c0h (p:Nat) (N:Nand):FP 17 [pp p] [C3 p N] (λv As=>v= .tuple #[]/\As=[C3 p N.onN]):=by
 refine FE [2] Tryz.func17 λX F hX=>?_;refine J.o (α:=NLoc) 1 λY=>?_;refine J.qT λ_=>?_;refine J.q λ_=>?_;refine J.cl (a0O p N.onN) (Y) [1,2,3,4,5] ?_;refine J.q λ_=>?_;refine J.f [1] ?_;exact⟨rfl,rfl⟩
theorem b4x (p:Nat) (N:Nand) (x k:Int):FP 14 [pp p,iI x,iI k] [C3 p N] (λv As=>v= .tuple #[]/\As=[C3 p (N.setCut x k)]):=by
 refine FE [2,0,0] Tryz.func14 λX F hX=>?_;refine J.o (α:=NLoc) 1 λY=>?_;refine J.qd (λ_ h=>?_) λ_ h=>?_
 ·refine J.q λ_=>?_;refine J.cl (a0O p N) (Y) [1,2,3,4,5] ?_;refine J.qr [1] λ_=>?_;simp only[D6]at h;exact⟨rfl,by simp[Nand.setCut,h,O2];rfl⟩
 ·simp only[D6]at h;have hs:N.setCut x k={N with cuts:=decide (x>=0),left:=x,keep:=if 32<(if 0>k then 0 else k)then 32 else(if 0>k then 0 else k),off:=decide (x<0)}:=by
   simp only[Nand.setCut,h];have:min (max k 0) 32=if 32<(if 0>k then 0 else k)then 32 else(if 0>k then 0 else k):=by(repeat' split)<;>omega
   rw[this];rfl
  refine J.q λ_=>?_;refine J.cl (a0O p {N with cuts:=decide (x>=0),left:=x,keep:=if 32<(if 0>k then 0 else k)then 32 else(if 0>k then 0 else k),off:=decide (x<0)}) (Y) [1,2,3,4,5] ?_;refine J.q λ_=>?_;refine J.f [1] ?_;exact⟨rfl,by rw[hs];rfl⟩
theorem c1i (p:Nat) (N:Nand) (Y:NLoc) (hN:N.Ok) (hR:N.Room):FP 219 [pp p] [.pt p 92 (N.mainV Y)] (λv As=>v= .bool N.cutB/\As=[.pt p 92 (N.cutN.mainV Y)]):=by
 have h1:=hN.num.1;have h2:=hR.ops;have h3:=hN.lft;have h4:=hN.lf2;refine FE [2] Tryz.func219 λX F hX=>?_;refine J.qd (λ_ h=>?_) λ_ h=>?_
 ·simp only[i4]at h;have hs:N.cutN={N with ops:=N.ops+1}:=by simp[Nand.cutN,Nand.cutB,h]
  refine J.qr [1] λ_=>?_;exact⟨by simp[Nand.cutB,h],by rw[hs];rfl⟩
 simp only[B5]at h;have h3:=h3 h;refine J.qd (λ_ h5=>?_) λ_ h5=>?_
 ·simp only[d6]at h5;have hs:N.cutN={N with ops:=N.ops+1,left:=N.left-1}:=by
   have hcb:N.cutB=false:=by simp[Nand.cutB,h];omega
   simp[Nand.cutN,hcb,h]
  refine J.qr [1] λ_=>?_;exact⟨by congr 1;simp[Nand.cutB,h];omega,by rw[hs];rfl⟩
 simp only[c8]at h5;have hcb:N.cutB=true:=by simp[Nand.cutB,h];omega
 have hs:N.cutN={N with ops:=N.ops+1,left:=N.left-1,cuts:=false,off:=true}:=by
  simp[Nand.cutN,hcb,h]
 refine J.qr [1] λ_=>?_;exact⟨by rw[hcb],by rw[hs];rfl⟩
theorem a8p (p:Nat) (N:Nand) (hN:N.Ok) (x:Int):FP 78 [pp p,iI x] [C3 p N] (λv As=>v= .bool (N.deadAt x)/\As=[C3 p N]):=by
 have hd:=hN.dead;refine FE [2,0] Tryz.func78 λX F hX=>?_;refine J.o (α:=NLoc) 1 λY=>?_;refine J.q λ_=>?_;refine J.v (.bool (N.dead.getD x.toNat false)) rfl rfl (λhg a w he hs=>?_) ?_
 ·simp only[G.on,f8,d6]at hg;refine B6 tk rfl rfl he (by simp[G.on,hg]) rfl rfl (hs.get (i:=4) rfl) ?_;have:x.toNat<N.dead.length:=by omega
  simp[this]
 refine J.q λ_=>?_;refine J.cl (a0O p N) (Y) [1,2,3,4,5] ?_;refine J.qr [1] λ_=>?_;refine⟨?_,rfl⟩;congr 1
theorem a8o (p:Nat) (N:Nand) (hN:N.Ok) (x y z:Int):FP 204 [pp p, .agg #[iI x,iI y,iI z]] [C3 p N] (λv As=>v= .tuple #[.agg (T4 (N.readV x y z)).toArray,iI (N.readE x y z)]/\As=[C3 p N]):=by
 have hbd:=hN.bd;refine FE [2,0] Tryz.func204 λX F hX=>?_;refine J.qp (a6j p N hN x y z) [1] λ_=>?_;refine J.qd (λ_ h=>?_) λ_ h=>?_
 ·simp only[G9,I1]at h;refine J.qr [1] λ_=>?_;exact⟨by simp only[Nand.readV,Nand.readE,I1,h,not_false_eq_true,d7];rfl,rfl⟩
 simp only[A8]at h;obtain⟨hoff,hdd,hr⟩:=Nand.refuses_zero h;obtain⟨i,rfl⟩:=f9 hr.1;obtain⟨j,rfl⟩:=f9 hr.2.2.1;obtain⟨k,rfl⟩:=f9 hr.2.2.2.2.1;have hi:i<N.dies:=by omega
 have hj:j<N.blocks:=by omega
 refine J.o (α:=NLoc) 1 λY=>?_;refine J.openAt 7 (i*N.blocks+j) rfl rfl (a1q _ _ _ _ _ (a8u hi hj)) rfl ?_;rw[(a0w hj).1,(a0w hj).2];refine J.o (α:=(Option Nat×Nat)) 8 λc=>?_;refine J.p (.of [0,4,8,13,16,21,24,29,34,37,40]) [10] [1,2,3,4,5,6,7,8,9] λ_=>?_;refine J.qp (a2U i j) [] λ_=>?_;refine J.valT hX (pp (Y.bp (i*N.blocks+j))) 9 rfl rfl (λ_ a w he hC=>?_) rfl ?_
 ·refine(I5 (key:=((i:Int),(j:Int),0)) a1f a3I (z:= .pointer none) (λw=>by kernel_rfl) rfl rfl rfl rfl he rfl rfl (hC rfl _ (C0 (i:=4) rfl))).trans ?_;simp only[a1B hi hj];rfl
 refine J.p (.of [0,5,8,12,16,21,24,28,32]) [] [1,2,3,4,5,6,7,8,9] λ_=>?_;refine J.qd (λ_ h5=>?_) λ_ h5=>?_
 ·simp only[a1e,d6,Int.ofNat_le]at h5;have hp:N.pageAt i j k=none:=by simp[Nand.pageAt,h5]
  refine J.q λ_=>?_;refine J.closeN p N (N) Y i j hj (N.blk i j) _ [1,4,5,6,7,8,9] rfl rfl rfl rfl (X5 _ _ _) rfl ?_;refine J.qr [1] λ_=>?_;exact⟨by simp only[Nand.readV,Nand.readE,h,hp,I1,a3h,X6];rfl,rfl⟩
 simp only[a1e,c8,Int.ofNat_le,Nat.not_le]at h5;obtain⟨cl,hcl⟩:∃cl,(N.blk i j).cells[k]? =some cl:=⟨_,c9 h5⟩;have hp:N.pageAt i j k=some cl:=by simp only[Nand.pageAt,i9];exact hcl
 refine J.know (λh' s=>D7 (by omega) (s.get (i:=9) rfl)) λhg=>?_;obtain⟨g,hg⟩:=hg;obtain⟨c1,c2⟩:=c;simp only at hg;subst hg;refine J.pq (.of [0,4,8,13,16,21,24,28,33,36]) [] [1,2,3,4,5,6,7,8,9] λ_ _=>?_;refine J.vT (.bool cl.lost) rfl rfl (λ_ a w he hC=>?_) ?_
 ·exact I4 tk rfl rfl he rfl rfl rfl (hC rfl _ (C0 (i:=9) rfl)) (by rw[show 0+((k:Int)).toNat*34+32=k*34+32 from by simp];exact a6Y hcl (by omega))
 refine J.qd (λ_ h6=>?_) λ_ h6=>?_
 ·refine J.q λ_=>?_;refine J.closeN p N (N) Y i j hj (N.blk i j) _ [1,4,5,6,7,8,9] rfl rfl rfl rfl (X5 _ _ _) rfl ?_;refine J.qr [1] λ_=>?_;exact⟨by simp only[Nand.readV,Nand.readE,h,hp,h6,I1,a3h,X6,a0d];rfl,rfl⟩
 refine J.pq (.of [0,4,8,13,16,21,24,28,33,39,40]) [9,10] [1,2,4,5,6,7,8,9] λ_ _=>?_;refine J.vT (.agg (T4 cl.p).toArray) rfl rfl (λ_ a w he hC=>?_) ?_
 ·exact M3 tk rfl rfl he rfl rfl rfl (hC rfl _ (C0 (i:=9) rfl)) (by rw[show 0+((k:Int)).toNat*34+0=k*34 from by simp];exact b2S hcl) rfl
 refine J.q λ_=>?_;refine J.closeN p N (N) Y i j hj (N.blk i j) _ [1,4,5,6,7,8,9] rfl rfl rfl rfl (X5 _ _ _) rfl ?_;refine J.qr [1] λ_=>?_;exact⟨by simp only[Nand.readV,Nand.readE,h,hp,h6,I1,a3h,X6,H6];rfl,rfl⟩
end Go.Proofs.YtmafiplddapokaaGreat
