/- Helpers. No condition. -/
import Derived.Test.YtmafiplddapokaaGreatU03
import Derived.WalkKit
set_option maxRecDepth 20000
set_option linter.all false
namespace Go.Proofs.YtmafiplddapokaaGreat
section
open Go Go.RowKit
abbrev pp (n:Nat):Value:= .pointer (some ⟨n,0,none⟩)
abbrev iI (x:Int):Value:= .int .i64 x
abbrev si (k:Nat) (x:Int):Slot:=⟨k, .int .i64 x,0, .tt⟩
abbrev sp (k n:Nat):Slot:=⟨k, .pointer (some ⟨n,0,none⟩),0, .tt⟩
abbrev sv (k:Nat) (v:Value):Slot:=⟨k,v,0, .tt⟩
abbrev FP:=Fn Tryz.prog
theorem FE {f:FuncId} {args:List Value} {Pre:List Atom} {Post:Value->List Atom->Prop} {fn:Func} {c:Code} {N:Nat} (tags:List Nat) (hf:Tryz.prog.funcs[f]? =some fn)
  (h:∀(X:Cx) (F:HP),IsCx X Tryz.prog fn.results.toList N F Post->J X [.code c] (a6J keys args tags) (.hp F::Pre)) (hb:fn.body=some c:=by exact rfl) (hN:fn.ntmps=N:=by exact rfl) (hl:Nat.ble args.length N=true:=by exact rfl):Fn Tryz.prog f args Pre Post:=Fn.enter tags hf hb hN hl h
abbrev Ps (V:Value) (M:List Atom):Value->List Atom->Prop:=λv As=>v=V/\As=M
theorem cpq {V:Value} {M:List Atom} {R:Value->List Atom->Prop} (h:R V M):∀v As,(v=V/\As=M)->R v As:=by
 rintro v As ⟨rfl,rfl⟩;exact h
section
variable {X : Cx} {K : List KI} {E : Env} {L : List Atom} {N : Nat} {F : HP} {Post : Value → List Atom → Prop} {rs : List ResultVar}
theorem J.q {K':(Nat->Nat)->List KI} {E':(Nat->Nat)->Env} {L':(Nat->Nat)->List Atom} {ob:(Nat->Nat)->List Prop} (hJ:∀bs,J X (K' bs) (E' bs) (L' bs))
  (hX:IsCx X Tryz.prog rs N F Post:=by assumption) (h:∀bs,Go.Proofs.YtmafiplddapokaaGreat.run tab N bs 400 K E L [] 0=⟨K' bs,E' bs,L' bs,ob bs⟩:=by exactλ_=>rfl) (hob:∀bs,Conj (ob bs):=by intros;(repeat' (first | exact Conj.nil | refine Conj.cons ?_ ?_ | omega | exact hq0 | (simpa using hq0) | (exactλh=>h) | exact rfl | (intro hq;have hq0:=hq;try simp only[f7,j6,d5,i4,c8]at hq) | (simp;done) | (simp;omega) | decide))):J X K E L:=J.run hX tk 400 h hob hJ
theorem J.ru (hX:IsCx X Tryz.prog rs N F Post) {v:Value} {ob:List Prop} (is:List Nat) (hP:Post v (N9 L is)) (h:a7H tab E L rs=some (v,ob):=by exact rfl) (ok:P4 L (0::is)=true:=by exact rfl) (h0:J3 L 0=some (.hp F):=by exact rfl) (hob:Conj ob:=by intros;(repeat' (first | exact Conj.nil | refine Conj.cons ?_ ?_ | omega | exact hq0 | (simpa using hq0) | (exactλh=>h) | exact rfl | (intro hq;have hq0:=hq;try simp only[f7,j6,d5,i4,c8]at hq) | (simp;done) | (simp;omega) | decide))):J X (.code .ret::K) E L:=J.ret hX tk is h hob ok h0 hP
theorem J.cb {ops:Array Oper} {C:Cl} {l:Bool} {i:Nat} {t:PT} {o:Oper} {g:G} {f:FuncId} {vs:List Value} {ob:List Prop} {Pre:List Atom} {Po:Value->List Atom->Prop} {E':Value->Env}
  (c:Fn Tryz.prog f vs Pre Po) (is:List Nat) (hJ:∀v As,Po v As->∃L',a0W L is As=some L'/\Conj (M3 l C L')/\J X (.reg ops C t::K) (E' v) L') (hX:IsCx X Tryz.prog rs N F Post:=by assumption) (ho:J3 ops.toList i=some o:=by exact rfl) (hg:gd ops.toList E o=some g:=by exact rfl) (hgo:g.on=true:=by exact rfl) (hc:a6I E o.op=some (f,vs,ob):=by exact rfl) (hf:K0 Tryz.prog f=true:=by kernel_rfl) (ok:P4 L is=true:=by exact rfl) (hp:N9 L is=Pre:=by exact rfl)
  (hd:∀v,W5 N o.dst v 0 .tt E=some (E' v):=by exactλ_=>rfl) (hob:Conj ob:=by intros;(repeat' (first | exact Conj.nil | refine Conj.cons ?_ ?_ | omega | exact hq0 | (simpa using hq0) | (exactλh=>h) | exact rfl | (intro hq;have hq0:=hq;try simp only[f7,j6,d5,i4,c8]at hq) | (simp;done) | (simp;omega) | decide))):J X (.reg ops C (.alt l i t .non)::K) E L:=J.call hX hf c is 0 ho hg hgo hc hob ok hp hd hJ
theorem J.qn (n:Nat) {K':(Nat->Nat)->List KI} {E':(Nat->Nat)->Env} {L':(Nat->Nat)->List Atom} {ob:(Nat->Nat)->List Prop} (hJ:∀bs,J X (K' bs) (E' bs) (L' bs))
  (hX:IsCx X Tryz.prog rs N F Post:=by assumption) (h:∀bs,Go.Proofs.YtmafiplddapokaaGreat.run tab N bs n K E L [] 0=⟨K' bs,E' bs,L' bs,ob bs⟩:=by exactλ_=>rfl) (hob:∀bs,Conj (ob bs):=by intros;(repeat' (first | exact Conj.nil | refine Conj.cons ?_ ?_ | omega | exact hq0 | (simpa using hq0) | (exactλh=>h) | exact rfl | (intro hq;have hq0:=hq;try simp only[f7,j6,d5,i4,c8]at hq) | (simp;done) | (simp;omega) | decide))):J X K E L:=J.run hX tk n h hob hJ
theorem J.cF {c:Operand} {x y:Code} {k tag:Nat} {b:Bool} (hJ:J X (.code y::K) E L) (hc:ev E c=some ⟨k, .bool b,tag, .tt⟩:=by exact rfl) (hb:b=false:=by first | exact rfl | decide | simp):J X (.code (.cond c x y)::K) E L:=J.cond hc (λh=>by rw[hb]at h;cases h) (λ_=>hJ)
theorem J.cT {c:Operand} {x y:Code} {k tag:Nat} {b:Bool} (hJ:J X (.code x::K) E L) (hc:ev E c=some ⟨k, .bool b,tag, .tt⟩:=by exact rfl) (hb:b=true:=by first | exact rfl | decide | simp):J X (.code (.cond c x y)::K) E L:=J.cond hc (λ_=>hJ) (λh=>by rw[hb]at h;cases h)
theorem J.qd {K' K2:(Nat->Nat)->List KI} {E':(Nat->Nat)->Env} {L':(Nat->Nat)->List Atom} {ob:(Nat->Nat)->List Prop} {c:(Nat->Nat)->Operand} {x y:(Nat->Nat)->Code} {k tag:(Nat->Nat)->Nat} {b:(Nat->Nat)->Bool} (h1:∀bs,b bs=true->J X (.code (x bs)::K2 bs) (E' bs) (L' bs)) (h2:∀bs,b bs=false->J X (.code (y bs)::K2 bs) (E' bs) (L' bs))
  (hX:IsCx X Tryz.prog rs N F Post:=by assumption) (h:∀bs,Go.Proofs.YtmafiplddapokaaGreat.run tab N bs 400 K E L [] 0=⟨K' bs,E' bs,L' bs,ob bs⟩:=by exactλ_=>rfl) (hob:∀bs,Conj (ob bs):=by intros;(repeat' (first | exact Conj.nil | refine Conj.cons ?_ ?_ | omega | exact hq0 | (simpa using hq0) | (exactλh=>h) | exact rfl | (intro hq;have hq0:=hq;try simp only[f7,j6,d5,i4,c8]at hq) | (simp;done) | (simp;omega) | decide))) (hk:∀bs,K' bs= .code (.cond (c bs) (x bs) (y bs))::K2 bs:=by exactλ_=>rfl) (hc:∀bs,ev (E' bs) (c bs)=some ⟨k bs, .bool (b bs),tag bs, .tt⟩:=by exactλ_=>rfl):J X K E L:=J.run hX tk 400 h hob λbs=>by rw[hk bs];exact J.cond (hc bs) (h1 bs) (h2 bs)
theorem J.qF {K' K2:(Nat->Nat)->List KI} {E':(Nat->Nat)->Env} {L':(Nat->Nat)->List Atom} {ob:(Nat->Nat)->List Prop} {c:(Nat->Nat)->Operand} {x y:(Nat->Nat)->Code} {k tag:(Nat->Nat)->Nat} {b:(Nat->Nat)->Bool} (hJ:∀bs,J X (.code (y bs)::K2 bs) (E' bs) (L' bs))
  (hX:IsCx X Tryz.prog rs N F Post:=by assumption) (h:∀bs,Go.Proofs.YtmafiplddapokaaGreat.run tab N bs 400 K E L [] 0=⟨K' bs,E' bs,L' bs,ob bs⟩:=by exactλ_=>rfl) (hob:∀bs,Conj (ob bs):=by intros;(repeat' (first | exact Conj.nil | refine Conj.cons ?_ ?_ | omega | exact hq0 | (simpa using hq0) | (exactλh=>h) | exact rfl | (intro hq;have hq0:=hq;try simp only[f7,j6,d5,i4,c8]at hq) | (simp;done) | (simp;omega) | decide))) (hk:∀bs,K' bs= .code (.cond (c bs) (x bs) (y bs))::K2 bs:=by exactλ_=>rfl) (hc:∀bs,ev (E' bs) (c bs)=some ⟨k bs, .bool (b bs),tag bs, .tt⟩:=by exactλ_=>rfl) (hb:∀bs,b bs=false:=by intro bs;first | exact rfl | decide | simp):J X K E L:=J.run hX tk 400 h hob λbs=>by rw[hk bs];exact J.cond (hc bs) (λh=>by rw[hb]at h;cases h) (λ_=>hJ bs)
theorem J.qT {K' K2:(Nat->Nat)->List KI} {E':(Nat->Nat)->Env} {L':(Nat->Nat)->List Atom} {ob:(Nat->Nat)->List Prop} {c:(Nat->Nat)->Operand} {x y:(Nat->Nat)->Code} {k tag:(Nat->Nat)->Nat} {b:(Nat->Nat)->Bool} (hJ:∀bs,J X (.code (x bs)::K2 bs) (E' bs) (L' bs))
  (hX:IsCx X Tryz.prog rs N F Post:=by assumption) (h:∀bs,Go.Proofs.YtmafiplddapokaaGreat.run tab N bs 400 K E L [] 0=⟨K' bs,E' bs,L' bs,ob bs⟩:=by exactλ_=>rfl) (hob:∀bs,Conj (ob bs):=by intros;(repeat' (first | exact Conj.nil | refine Conj.cons ?_ ?_ | omega | exact hq0 | (simpa using hq0) | (exactλh=>h) | exact rfl | (intro hq;have hq0:=hq;try simp only[f7,j6,d5,i4,c8]at hq) | (simp;done) | (simp;omega) | decide))) (hk:∀bs,K' bs= .code (.cond (c bs) (x bs) (y bs))::K2 bs:=by exactλ_=>rfl) (hc:∀bs,ev (E' bs) (c bs)=some ⟨k bs, .bool (b bs),tag bs, .tt⟩:=by exactλ_=>rfl) (hb:∀bs,b bs=true:=by intro bs;first | exact rfl | decide | simp):J X K E L:=J.run hX tk 400 h hob λbs=>by rw[hk bs];exact J.cond (hc bs) (λ_=>hJ bs) (λh=>by rw[hb]at h;cases h)
theorem J.qr {K':(Nat->Nat)->List KI} {E':(Nat->Nat)->Env} {L':(Nat->Nat)->List Atom} {ob ob2:(Nat->Nat)->List Prop} {K2:(Nat->Nat)->List KI} {v:(Nat->Nat)->Value} (is:List Nat) (hP:∀bs,Post (v bs) (N9 (L' bs) is))
  (hX:IsCx X Tryz.prog rs N F Post:=by assumption) (h:∀bs,Go.Proofs.YtmafiplddapokaaGreat.run tab N bs 400 K E L [] 0=⟨K' bs,E' bs,L' bs,ob bs⟩:=by exactλ_=>rfl) (hob:∀bs,Conj (ob bs):=by intros;(repeat' (first | exact Conj.nil | refine Conj.cons ?_ ?_ | omega | exact hq0 | (simpa using hq0) | (exactλh=>h) | exact rfl | (intro hq;have hq0:=hq;try simp only[f7,j6,d5,i4,c8]at hq) | (simp;done) | (simp;omega) | decide))) (hk:∀bs,K' bs= .code .ret::K2 bs:=by exactλ_=>rfl) (hr:∀bs,a7H tab (E' bs) (L' bs) rs=some (v bs,ob2 bs):=by exactλ_=>rfl) (ok:∀bs,P4 (L' bs) (0::is)=true:=by exactλ_=>rfl) (h0:∀bs,J3 (L' bs) 0=some (.hp F):=by exactλ_=>rfl) (hob2:∀bs,Conj (ob2 bs):=by intros;(repeat' (first | exact Conj.nil | refine Conj.cons ?_ ?_ | omega | exact hq0 | (simpa using hq0) | (exactλh=>h) | exact rfl | (intro hq;have hq0:=hq;try simp only[f7,j6,d5,i4,c8]at hq) | (simp;done) | (simp;omega) | decide))):J X K E L:=J.run hX tk 400 h hob λbs=>by rw[hk bs];exact J.ret hX tk is (hr bs) (hob2 bs) (ok bs) (h0 bs) (hP bs)
theorem J.qc {K' K2:(Nat->Nat)->List KI} {E':(Nat->Nat)->Env} {L':(Nat->Nat)->List Atom} {ob:(Nat->Nat)->List Prop} {ob2:(Nat->Nat)->List Prop} {ops:(Nat->Nat)->Array Oper} {C:(Nat->Nat)->Cl} {l:(Nat->Nat)->Bool} {i:(Nat->Nat)->Nat} {t:(Nat->Nat)->PT} {o:(Nat->Nat)->Oper} {g:(Nat->Nat)->G} {f:FuncId} {vs:List Value} {Pre:List Atom} {Po:Value->List Atom->Prop} {E2:(Nat->Nat)->Value->Env}
  (c:Fn Tryz.prog f vs Pre Po) (is:List Nat) (hJ:∀bs,∀v As,Po v As->∃L2,a0W (L' bs) is As=some L2/\Conj (M3 (l bs) (C bs) L2)/\J X (.reg (ops bs) (C bs) (t bs)::K2 bs) (E2 bs v) L2)
  (hX:IsCx X Tryz.prog rs N F Post:=by assumption) (h:∀bs,Go.Proofs.YtmafiplddapokaaGreat.run tab N bs 400 K E L [] 0=⟨K' bs,E' bs,L' bs,ob bs⟩:=by exactλ_=>rfl) (hob:∀bs,Conj (ob bs):=by intros;(repeat' (first | exact Conj.nil | refine Conj.cons ?_ ?_ | omega | exact hq0 | (simpa using hq0) | (exactλh=>h) | exact rfl | (intro hq;have hq0:=hq;try simp only[f7,j6,d5,i4,c8]at hq) | (simp;done) | (simp;omega) | decide))) (hk:∀bs,K' bs= .reg (ops bs) (C bs) (.alt (l bs) (i bs) (t bs) .non)::K2 bs:=by exactλ_=>rfl) (ho:∀bs,J3 (ops bs).toList (i bs)=some (o bs):=by exactλ_=>rfl) (hg:∀bs,gd (ops bs).toList (E' bs) (o bs)=some (g bs):=by exactλ_=>rfl) (hgo:∀bs,(g bs).on=true:=by exactλ_=>rfl) (hc:∀bs,a6I (E' bs) (o bs).op=some (f,vs,ob2 bs):=by exactλ_=>rfl) (hf:K0 Tryz.prog f=true:=by kernel_rfl) (ok:∀bs,P4 (L' bs) is=true:=by exactλ_=>rfl) (hp:∀bs,N9 (L' bs) is=Pre:=by exactλ_=>rfl)
  (hd:∀bs v,W5 N (o bs).dst v 0 .tt (E' bs)=some (E2 bs v):=by exactλ_ _=>rfl) (hob2:∀bs,Conj (ob2 bs):=by intros;(repeat' (first | exact Conj.nil | refine Conj.cons ?_ ?_ | omega | exact hq0 | (simpa using hq0) | (exactλh=>h) | exact rfl | (intro hq;have hq0:=hq;try simp only[f7,j6,d5,i4,c8]at hq) | (simp;done) | (simp;omega) | decide))):J X K E L:=J.run hX tk 400 h hob λbs=>by rw[hk bs];exact J.call hX hf c is 0 (ho bs) (hg bs) (hgo bs) (hc bs) (hob2 bs) (ok bs) (hp bs) (hd bs) (hJ bs)
theorem J.qp {K' K2:(Nat->Nat)->List KI} {E':(Nat->Nat)->Env} {L':(Nat->Nat)->List Atom} {ob:(Nat->Nat)->List Prop} {ob2:(Nat->Nat)->List Prop} {ops:(Nat->Nat)->Array Oper} {C:(Nat->Nat)->Cl} {l:(Nat->Nat)->Bool} {i:(Nat->Nat)->Nat} {t:(Nat->Nat)->PT} {o:(Nat->Nat)->Oper} {g:(Nat->Nat)->G} {f:FuncId} {vs:List Value} {Pre M:List Atom} {V:Value} {E2:(Nat->Nat)->Value->Env} {L2:(Nat->Nat)->List Atom}
  (c:Fn Tryz.prog f vs Pre (λv As=>v=V/\As=M)) (is:List Nat) (hJ:∀bs,J X (.reg (ops bs) (C bs) (t bs)::K2 bs) (E2 bs V) (L2 bs))
  (hX:IsCx X Tryz.prog rs N F Post:=by assumption) (h:∀bs,Go.Proofs.YtmafiplddapokaaGreat.run tab N bs 400 K E L [] 0=⟨K' bs,E' bs,L' bs,ob bs⟩:=by exactλ_=>rfl) (hob:∀bs,Conj (ob bs):=by intros;(repeat' (first | exact Conj.nil | refine Conj.cons ?_ ?_ | omega | exact hq0 | (simpa using hq0) | (exactλh=>h) | exact rfl | (intro hq;have hq0:=hq;try simp only[f7,j6,d5,i4,c8]at hq) | (simp;done) | (simp;omega) | decide))) (hk:∀bs,K' bs= .reg (ops bs) (C bs) (.alt (l bs) (i bs) (t bs) .non)::K2 bs:=by exactλ_=>rfl) (ho:∀bs,J3 (ops bs).toList (i bs)=some (o bs):=by exactλ_=>rfl) (hg:∀bs,gd (ops bs).toList (E' bs) (o bs)=some (g bs):=by exactλ_=>rfl) (hgo:∀bs,(g bs).on=true:=by exactλ_=>rfl) (hc:∀bs,a6I (E' bs) (o bs).op=some (f,vs,ob2 bs):=by exactλ_=>rfl) (hf:K0 Tryz.prog f=true:=by kernel_rfl) (ok:∀bs,P4 (L' bs) is=true:=by exactλ_=>rfl) (hp:∀bs,N9 (L' bs) is=Pre:=by exactλ_=>rfl)
  (hd:∀bs v,W5 N (o bs).dst v 0 .tt (E' bs)=some (E2 bs v):=by exactλ_ _=>rfl) (hob2:∀bs,Conj (ob2 bs):=by intros;(repeat' (first | exact Conj.nil | refine Conj.cons ?_ ?_ | omega | exact hq0 | (simpa using hq0) | (exactλh=>h) | exact rfl | (intro hq;have hq0:=hq;try simp only[f7,j6,d5,i4,c8]at hq) | (simp;done) | (simp;omega) | decide))) (hl:∀bs,a0W (L' bs) is M=some (L2 bs):=by exactλ_=>rfl) (hs:∀bs,Conj (M3 (l bs) (C bs) (L2 bs)):=by intro bs;first | exact trivial | (repeat' (first | exact trivial | refine⟨rfl,?_⟩))):J X K E L:=J.qc c is (λbs v As ⟨e1,e2⟩=>by subst e1;subst e2;exact⟨_,hl bs,hs bs,hJ bs⟩) hX h hob hk ho hg hgo hc hf ok hp hd hob2
theorem b7c:Tryz.prog.follows .mixedOrders=true:=by kernel_rfl
theorem J.p {K' K2:(Nat->Nat)->List KI} {E':(Nat->Nat)->Env} {L':(Nat->Nat)->List Atom} {ob:(Nat->Nat)->List Prop} {id:(Nat->Nat)->Nat} {ops:(Nat->Nat)->Array Oper} (t:PT) (lt ro:List Nat) (hJ:∀bs,J X (.reg (ops bs) (snap (L' bs) ro) t::K2 bs) (E' bs) (L' bs)) (hX:IsCx X Tryz.prog rs N F Post:=by assumption) (h:∀bs,Go.Proofs.YtmafiplddapokaaGreat.run tab N bs 400 K E L [] 0=⟨K' bs,E' bs,L' bs,ob bs⟩:=by exactλ_=>rfl) (hob:∀bs,Conj (ob bs):=by intros;(repeat' (first | exact Conj.nil | refine Conj.cons ?_ ?_ | omega | exact hq0 | (simpa using hq0) | (exactλh=>h) | exact rfl | (intro hq;have hq0:=hq;try simp only[f7,j6,d5,i4,c8]at hq) | (simp;done) | (simp;omega) | decide))) (hk:∀bs,K' bs= .code (.region (id bs) (ops bs) true)::K2 bs:=by exactλ_=>rfl) (ht:∀bs,t.good (ops bs) lt=true:=by intro bs;kernel_rfl):J X K E L:=J.run hX tk 400 h hob λbs=>by rw[hk bs];exact J.plan t lt ro (by rw[hX.hP];exact b7c) (ht bs) (hJ bs)
theorem J.pq {K' K2:(Nat->Nat)->List KI} {E':(Nat->Nat)->Env} {L':(Nat->Nat)->List Atom} {ob:(Nat->Nat)->List Prop} {id:(Nat->Nat)->Nat} {ops:(Nat->Nat)->Array Oper} {K3:(Nat->Nat)->(Nat->Nat)->List KI} {E3:(Nat->Nat)->(Nat->Nat)->Env} {L3:(Nat->Nat)->(Nat->Nat)->List Atom} {ob3:(Nat->Nat)->(Nat->Nat)->List Prop} (t:PT) (lt ro:List Nat) (hJ:∀bs cs,J X (K3 bs cs) (E3 bs cs) (L3 bs cs)) (hX:IsCx X Tryz.prog rs N F Post:=by assumption) (h:∀bs,Go.Proofs.YtmafiplddapokaaGreat.run tab N bs 400 K E L [] 0=⟨K' bs,E' bs,L' bs,ob bs⟩:=by exactλ_=>rfl) (hob:∀bs,Conj (ob bs):=by intros;(repeat' (first | exact Conj.nil | refine Conj.cons ?_ ?_ | omega | exact hq0 | (simpa using hq0) | (exactλh=>h) | exact rfl | (intro hq;have hq0:=hq;try simp only[f7,j6,d5,i4,c8]at hq) | (simp;done) | (simp;omega) | decide))) (hk:∀bs,K' bs= .code (.region (id bs) (ops bs) true)::K2 bs:=by exactλ_=>rfl) (ht:∀bs,t.good (ops bs) lt=true:=by intro bs;kernel_rfl) (h3:∀bs cs,Go.Proofs.YtmafiplddapokaaGreat.run tab N cs 400 (.reg (ops bs) (snap (L' bs) ro) t::K2 bs) (E' bs) (L' bs) [] 0=⟨K3 bs cs,E3 bs cs,L3 bs cs,ob3 bs cs⟩:=by exactλ_ _=>rfl) (hob3:∀bs cs,Conj (ob3 bs cs):=by intros;(repeat' (first | exact Conj.nil | refine Conj.cons ?_ ?_ | omega | exact hq0 | (simpa using hq0) | (exactλh=>h) | exact rfl | (intro hq;have hq0:=hq;try simp only[f7,j6,d5,i4,c8]at hq) | (simp;done) | (simp;omega) | decide))):J X K E L:=J.p t lt ro (λbs=>J.run hX tk 400 (h3 bs) (hob3 bs) (hJ bs)) hX h hob hk ht
theorem J.pn {K' K2:(Nat->Nat)->List KI} {E':(Nat->Nat)->Env} {L':(Nat->Nat)->List Atom} {ob:(Nat->Nat)->List Prop} {id:(Nat->Nat)->Nat} {ops:(Nat->Nat)->Array Oper} {K3:(Nat->Nat)->(Nat->Nat)->List KI} {E3:(Nat->Nat)->(Nat->Nat)->Env} {L3:(Nat->Nat)->(Nat->Nat)->List Atom} {ob3:(Nat->Nat)->(Nat->Nat)->List Prop} (n:Nat) (t:PT) (lt ro:List Nat) (hJ:∀bs cs,J X (K3 bs cs) (E3 bs cs) (L3 bs cs)) (hX:IsCx X Tryz.prog rs N F Post:=by assumption) (h:∀bs,Go.Proofs.YtmafiplddapokaaGreat.run tab N bs 400 K E L [] 0=⟨K' bs,E' bs,L' bs,ob bs⟩:=by exactλ_=>rfl) (hob:∀bs,Conj (ob bs):=by intros;(repeat' (first | exact Conj.nil | refine Conj.cons ?_ ?_ | omega | exact hq0 | (simpa using hq0) | (exactλh=>h) | exact rfl | (intro hq;have hq0:=hq;try simp only[f7,j6,d5,i4,c8]at hq) | (simp;done) | (simp;omega) | decide))) (hk:∀bs,K' bs= .code (.region (id bs) (ops bs) true)::K2 bs:=by exactλ_=>rfl) (ht:∀bs,t.good (ops bs) lt=true:=by intro bs;kernel_rfl) (h3:∀bs cs,Go.Proofs.YtmafiplddapokaaGreat.run tab N cs n (.reg (ops bs) (snap (L' bs) ro) t::K2 bs) (E' bs) (L' bs) [] 0=⟨K3 bs cs,E3 bs cs,L3 bs cs,ob3 bs cs⟩:=by exactλ_ _=>rfl) (hob3:∀bs cs,Conj (ob3 bs cs):=by intros;(repeat' (first | exact Conj.nil | refine Conj.cons ?_ ?_ | omega | exact hq0 | (simpa using hq0) | (exactλh=>h) | exact rfl | (intro hq;have hq0:=hq;try simp only[f7,j6,d5,i4,c8]at hq) | (simp;done) | (simp;omega) | decide))):J X K E L:=J.p t lt ro (λbs=>J.run hX tk n (h3 bs) (hob3 bs) (hJ bs)) hX h hob hk ht
theorem J.v {ops:Array Oper} {C:Cl} {l:Bool} {i:Nat} {t:PT} {o:Oper} {g:G} {E':Env} (v:Value) (ho:J3 ops.toList i=some o) (hg:gd ops.toList E o=some g)
  (hr:g.on=true->∀a w,EnvOK N E a->Sep L (hl w)->(execOp a.eval o).run Tryz.prog w= .ok (.value v) w) (hJ:J X (.reg ops C t::K) E' L) (hX:IsCx X Tryz.prog rs N F Post:=by assumption) (hd:W5 N o.dst v 0 g E=some E':=by exact rfl) (hst:Conj (M3 l C L):=by trivial):J X (.reg ops C (.alt l i t .non)::K) E L:=J.val hX v 0 ho hg hr hd hst hJ
theorem J.vT {ops:Array Oper} {C:Cl} {q:Bool} {i:Nat} {t:PT} {o:Oper} {g:G} {E':Env} (v:Value) (ho:J3 ops.toList i=some o) (hg:gd ops.toList E o=some g)
  (hr:g.on=true->∀a w,EnvOK N E a->(q=false->CAt C w)->(execOp a.eval o).run Tryz.prog w= .ok (.value v) w) (hJ:J X (.reg ops C t::K) E' L) (hX:IsCx X Tryz.prog rs N F Post:=by assumption) (hd:W5 N o.dst v 0 g E=some E':=by exact rfl):J X (.reg ops C (.take q i t)::K) E L:=J.valT hX v 0 ho hg hr hd hJ
theorem J.qx {K':(Nat->Nat)->List KI} {E':(Nat->Nat)->Env} {L':(Nat->Nat)->List Atom} {ob ob2:(Nat->Nat)->List Prop} {K2:(Nat->Nat)->List KI} {v:(Nat->Nat)->Value} (is:List Nat)
  (hX:IsCx X Tryz.prog rs N F Post:=by assumption) (h:∀bs,Go.Proofs.YtmafiplddapokaaGreat.run tab N bs 400 K E L [] 0=⟨K' bs,E' bs,L' bs,ob bs⟩:=by exactλ_=>rfl) (hob:∀bs,Conj (ob bs):=by intros;(repeat' (first | exact Conj.nil | refine Conj.cons ?_ ?_ | omega | exact hq0 | (simpa using hq0) | (exactλh=>h) | exact rfl | (intro hq;have hq0:=hq;try simp only[f7,j6,d5,i4,c8]at hq) | (simp;done) | (simp;omega) | decide))) (hk:∀bs,K' bs= .code .ret::K2 bs:=by exactλ_=>rfl) (hr:∀bs,a7H tab (E' bs) (L' bs) rs=some (v bs,ob2 bs):=by exactλ_=>rfl) (ok:∀bs,P4 (L' bs) (0::is)=true:=by exactλ_=>rfl) (h0:∀bs,J3 (L' bs) 0=some (.hp F):=by exactλ_=>rfl) (hob2:∀bs,Conj (ob2 bs):=by intros;(repeat' (first | exact Conj.nil | refine Conj.cons ?_ ?_ | omega | exact hq0 | (simpa using hq0) | (exactλh=>h) | exact rfl | (intro hq;have hq0:=hq;try simp only[f7,j6,d5,i4,c8]at hq) | (simp;done) | (simp;omega) | decide))) (hP:∀bs,Post (v bs) (N9 (L' bs) is):=by exactλ_=>⟨rfl,rfl⟩):J X K E L:=J.qr is hP hX h hob hk hr ok h0 hob2
theorem J.f {v:Value} {ob:List Prop} (is:List Nat) (hP:Post v (N9 L is)) (hX:IsCx X Tryz.prog rs N F Post:=by assumption) (h:a7H tab E L rs=some (v,ob):=by exact rfl) (ok:P4 L (0::is)=true:=by exact rfl) (h0:J3 L 0=some (.hp F):=by exact rfl) (hob:Conj ob:=by intros;(repeat' (first | exact Conj.nil | refine Conj.cons ?_ ?_ | omega | exact hq0 | (simpa using hq0) | (exactλh=>h) | exact rfl | (intro hq;have hq0:=hq;try simp only[f7,j6,d5,i4,c8]at hq) | (simp;done) | (simp;omega) | decide))):J X [] E L:=J.fin hX tk is h hob ok h0 hP
theorem J.o {α:Type} {f:α->List Atom} {L':α->List Atom} (i:Nat) (h:∀x,J X K E (L' x)) (ok:P4 L [i]=true:=by exact rfl) (hp:N9 L [i]=[exA f]:=by exact rfl) (hL:∀x,a0W L [i] (f x)=some (L' x):=by exactλ_=>rfl):J X K E L:=J.open_ i ok hp hL h
theorem J.cl {α:Type} (f:α->List Atom) {L':List Atom} (x:α) (is:List Nat) (h:J X K E L') (ok:P4 L is=true:=by exact rfl) (hp:N9 L is=f x:=by exact rfl) (hL:a0W L is [exA f]=some L':=by exact rfl):J X K E L:=J.close x is ok hp hL h
theorem J.s1 {ops:Array Oper} {C:Cl} {lt:Bool} {i:Nat} {t:PT} {o:Oper} {g:G} {ty0:TypeId} {x y:Operand} {k1 k2 t1 t2 b off ty:Nat} {g1 g2:G} {v:Value} {cs:List Value} {ti:TI} {E':Value->Env} {L2:List Atom} (is:Nat) (cs':List Value) (hlt:off<cs.length) (hcs:cs.set off v=cs') (hJ:J X (.reg ops C t::K) (E' undef) L2) (hX:IsCx X Tryz.prog rs N F Post:=by assumption)
  (ho:J3 ops.toList i=some o:=by exact rfl) (hg:gd ops.toList E o=some g:=by exact rfl) (hgo:g.on=true:=by exact rfl) (hop:o.op= .store ty0 x y:=by exact rfl) (hx:ev E x=some ⟨k1, .pointer (some ⟨b,off,none⟩),t1,g1⟩:=by exact rfl) (v1:g1.on=true:=by exact rfl) (hy:ev E y=some ⟨k2,v,t2,g2⟩:=by exact rfl) (v2:g2.on=true:=by exact rfl)
  (hti:tab.get ty0=some ti:=by exact rfl) (hsz:Nat.beq ti.size 1=true:=by exact rfl) (hc:v.cells.toList=[v]:=by exact rfl) (h1:v.oneCell'=true:=by exact rfl) (hL:J3 L is=some (.pt b ty cs):=by exact rfl) (hL2:U3 L is (.pt b ty cs')=some L2:=by exact rfl)
  (hd:∀v,W5 N o.dst v 0 .tt E=some (E' v):=by exactλ_=>rfl) (hs:Conj (M3 lt C L2):=by first | exact trivial | (repeat' (first | exact trivial | refine⟨rfl,?_⟩))):J X (.reg ops C (.alt lt i t .non)::K) E L:=J.store1 hX tk is ho hg hgo hop hx v1 hy v2 hti hsz hc h1 hL hlt cs' hcs hL2 hd ⟨hs,hJ⟩
theorem J.mk {ops:Array Oper} {C:Cl} {lt:Bool} {i:Nat} {t:PT} {o:Oper} {g:G} {st e by_ size:Nat} {x y:Operand} {k1 k2 t1 t2 n s1 b1:Nat} {kl kc:IntKind} {g1 g2:G} {z1 z:List Value} {td:TD} {E':Value->Env} {L2:Nat->List Atom} (tag:Nat) (hJ:∀b,J X (.reg ops C t::K) (E' (.slice (some ⟨b,0,none⟩) n n)) (L2 b)) (hX:IsCx X Tryz.prog rs N F Post:=by assumption)
  (ho:J3 ops.toList i=some o:=by exact rfl) (hg:gd ops.toList E o=some g:=by exact rfl) (hgo:g.on=true:=by exact rfl) (hop:o.op= .makeSlice st x y:=by exact rfl) (hx:ev E x=some ⟨k1, .int kl n,t1,g1⟩:=by exact rfl) (v1:g1.on=true:=by exact rfl) (hy:ev E y=some ⟨k2, .int kc n,t2,g2⟩:=by exact rfl) (v2:g2.on=true:=by exact rfl)
  (hst:tab.get st=some ⟨.slice e size,s1,z1,b1⟩:=by exact rfl) (he:tab.get e=some ⟨td,size,z,by_⟩:=by exact rfl) (hzs:Nat.beq z.length size=true:=by exact rfl) (h63:n<=maxLen:=by first | decide | (simp only[maxLen];omega)) (hbytes:by_*n<=281474976710656:=by first | omega | decide)
  (hL2:∀b,a3n b2M L (.pt b e (List.replicate n z).flatten)=some (L2 b,tag):=by exactλ_=>rfl) (hd:∀v,W5 N o.dst v tag .tt E=some (E' v):=by exactλ_=>rfl) (hs:∀b,Conj (M3 lt C (L2 b)):=by intro b;first | exact trivial | (repeat' (first | exact trivial | refine⟨rfl,?_⟩))):J X (.reg ops C (.alt lt i t .non)::K) E L:=J.makeMany hX tk tag ho hg hgo hop hx v1 hy v2 hst he hzs h63 hbytes hL2 hd λb=>⟨hs b,hJ b⟩
theorem J.ap {ops:Array Oper} {C:Cl} {lt:Bool} {i:Nat} {t:PT} {o:Oper} {g:G} {x y:Operand} {st e size by_:Nat} {ks tgs:Nat} {gs:G} {a:Option Nat} {n cap:Nat} {xs ys:List Value} {ky tgy:Nat} {gy:G} {b m c ty:Nat} {cs:List Value} {s1 b1:Nat} {z1:List Value} {E':Value->Env} {L':Option Nat->Nat->List Atom} {td:TD} {z:List Value} (is iy tag:Nat) (hys:xs++cs=ys) (hJ:∀a' cap',J X (.reg ops C t::K) (E' (slv a' (n+m) cap')) (L' a' cap')) (hX:IsCx X Tryz.prog rs N F Post:=by assumption)
  (ho:J3 ops.toList i=some o:=by exact rfl) (hg:gd ops.toList E o=some g:=by exact rfl) (hgo:g.on=true:=by exact rfl) (hop:o.op= .call ⟨.builtin .append,#[x,y],#[st,st]⟩:=by exact rfl)
  (hx:ev E x=some ⟨ks,slv a n cap,tgs,gs⟩:=by exact rfl) (hvx:gs.on=true:=by exact rfl) (hy:ev E y=some ⟨ky, .slice (some ⟨b,0,none⟩) m c,tgy,gy⟩:=by exact rfl) (hvy:gy.on=true:=by exact rfl)
  (hLs:J3 L is=some (m9 e size a n cap xs):=by exact rfl) (hLy:J3 L iy=some (.pt b ty cs):=by exact rfl) (hst:tab.get st=some ⟨.slice e size,s1,z1,b1⟩:=by exact rfl) (he:tab.get e=some ⟨td,size,z,by_⟩:=by exact rfl) (hz:Nat.beq z.length size=true:=by exact rfl)
  (hsz:Nat.blt 0 size=true:=by exact rfl) (hcs:cs.length=m*size:=by exact rfl) (h1:cs.all (·.oneCell')=true:=by exact rfl) (h63:n+m<=maxLen:=by first | decide | (simp only[maxLen];omega)) (hbytes:(n+m)*by_<=140737488355328:=by first | omega | decide)
  (hd:∀v,W5 N o.dst v tag .tt E=some (E' v):=by exactλ_=>rfl) (hL:∀a' cap',U3 L is (m9 e size a' (n+m) cap' ys)=some (L' a' cap'):=by exactλ_ _=>rfl) (hs:∀a' cap',Conj (M3 lt C (L' a' cap')):=by intro _ _;first | exact trivial | (repeat' (first | exact trivial | refine⟨rfl,?_⟩))):J X (.reg ops C (.alt lt i t .non)::K) E L:=
 J.append hX tk is iy tag ho hg hgo hop hx hvx hy hvy hLs hLy hst he hz hsz hcs h1 h63 hbytes hd λa' cap'=>⟨L' a' cap',by rw[hys];exact hL a' cap',hs a' cap',hJ a' cap'⟩
theorem J.cO {g:Nat} {ys:List Value} {L':List Atom} (e size n cap:Nat) (xs:List Value) (i:Nat) (h:J X K E L') (ok:P4 L [i]=true:=by exact rfl) (hp:N9 L [i]=[.pt g e ys]:=by exact rfl) (h0:xs.length=n*size:=by exact rfl) (h2:n<=cap:=by decide) (h3:cap<=maxLen:=by decide) (h4:ys.length=cap*size:=by exact rfl) (h5:ys.take (n*size)=xs:=by exact rfl) (hL:a0W L [i] [m9 e size (some g) n cap xs]=some L':=by exact rfl):J X K E L:=J.closeOwn i ok hp h0 h2 h3 h4 h5 hL h
theorem J.sN {ops:Array Oper} {C:Cl} {lt:Bool} {i:Nat} {t:PT} {o:Oper} {g:G} {ty0:TypeId} {x y:Operand} {k1 k2 t1 t2 b off ty:Nat} {g1 g2:G} {v:Value} {cs:List Value} {ti:TI} {E':Value->Env} {L2:List Atom} (vs:List Value) (is:Nat) (cs':List Value) (hlt:off+vs.length<=cs.length) (hcs:cs.take off++vs++cs.drop (off+vs.length)=cs') (hJ:J X (.reg ops C t::K) (E' undef) L2) (hX:IsCx X Tryz.prog rs N F Post:=by assumption)
  (ho:J3 ops.toList i=some o:=by exact rfl) (hg:gd ops.toList E o=some g:=by exact rfl) (hgo:g.on=true:=by exact rfl) (hop:o.op= .store ty0 x y:=by exact rfl) (hx:ev E x=some ⟨k1, .pointer (some ⟨b,off,none⟩),t1,g1⟩:=by exact rfl) (v1:g1.on=true:=by exact rfl) (hy:ev E y=some ⟨k2,v,t2,g2⟩:=by exact rfl) (v2:g2.on=true:=by exact rfl)
  (hti:tab.get ty0=some ti:=by exact rfl) (hc:v.cells.toList=vs:=by exact rfl) (hsz:ti.size=vs.length:=by exact rfl) (h1:vs.all (·.oneCell')=true:=by exact rfl) (hL:J3 L is=some (.pt b ty cs):=by exact rfl) (hL2:U3 L is (.pt b ty cs')=some L2:=by exact rfl)
  (hd:∀v,W5 N o.dst v 0 .tt E=some (E' v):=by exactλ_=>rfl) (hs:Conj (M3 lt C L2):=by first | exact trivial | (repeat' (first | exact trivial | refine⟨rfl,?_⟩))):J X (.reg ops C (.alt lt i t .non)::K) E L:=J.storeN hX tk is ho hg hgo hop hx v1 hy v2 hti hc hsz h1 hL hlt cs' hcs hL2 hd ⟨hs,hJ⟩
theorem stq {p:Prop} (h:p:=by first | exact trivial | (repeat' (first | exact trivial | refine⟨rfl,?_⟩))):p:=h
theorem J.n {α:Type} {I:α->Prop} {Ei:α->Env} {Li:α->List Atom} {μ:α->Nat} {m:Nat} (x:α) (h1:I x) (h2:μ x<m) (is:List Nat) (ok:P4 L is=true:=by exact rfl) (hL:N9 L is=Li x:=by exact rfl) (h3:Conj (a8M E (Ei x)):=by intros;(repeat' (first | exact Conj.nil | refine Conj.cons ?_ ?_ | omega | exact hq0 | (simpa using hq0) | (exactλh=>h) | exact rfl | (intro hq;have hq0:=hq;try simp only[f7,j6,d5,i4,c8]at hq) | (simp;done) | (simp;omega) | decide))):
  J X (.stop (λa w=>Ext X.w0 w/\∃x',I x'/\μ x'<m/\EnvOK X.n (Ei x') a/\Sep (Li x') (hl w))::K) E L:=J.nextS x h1 h2 is h3 ok hL
theorem J.l {c:Code} {α:Type} (I:α->Prop) (Ei:α->Env) (is:List Nat) (As:α->List Atom) (μ:α->Nat) (x0:α) {Li:α->List Atom} (h0:I x0)
  (round:∀x,I x->J X (.code c:: .stop (λa w=>Ext X.w0 w/\∃x',I x'/\μ x'<μ x/\EnvOK X.n (Ei x') a/\Sep (Li x') (hl w))::K) (Ei x) (Li x)) (ok:P4 L is=true:=by exact rfl) (hA:N9 L is=As x0:=by exact rfl) (hLi:∀x,a0W L is (As x)=some (Li x):=by exactλ_=>rfl) (hE:Conj (a8M E (Ei x0)):=by intros;(repeat' (first | exact Conj.nil | refine Conj.cons ?_ ?_ | omega | exact hq0 | (simpa using hq0) | (exactλh=>h) | exact rfl | (intro hq;have hq0:=hq;try simp only[f7,j6,d5,i4,c8]at hq) | (simp;done) | (simp;omega) | decide))):J X (.code (.loop c)::K) E L:=J.loopN I Ei is As μ x0 h0 hE ok hA hLi round
end
def a1z (q:Nat) (l:List A3):Atom:=exA λmr:Nat=>[.pt q 169 [.map (some mr)],U8 mr a3v (Y0 l)]
theorem b8I:Tryz.prog.underlying 167=some (.map 39 4):=by kernel_rfl
theorem b1q:FP 83 [] [] (λv As=>∃q,v=pp q/\As=[a1z q []]):=by
 refine FE [] Tryz.func83 λX F hX=>?_;refine J.q λbs=>?_;refine J.turn1 [1] rfl (As:=[U8 (bs 0) a3v (Y0 [])]) (λh s=>?_) rfl ?_
 ·refine⟨λ_=>0,λi A hA=>?_⟩;cases i with
  | zero=>simp at hA;subst hA;exact⟨#[],0,res_some.2 ⟨rfl,s.get (i:=0) rfl⟩,rfl,by simp,by simp⟩
  | succ k=>simp at hA
 refine J.cl (λmr:Nat=>[.pt (bs 1) 169 [.map (some mr)],U8 mr a3v (Y0 [])]) (bs 0) [2,1] ?_;refine J.qr [2] λ_=>?_;exact⟨bs 1,rfl,rfl⟩
theorem c0k (q:Nat) (l:List A3) (x y z:Int):FP 240 [pp q, .agg #[iI x,iI y,iI z]] [a1z q l]
  (Ps (.tuple #[.bool (decide ((x,y,z)∈l)), .bool (decide ((x,y,z)∈l))]) [a1z q l]):=by
 refine FE [2,0] Tryz.func240 λX F hX=>?_;refine J.o (α:=Nat) 1 λmr=>?_;refine J.qF λ_=>?_;refine J.pq (.of [0,4,8,13,17,21,24,28,32,36,40]) [10] [1,2,3] λ_ _=>?_;refine J.vT (.tuple #[.bool (decide ((x,y,z)∈l)), .bool (decide ((x,y,z)∈l))]) rfl rfl (λ_ a w he hC=>?_) ?_
 ·refine(I5 (key:=(x,y,z)) a0T b8I (z:= .bool false) (λw=>by kernel_rfl) rfl rfl rfl rfl he rfl rfl (hC rfl _ (B6 (i:=2) rfl))).trans ?_;simp only[(a6K l _).1,(a6K l _).2]
 refine J.cl (λmr:Nat=>[.pt q 169 [.map (some mr)],U8 mr a3v (Y0 l)]) mr [1,2] ?_;exact J.qx [1]
theorem c1P (q:Nat) (l:List A3) (x y z:Int):FP 54 [pp q, .agg #[iI x,iI y,iI z], .bool true] [a1z q l]
  (Ps (.tuple #[]) [a1z q (b5F l (x,y,z))]):=by
 refine FE [2,0,0] Tryz.func54 λX F hX=>?_;refine J.o (α:=Nat) 1 λmr=>?_;refine J.qT λ_=>?_;refine J.pq (.of [0,4,8,13,17,20,27]) [6] [1,2,3] λ_ _=>?_;refine J.mapUpdate hX a0T b8I (x,y,z) 2 rfl rfl rfl rfl rfl rfl rfl rfl rfl rfl rfl rfl (λ_=>rfl) (by rw[b3n];rfl) ⟨trivial,?_⟩;refine J.cl (λmr:Nat=>[.pt q 169 [.map (some mr)],U8 mr a3v (Y0 (b5F l (x,y,z)))]) mr [1,2] ?_;refine J.q λ_=>?_;refine J.f [1] ?_;exact⟨rfl,rfl⟩
theorem b6t (q:Nat) (l:List A3) (x y z:Int):FP 221 [pp q, .agg #[iI x,iI y,iI z]] [a1z q l]
  (Ps (.bool (decide ((x,y,z)∈l))) [a1z q (l.erase (x,y,z))]):=by
 refine FE [2,0] Tryz.func221 λX F hX=>?_;refine J.qp (c0k q l x y z) [1] λ_=>?_;refine J.qd (λ_ h=>?_) λ_ h=>?_
 ·refine J.o (α:=Nat) 1 λmr=>?_;refine J.pq (.of [0,4,8,13,17,22]) [] [1,2] λ_ _=>?_;refine J.delete hX a0T b8I (x,y,z) 3 rfl rfl rfl rfl rfl rfl rfl rfl rfl rfl (λ_=>rfl) (by rw[b3q];rfl) ⟨⟨rfl,rfl,trivial⟩,?_⟩;refine J.cl (λmr:Nat=>[.pt q 169 [.map (some mr)],U8 mr a3v (Y0 (l.erase (x,y,z)))]) mr [1,3] ?_;exact J.qx [1]
 ·refine J.qr [1] λ_=>?_;simp only[c8]at h;exact⟨rfl,by rw[List.erase_of_not_mem h];rfl⟩
end
section
namespace Bt
def bits (u w:Nat):List Bool:=(List.range w).map λi=>u.testBit (w-1-i)
def byteAt (l:List Bool) (j:Nat):Nat:=
 (l.getD j false).toNat*128+(l.getD (j+1) false).toNat*64+(l.getD (j+2) false).toNat*32+(l.getD (j+3) false).toNat*16+
 (l.getD (j+4) false).toNat*8+(l.getD (j+5) false).toNat*4+(l.getD (j+6) false).toNat*2+(l.getD (j+7) false).toNat
def pack (l:List Bool):List UInt8:=(List.range ((l.length+7)/8)).map λj=>UInt8.ofNat (byteAt l (8*j))
theorem length_bits (u w:Nat):(bits u w).length=w:=by simp[bits]
theorem byteAt_lt (l:List Bool) (j:Nat):byteAt l j<256:=by
 unfold byteAt;have h:∀b:Bool,b.toNat<=1:=λb=>a1Y b;have h0:=h (l.getD j false);have h1:=h (l.getD (j+1) false);have h2:=h (l.getD (j+2) false);have h3:=h (l.getD (j+3) false);have h4:=h (l.getD (j+4) false);have h5:=h (l.getD (j+5) false);have h6:=h (l.getD (j+6) false);have h7:=h (l.getD (j+7) false);omega
theorem length_pack (l:List Bool):(pack l).length=(l.length+7)/8:=by simp[pack]
theorem pack_get (l:List Bool) (j:Nat) (h:j<(l.length+7)/8):(pack l)[j]? =some (UInt8.ofNat (byteAt l (8*j))):=by
 simp[pack,h]
theorem byteAt_out (l:List Bool) (j:Nat) (h:l.length<=j):byteAt l j=0:=by
 have g:∀k,l.length<=k->l.getD k false=false:=λk hk=>by simp[d7,j5 hk]
 unfold byteAt;rw[g _ h,g _ (by omega),g _ (by omega),g _ (by omega),g _ (by omega),g _ (by omega),g _ (by omega),g _ (by omega)];rfl
theorem getD_snoc (l:List Bool) (x:Bool) (k:Nat):(l++[x]).getD k false=if k=l.length then x else l.getD k false:=by
 simp only[d7,I9]
 by_cases h:k<l.length
 ·rw[d8 h,d6 (by omega)]
 ·rw[d6 h]
  by_cases e:k=l.length
  ·subst e;simp
  ·rw[d6 e,j5 (by simp;omega),j5 (by omega)]
theorem byteAt_snoc (l:List Bool) (x:Bool) (j:Nat):byteAt (l++[x]) j=byteAt l j+(if j<=l.length/\l.length<j+8 then x.toNat*2^(7-(l.length-j))else 0):=by
 have g:∀k,l.length<=k->l.getD k false=false:=λk hk=>by simp[d7,j5 hk]
 by_cases h:j<=l.length/\l.length<j+8
 ·rw[d8 h];obtain⟨i,hi⟩:∃i,l.length=j+i:=⟨l.length-j,by omega⟩;have hi8:i<8:=by omega
  rw[show l.length-j=i from by omega];unfold byteAt;simp only[getD_snoc]
  match i,hi8 with
  | 0,_=>rw[g j (by omega),d8 (by omega),d6 (by omega),d6 (by omega),d6 (by omega),d6 (by omega),d6 (by omega),d6 (by omega),d6 (by omega)];simp;omega
  | 1,_=>rw[g (j+1) (by omega),d6 (by omega),d8 (by omega),d6 (by omega),d6 (by omega),d6 (by omega),d6 (by omega),d6 (by omega),d6 (by omega)];simp;omega
  | 2,_=>rw[g (j+2) (by omega),d6 (by omega),d6 (by omega),d8 (by omega),d6 (by omega),d6 (by omega),d6 (by omega),d6 (by omega),d6 (by omega)];simp;omega
  | 3,_=>rw[g (j+3) (by omega),d6 (by omega),d6 (by omega),d6 (by omega),d8 (by omega),d6 (by omega),d6 (by omega),d6 (by omega),d6 (by omega)];simp;omega
  | 4,_=>rw[g (j+4) (by omega),d6 (by omega),d6 (by omega),d6 (by omega),d6 (by omega),d8 (by omega),d6 (by omega),d6 (by omega),d6 (by omega)];simp;omega
  | 5,_=>rw[g (j+5) (by omega),d6 (by omega),d6 (by omega),d6 (by omega),d6 (by omega),d6 (by omega),d8 (by omega),d6 (by omega),d6 (by omega)];simp;omega
  | 6,_=>rw[g (j+6) (by omega),d6 (by omega),d6 (by omega),d6 (by omega),d6 (by omega),d6 (by omega),d6 (by omega),d8 (by omega),d6 (by omega)];simp;omega
  | 7,_=>rw[g (j+7) (by omega),d6 (by omega),d6 (by omega),d6 (by omega),d6 (by omega),d6 (by omega),d6 (by omega),d6 (by omega),d8 (by omega)];simp
 ·rw[d6 h];unfold byteAt;simp only[getD_snoc];rw[d6 (by omega),d6 (by omega),d6 (by omega),d6 (by omega),d6 (by omega),d6 (by omega),d6 (by omega),d6 (by omega)];simp

def packZ (l:List Bool):List UInt8:=if l.length % 8=0 then pack l++[0]else pack l
theorem length_packZ (l:List Bool):(packZ l).length=l.length/8+1:=by
 unfold packZ;split
 ·simp[length_pack];omega
 ·rw[length_pack];omega
theorem packZ_get (l:List Bool) (j:Nat) (h:j<l.length/8+1):(packZ l)[j]? =some (UInt8.ofNat (byteAt l (8*j))):=by
 unfold packZ;split
 ·by_cases e:j<(pack l).length
  ·rw[D8 e,pack_get _ _ (by rw[length_pack]at e;exact e)]
  ·have:j=(pack l).length:=by rw[length_pack]at e ⊢;omega
   subst this;rw[B2 (i7 _),Z7,byteAt_out _ _ (by rw[length_pack];omega)];rfl
 ·exact pack_get _ _ (by omega)
theorem pack_snoc (l:List Bool) (x:Bool):pack (l++[x])=(packZ l).set (l.length/8) (UInt8.ofNat (byteAt l (8*(l.length/8))+x.toNat*2^(7-l.length % 8))):=by
 apply x9;intro j;have hl:(pack (l++[x])).length=l.length/8+1:=by rw[length_pack];simp;omega
 by_cases h:j<l.length/8+1
 ·rw[pack_get _ _ (by simp;omega),z8,length_packZ,byteAt_snoc]
  by_cases e:l.length/8=j
  ·rw[d8 e,d8 (by omega),d8 (by omega),<- e,show l.length-8*(l.length/8)=l.length % 8 from by omega]
  ·rw[d6 e,d6 (by omega),packZ_get _ _ h];simp
 ·rw[j5 (by omega),j5 (by simp[length_packZ];omega)]
theorem byte_or_dec:∀i,i<8->∀h,h<2^i->(h*2^(8-i))||| (2^(7-i))=h*2^(8-i)+2^(7-i):=by decide+kernel
theorem byteAt_last (l:List Bool):∃h,h<2^(l.length % 8)/\byteAt l (8*(l.length/8))=h*2^(8-l.length % 8):=by
 have g:∀k,l.length<=k->l.getD k false=false:=λk hk=>by simp[d7,j5 hk]
 have hb:∀b:Bool,b.toNat<=1:=λb=>a1Y b;generalize hj:8*(l.length/8)=j;have h8:l.length % 8<8:=a3t _ (by omega);have hn:l.length=j+l.length % 8:=by omega
 have h0:=hb (l.getD j false);have h1:=hb (l.getD (j+1) false);have h2:=hb (l.getD (j+2) false);have h3:=hb (l.getD (j+3) false);have h4:=hb (l.getD (j+4) false);have h5:=hb (l.getD (j+5) false);have h6:=hb (l.getD (j+6) false);generalize l.length % 8=i at*;unfold byteAt
 match i,h8 with
 | 0,_=>rw[g j (by omega),g (j+1) (by omega),g (j+2) (by omega),g (j+3) (by omega),g (j+4) (by omega),g (j+5) (by omega),g (j+6) (by omega),g (j+7) (by omega)];exact⟨0,by decide,rfl⟩
 | 1,_=>rw[g (j+1) (by omega),g (j+2) (by omega),g (j+3) (by omega),g (j+4) (by omega),g (j+5) (by omega),g (j+6) (by omega),g (j+7) (by omega)];exact⟨(l.getD j false).toNat,by omega,by simp⟩
 | 2,_=>rw[g (j+2) (by omega),g (j+3) (by omega),g (j+4) (by omega),g (j+5) (by omega),g (j+6) (by omega),g (j+7) (by omega)];exact⟨(l.getD j false).toNat*2+(l.getD (j+1) false).toNat,by omega,by simp;omega⟩
 | 3,_=>rw[g (j+3) (by omega),g (j+4) (by omega),g (j+5) (by omega),g (j+6) (by omega),g (j+7) (by omega)];exact⟨(l.getD j false).toNat*4+(l.getD (j+1) false).toNat*2+(l.getD (j+2) false).toNat,by omega,by simp;omega⟩
 | 4,_=>rw[g (j+4) (by omega),g (j+5) (by omega),g (j+6) (by omega),g (j+7) (by omega)];exact⟨(l.getD j false).toNat*8+(l.getD (j+1) false).toNat*4+(l.getD (j+2) false).toNat*2+(l.getD (j+3) false).toNat,by omega,by simp;omega⟩
 | 5,_=>rw[g (j+5) (by omega),g (j+6) (by omega),g (j+7) (by omega)];exact⟨(l.getD j false).toNat*16+(l.getD (j+1) false).toNat*8+(l.getD (j+2) false).toNat*4+(l.getD (j+3) false).toNat*2+(l.getD (j+4) false).toNat,by omega,by simp;omega⟩
 | 6,_=>rw[g (j+6) (by omega),g (j+7) (by omega)];exact⟨(l.getD j false).toNat*32+(l.getD (j+1) false).toNat*16+(l.getD (j+2) false).toNat*8+(l.getD (j+3) false).toNat*4+(l.getD (j+4) false).toNat*2+(l.getD (j+5) false).toNat,by omega,by simp;omega⟩
 | 7,_=>rw[g (j+7) (by omega)];exact⟨(l.getD j false).toNat*64+(l.getD (j+1) false).toNat*32+(l.getD (j+2) false).toNat*16+(l.getD (j+3) false).toNat*8+(l.getD (j+4) false).toNat*4+(l.getD (j+5) false).toNat*2+(l.getD (j+6) false).toNat,by omega,by simp;omega⟩
theorem byte_or (l:List Bool) (x:Bool):byteAt l (8*(l.length/8))||| x.toNat*2^(7-l.length % 8)=byteAt l (8*(l.length/8))+x.toNat*2^(7-l.length % 8):=by
 obtain⟨h,hh,e⟩:=byteAt_last l;cases x
 ·simp
 ·rw[e];simpa using byte_or_dec (l.length % 8) (a3t _ (by omega)) h hh
theorem take_bits_succ (u n k:Nat) (h:k<n):(bits u n).take (k+1)=(bits u n).take k++[u.testBit (n-1-k)]:=by
 rw[List.take_succ_eq_append_getElem (by rw[length_bits];exact h)];simp[bits]
def bitAt (b:List UInt8) (j:Nat):Bool:=(b.getD (j/8) 0).toNat.testBit (7-j % 8)
def numAt (b:List UInt8) (k:Nat):Nat->Nat
 | 0=>0
 | w+1=>2*numAt b k w+(bitAt b (k+w)).toNat
theorem numAt_lt (b:List UInt8) (k w:Nat):numAt b k w<2^w:=by
 induction w with
 | zero=>simp[numAt]
 | succ w ih=>
  have:=a1Y (bitAt b (k+w));rw[numAt,Nat.pow_succ];omega
end Bt
end
section
structure Sh where
 data:List UInt8
 role:Int
 lpn:Int
 seq:Int
 kind:Int
 block:Int
 row:Int
 mask:Int
 deriving DecidableEq
def zeros16:List UInt8:=List.replicate 16 0
def Sh.zero:Sh:=⟨zeros16,0,0,0,0,0,0,0⟩
namespace S
def entry (s:Sh):Bool:=
 if s.role=1 then true
 else if s.role=2\/s.role=4 then decide (s.data=zeros16)
 else if s.role=3 then decide (s.data=zeros16)&&decide (s.lpn=0)&&decide (s.seq=0)
 else false
def inB (n a:Int):Bool:=decide (0<=n)&&decide (n<=a)
def place (s:Sh):Bool:=inB s.block 15&&inB s.row 7&&decide (2<=L.count s.mask)
def numbers (s:Sh):Bool:=inB s.seq 1099511627775&&inB s.lpn 65535&&inB s.role 255
def may (s:Sh):Bool:=place s&&numbers s&&(decide (s.kind=2)||(decide (s.kind=1)&&entry s))
def meta_ (role lpn seq:Int):Nat:=(role % 256).toNat*72057594037927936+((lpn % 65536).toNat*1099511627776+(seq % 1099511627776).toNat)
def head (s:Sh):List Bool:=Bt.bits (meta_ s.role s.lpn s.seq) 64++Bt.bits s.block.toNat 8++Bt.bits s.row.toNat 8++Bt.bits s.mask.toNat 8++Bt.bits s.kind.toNat 8
def put (s:Sh):List UInt8:=s.data++Bt.pack (head s++Bt.bits (K.sum (s.data++Bt.pack (head s))) 32)
def fields (p:List UInt8):Sh:=
 let b:=p.drop 16
 let m:=Bt.numAt b 0 64
 ⟨p.take 16,(m/72057594037927936:Nat),(m/1099511627776 % 65536:Nat),(m % 1099511627776:Nat),Bt.numAt b 88 8,Bt.numAt b 64 8,Bt.numAt b 72 8,Bt.numAt b 80 8⟩
def get (p:List UInt8):Option Sh:=if may (fields p)/\put (fields p)=p then some (fields p)else none
def getV (p:List UInt8):Sh:=(get p).getD Sh.zero
def getE (p:List UInt8):Int:=if(get p).isSome then 0 else 1
theorem may_bounds (s:Sh) (h:may s=true):(0<=s.block/\s.block<=15)/\(0<=s.row/\s.row<=7)/\(0<=s.mask/\s.mask<=255)/\(1<=s.kind/\s.kind<=2):=by
 simp only[may,place,inB,f7,d5,j6]at h;have hm:0<=s.mask/\s.mask<=255:=by
  by_cases hh:0<=s.mask/\s.mask<256
  ·omega
  ·have:=L.count_no s.mask hh;omega
 omega
theorem length_head (s:Sh):(head s).length=96:=by simp[head,Bt.length_bits]
theorem length_put (s:Sh) (h:s.data.length=16):(put s).length=32:=by simp[put,Bt.length_pack,length_head,Bt.length_bits,h]
theorem meta_lt (role lpn seq:Int):meta_ role lpn seq<18446744073709551616:=by unfold meta_;omega
end S
end
section
abbrev A3':=Int×Int×Int
structure NCell where
 p:List UInt8
 lost:Bool
 turned:Bool
structure NBlock where
 cells:List NCell
 worn:Int
 fails:Bool
 met:Bool
structure Nand where
 dies:Nat
 blocks:Nat
 pages:Nat
 blk:Nat->Nat->NBlock
 plan:List A3'
 dead:List Bool
 off:Bool
 ops:Int
 broken:Int
 cuts:Bool
 left:Int
 keep:Int
def O8 (d b p:Int):Bool:=decide (3<=d/\d<=6)&&decide (8<=b/\b<=16)&&decide (2<=p/\p<=8)
def V8 (d b p x y z:Int):Bool:=decide (0<=x/\x<d)&&decide (0<=y/\y<b)&&decide (0<=z/\z<p)
def a2R:List UInt8:=List.replicate 32 0
structure Nand.Ok (N:Nand):Prop where
 geo:O8 N.dies N.blocks N.pages=true
 dead:N.dead.length=N.dies
 cells:∀i j,i<N.dies->j<N.blocks->(N.blk i j).cells.length<=N.pages/\∀c∈(N.blk i j).cells,c.p.length=32
 num:0<=N.ops/\0<=N.broken/\(∀i j,0<=(N.blk i j).worn/\(N.blk i j).worn<=N.ops)
 lft:N.cuts=true->0<=N.left/\N.left<=9223372036854775807
 lf2: -9223372036854775808<=N.left/\N.left<=9223372036854775807
 kp:0<=N.keep/\N.keep<=32
structure Nand.Room (N:Nand):Prop where
 ops:N.ops<4611686018427387904
 broken:N.broken<4611686018427387904
namespace Nand
def setBlk (N:Nand) (i j:Nat) (B:NBlock):Nand:={N with blk:=λa b=>if a=i/\b=j then B else N.blk a b}
def refuses (N:Nand) (x y z:Int):Int:=
 if N.off then 9 else if V8 N.dies N.blocks N.pages x y z=false then 3 else if N.dead.getD x.toNat false then 8 else 0
def cutB (N:Nand):Bool:=N.cuts&&decide (N.left<=0)
def cutN (N:Nand):Nand:={N with ops:=N.ops+1,left:=if N.cuts then N.left-1 else N.left,off:=if N.cutB then true else N.off,cuts:=if N.cutB then false else N.cuts}
def pageAt (N:Nand) (x y z:Int):Option NCell:=(N.blk x.toNat y.toNat).cells[z.toNat]?
def readV (N:Nand) (x y z:Int):List UInt8:=if N.refuses x y z≠0 then a2R else match N.pageAt x y z with
 | none=>a2R
 | some c=>if c.lost then a2R else c.p
def readE (N:Nand) (x y z:Int):Int:=if N.refuses x y z≠0 then N.refuses x y z else match N.pageAt x y z with
 | none=>5
 | some c=>if c.lost then 6 else 0
def onN (N:Nand):Nand:={N with off:=false,cuts:=false}
def setCut (N:Nand) (x k:Int):Nand:=if N.off then N else {N with cuts:=decide (0<=x),left:=x,keep:=min (max k 0) 32,off:=decide (x<0)}
def next (N:Nand) (x y:Int):Nat:=if 0<=x/\x<N.dies/\0<=y/\y<N.blocks then(N.blk x.toNat y.toNat).cells.length else 0
def wornAt (N:Nand) (x y:Int):Int:=if 0<=x/\x<N.dies/\0<=y/\y<N.blocks then(N.blk x.toNat y.toNat).worn else 0
def deadAt (N:Nand) (x:Int):Bool:=decide (0<=x)&&decide (x<N.dies)&&N.dead.getD x.toNat false
def push (N:Nand) (i j:Nat) (c:NCell):Nand:=N.setBlk i j {N.blk i j with cells:=(N.blk i j).cells++[c]}
def fillP (k:Nat) (p:List UInt8):List UInt8:=p.take k++List.replicate (32-k) 255
def fails (N:Nand) (x y z:Int):Bool:=decide ((x,y,z)∈N.plan)||(N.blk x.toNat y.toNat).met
def progN (N:Nand) (x y z:Int) (pg:List UInt8):Nand:=
 if N.refuses x y z≠0 then N else
 if z≠(N.blk x.toNat y.toNat).cells.length then {N with broken:=N.broken+1}else
 if N.cutB then N.cutN.push x.toNat y.toNat ⟨fillP N.keep.toNat pg,false,true⟩else
 push {N.cutN with plan:=N.plan.erase (x,y,z)} x.toNat y.toNat ⟨pg,N.fails x y z,false⟩
def progE (N:Nand) (x y z:Int):Int:=
 if N.refuses x y z≠0 then N.refuses x y z else
 if z≠(N.blk x.toNat y.toNat).cells.length then 4 else
 if N.cutB then 9 else if N.fails x y z then 7 else 0
def zcell:NCell:=⟨a2R,false,false⟩
def eraseN (N:Nand) (x y:Int):Nand:=
 let B:=N.blk x.toNat y.toNat
 if N.refuses x y 0≠0 then N else
 if N.cutB then N.cutN.setBlk x.toNat y.toNat {B with cells:=(B.cells++List.replicate (N.pages-B.cells.length) zcell).map λc=>{c with lost:=true}}else
 if B.fails then N.cutN.setBlk x.toNat y.toNat {B with met:=true}else
 {N.cutN.setBlk x.toNat y.toNat {B with cells:=[],worn:=B.worn+1}with plan:=N.plan.filter λa=>!(decide (a.1=x)&&decide (a.2.1=y))}
def eraseE (N:Nand) (x y:Int):Int:=
 if N.refuses x y 0≠0 then N.refuses x y 0 else if N.cutB then 9 else if(N.blk x.toNat y.toNat).fails then 7 else 0
def xorAt (p:List UInt8) (n:Nat) (x:UInt8):List UInt8:=p.set n ((p.getD n 0) ^^^ x)
def setCell (N:Nand) (x y z:Int) (f:NCell->NCell):Nand:=
 N.setBlk x.toNat y.toNat {N.blk x.toNat y.toNat with cells:=(N.blk x.toNat y.toNat).cells.modify z.toNat f}
def addP (l:List A3') (a:A3'):List A3':=if a∈l then l else l++[a]
def fault (N:Nand) (kind x y z n xx:Int):Bool×Nand:=
 if V8 N.dies N.blocks N.pages x y z=false then(false,N)else
 if kind=1 then(true,{N with plan:=addP N.plan (x,y,z)})else
 if kind=2 then(true,N.setBlk x.toNat y.toNat {N.blk x.toNat y.toNat with fails:=true})else
 if kind=3 then(true,N.setCell x y z λc=>{c with lost:=true})else
 if kind=4 then(true,{N with dead:=N.dead.set x.toNat true})else
 if kind=5 then
  if n<0\/32<=n then(false,N)else
  match N.pageAt x y z with
  | none=>(true,N)
  | some c=>if c.turned then(false,N)else if c.lost then(true,N)else
   (true,N.setCell x y z λc=>{c with p:=xorAt c.p n.toNat (UInt8.ofNat (xx % 256).toNat),turned:=true})
 else(false,N)
def new (d b p:Nat):Nand:=⟨d,b,p,λ_ _=>⟨[],0,false,false⟩,[],List.replicate d false,false,0,0,false,0,0⟩
theorem refuses_zero {N:Nand} {x y z:Int} (h:N.refuses x y z=0):N.off=false/\N.dead.getD x.toNat false=false/\0<=x/\x<N.dies/\0<=y/\y<N.blocks/\0<=z/\z<N.pages:=by
 unfold refuses at h;split at h
 ·omega
 ·rename_i h1;split at h
  ·omega
  ·rename_i h2;split at h
   ·omega
   ·rename_i h3;simp[V8]at h2;exact⟨by simpa using h1,by simpa using h3,by omega⟩
end Nand
end
section
open Go Go.RowKit
theorem D1 {e size:Nat} {c:Option Nat×Nat} {n:Nat} {xs:List Value} (hn:0<n) {h:Hl} (s:(m9 e size c.1 n c.2 xs).sat h):∃g,c.1=some g:=by
 obtain⟨_,h2⟩:=s;cases hc:c.1 with
 | none=>rw[hc]at h2;omega
 | some g=>exact⟨g,rfl⟩
theorem J.cg {X:Cx} {K:List KI} {E E':Env} {L:List Atom} {N:Nat} {F:HP} {Post:Value->List Atom->Prop} {rs:List ResultVar} (hX:IsCx X Tryz.prog rs N F Post) {ops:Array Oper} {C:Cl} {l:Bool} {i:Nat} {t:PT} {o:Oper} {b:Bool} {f:FuncId} {vs:List Value} {ob:List Prop} {V:Value}
  (c:Fn Tryz.prog f vs [] (Ps V [])) (hJ:J X (.reg ops C t::K) E' L) (hf:K0 Tryz.prog f=true:=by kernel_rfl) (ho:J3 ops.toList i=some o:=by exact rfl) (hg:gd ops.toList E o=some (.when b):=by exact rfl) (hc:a6I E o.op=some (f,vs,ob):=by exact rfl) (hob:b=true->Conj ob:=by intro hq;(repeat' (first | exact Conj.nil | refine Conj.cons ?_ ?_ | omega | exact hq0 | (simpa using hq0) | (exactλh=>h) | exact rfl | (intro hq;have hq0:=hq;try simp only[f7,j6,d5,i4,c8]at hq) | (simp;done) | (simp;omega) | decide)))
  (hd:W5 N o.dst V 0 (.when b) E=some E':=by exact rfl) (ok:P4 L []=true:=by exact rfl) (h0:a0W L [] []=some L:=by exact rfl) (hst:Conj (M3 l C L):=by first | exact trivial | (repeat' (first | exact trivial | refine⟨rfl,?_⟩))):J X (.reg ops C (.alt l i t .non)::K) E L:=by
 intro a w hx he hs;rw[J2]at ho;have ho':ops[i]? =some o:=by simpa using ho
 refine⟨⟨o,ho',?_⟩,trivial⟩;have hw:=a1h he hg;unfold sOp;cases b with
 | true=>
  rw[d8 (by rw[hw];rfl),a9X (P:=X.P) he (by rw[hX.hP];exact hf) hc (hob rfl)];have hcall:=c (HP.of (a0O L [])) w (hs.split ok);rw[<- hX.hP]at hcall;refine Calls.mono hcall λe w' ⟨v,As,he',⟨e1,e2⟩,hs',hx'⟩=>⟨v,he',?_⟩;subst e1 e2;have hs2:=Sep.back ok hs';rw[<- a2W (a0s ok).1 h0]at hs2;exact⟨Q4 hst hs2,hJ _ w' (hx.trans hx') (T6 he (by rw[hX.hN];exact hd) _ rfl) hs2⟩
 | false=>
  rw[d6 (by rw[hw];simp[G.on])];exact⟨Q4 hst hs,hJ _ w hx (T6 he (by rw[hX.hN];exact hd) _ rfl) hs⟩
theorem b7K (m d:Int) (h0:0<=m) (h1:m<256):(bits .and .i64 m (L.one d) !=0)=L.has m d:=by
 obtain⟨m,rfl⟩:=f9 h0
 by_cases hd:0<=d/\d<8
 ·obtain⟨d,rfl⟩:=f9 hd.1;exact(by decide+kernel:∀m,m<256->∀d,d<8->(bits .and .i64 ((m:Nat):Int) (L.one (d:Nat)) !=0)=L.has m d) m (by omega) d (by omega)
 ·have h4:L.has (m:Int) d=false:=by
   simp only[L.has,Bool.and_eq_false_iff,c8];omega
  rw[h4,L.one,d6 hd];exact(by decide+kernel:∀m,m<256->(bits .and .i64 ((m:Nat):Int) 0 !=0)=false) m (by omega)
theorem b4K (d:Int):L.one d=0\/∃k:Nat,k<8/\d=k/\L.one d=((2^k:Nat):Int):=by
 by_cases hd:0<=d/\d<8
 ·obtain⟨d,rfl⟩:=f9 hd.1;exact .inr ⟨d,by omega,rfl,by simp only[L.one,hd,and_self,X7,j4]⟩
 ·exact .inl (by simp[L.one,hd])
theorem without_dec:∀m,m<256->∀k,k<8->bits .andNot .i64 ((m:Nat):Int) ((2^k:Nat):Int)=((m&&& (255-2^k):Nat):Int):=by decide+kernel
theorem with_dec:∀m,m<256->∀k,k<8->bits .or .i64 ((m:Nat):Int) ((2^k:Nat):Int)=((m||| 2^k:Nat):Int):=by decide+kernel
theorem b4p:∀m,m<256->bits .or .i64 ((m:Nat):Int) 0=((m||| 0:Nat):Int)/\bits .andNot .i64 ((m:Nat):Int) 0=((m&&& 255:Nat):Int):=by decide+kernel
theorem a9a (m d:Int) (h0:0<=m) (h1:m<256):bits .or .i64 m (L.one d)=L.with_ m d/\bits .andNot .i64 m (L.one d)=L.without m d:=by
 obtain⟨m,rfl⟩:=f9 h0;have hs:L.set (m:Int)=true:=by simp[L.set];omega
 simp only[L.with_,L.without,hs,X7];rcases b4K d with h | ⟨k,hk,_,h⟩
 ·rw[h];exact b4p m (by omega)
 ·rw[h];exact⟨with_dec m (by omega) k hk,without_dec m (by omega) k hk⟩
theorem b3T (m:Int):FP 172 [iI m] [] (Ps (.bool (L.set m)) []):=by
 refine FE [0] Tryz.func172 λX F hX=>?_;exact J.qx []
theorem b7m (d:Int):FP 173 [iI d] [] (Ps (iI (L.one d)) []):=by
 refine FE [0] Tryz.func173 λX F hX=>?_;refine J.qd (λ_ h=>?_) λ_ h=>?_
 ·simp only[j6,d5]at h;refine J.qr [] λ_=>?_;exact⟨by rw[L.one,d6 (by omega)],rfl⟩
 ·simp only[E5,c8]at h;obtain⟨d,rfl⟩:=f9 (by omega:0<=d)
  match d,(by omega:d<8)with
  | 0,_ | 1,_ | 2,_ | 3,_ | 4,_ | 5,_ | 6,_ | 7,_=>
   exact J.qx []
theorem b1R (n:Int):FP 159 [iI n] [] (Ps (iI (L.all n)) []):=by
 refine FE [0] Tryz.func159 λX F hX=>?_;refine J.qd (λ_ h=>?_) λ_ h=>?_
 ·simp only[j6,d5]at h;refine J.qr [] λ_=>?_;exact⟨by rw[L.all,d6 (by omega)],rfl⟩
 ·simp only[E5,c8]at h;obtain⟨d,rfl⟩:=f9 (by omega:0<=n)
  match d,(by omega:d<9)with
  | 0,_ | 1,_ | 2,_ | 3,_ | 4,_ | 5,_ | 6,_ | 7,_ | 8,_=>
   exact J.qx []
theorem a9C (m d:Int):FP 111 [iI m,iI d] [] (Ps (.bool (L.has m d)) []):=by
 refine FE [0,0] Tryz.func111 λX F hX=>?_;refine J.qp (b3T m) [] λ_=>?_;cases h:L.set m with
 | false=>
  refine J.q λ_=>?_;refine J.v (iI 0) rfl rfl (λhg a w he hw=>by simp[G.on]at hg) ?_;refine J.qr [] λ_=>?_;exact⟨by simp[L.has,h],rfl⟩
 | true=>
  refine J.qp (b7m d) [] λ_=>?_;refine J.qr [] λ_=>?_;exact⟨congrArg Value.bool (b7K m d ((L.set_iff m).1 h).1 ((L.set_iff m).1 h).2),rfl⟩
theorem b0H (m d:Int):FP 131 [iI m,iI d] [] (Ps (iI (L.with_ m d)) []):=by
 refine FE [0,0] Tryz.func131 λX F hX=>?_;refine J.qp (b3T m) [] λ_=>?_;cases h:L.set m with
 | false=>
  refine J.qT λ_=>?_;refine J.qr [] λ_=>?_;exact⟨by simp[L.with_,h],rfl⟩
 | true=>
  refine J.qF λ_=>?_;refine J.qp (b7m d) [] λ_=>?_;refine J.qr [] λ_=>?_;exact⟨congrArg (Value.int .i64) (a9a m d ((L.set_iff m).1 h).1 ((L.set_iff m).1 h).2).1,rfl⟩
theorem a4e (m d:Int):FP 189 [iI m,iI d] [] (Ps (iI (L.without m d)) []):=by
 refine FE [0,0] Tryz.func189 λX F hX=>?_;refine J.qp (b3T m) [] λ_=>?_;cases h:L.set m with
 | false=>
  refine J.qT λ_=>?_;refine J.qr [] λ_=>?_;exact⟨by simp[L.without,h],rfl⟩
 | true=>
  refine J.qF λ_=>?_;refine J.qp (b7m d) [] λ_=>?_;refine J.qr [] λ_=>?_;exact⟨congrArg (Value.int .i64) (a9a m d ((L.set_iff m).1 h).1 ((L.set_iff m).1 h).2).2,rfl⟩
def oc1 (m:Int):Int:=IntKind.u64.wrap (bits BinOp.and IntKind.u64 (m/2) 6148914691236517205+bits BinOp.and IntKind.u64 m 6148914691236517205)
def oc2 (x:Int):Int:=IntKind.u64.wrap (bits BinOp.and IntKind.u64 (x/4) 3689348814741910323+bits BinOp.and IntKind.u64 x 3689348814741910323)
def oc3 (x:Int):Int:=bits BinOp.and IntKind.u64 (IntKind.u64.wrap (x/16+x)) 1085102592571150095
def oc4 (x:Int):Int:=IntKind.u64.wrap (x+x/256)
def oc5 (x:Int):Int:=IntKind.u64.wrap (x+x/65536)
def oc6 (x:Int):Int:=IntKind.u64.wrap (x+x/4294967296)
def oc (m:Int):Int:=bits BinOp.and IntKind.i64 (wrap64 (oc6 (oc5 (oc4 (oc3 (oc2 (oc1 m))))))) 127
theorem c0U:∀m,m<256->oc ((m:Nat):Int)=(L.count (m:Int):Int):=by decide+kernel
set_option maxHeartbeats 400000 in
theorem c0S (m:Int) (h0:0<=m) (h1:m<256) (w:World):
  Calls Tryz.prog 252 #[.int .u64 m] w λe w'=>e= .returned (iI (L.count m))/\w=w':=by
 obtain⟨k,rfl⟩:=f9 h0;have hoc:=Lib.hid (c0U k (by omega))
 go_enter Tryz.func252,Tryz.ntmps252
 go_wp2
 go_ret
 exact⟨b0r hoc.out,rfl⟩
theorem c0Z (m:Int) (h0:0<=m) (h1:m<256):FP 224 [.int .u64 m] [] (Ps (iI (L.count m)) []):=by
 refine FE [0] Tryz.func224 λX F hX=>?_;refine J.qF λ_=>?_;refine J.qp ((Fn.of_same (c0S m h0 h1))) [] λ_=>?_;exact J.qx []
theorem a5f (m:Int):FP 187 [iI m] [] (Ps (iI (L.count m)) []):=by
 refine FE [0] Tryz.func187 λX F hX=>?_;refine J.qp (b3T m) [] λ_=>?_;cases h:L.set m with
 | false=>
  refine J.qT λ_=>?_;refine J.qr [] λ_=>?_;exact⟨by simp[L.count,L.dies,h],rfl⟩
 | true=>
  obtain⟨h0,h1⟩:=(L.set_iff m).1 h;refine J.qF λ_=>?_;refine J.qp (c0Z m h0 h1) [] λ_=>?_;exact J.qx []
theorem c1a (m i:Int) (h0: -1000000<=i) (h1:i<=1000000):FP 188 [iI m,iI i] [] (Ps (iI (L.at_ m i)) []):=by
 refine FE [0,0] Tryz.func188 λX F hX=>?_;have hz:=L.below_zero m;refine J.q λ_=>?_;refine J.l (α:=(Nat×Int)) (λz=>z.1<=8/\z.2=i-L.below m z.1/\(0<=i->(L.below m z.1:Int)<=i)) (λz=>[si 6 z.1,si 1 z.2,si 0 m]) [] (λz=>[]) (λz=>8-z.1) ((0,i)) (⟨j7 _,by dsimp only;omega,λ_=>by dsimp only;omega⟩) λz hI=>?_;obtain⟨k,x⟩:=z;dsimp only at hI ⊢;obtain⟨hk,hx,hi⟩:=hI;have hb:L.below m k<=8:=I7 (H8 _ _) (by simp);refine J.qd (λ_ h=>?_) λ_ h=>?_
 ·simp only[d5]at h;have hs:=L.below_succ m k (by omega);have ha:=L.at_below m k (by omega);refine J.qp (a9C m k) [] λ_=>?_;cases hh:L.has m k with
  | false=>
   rw[hh]at hs;refine J.qT λ_=>?_;refine J.q λ_=>?_;refine J.n ((k+1,x)) (⟨by dsimp only;omega,by dsimp only;rw[hs];simpa using hx,by dsimp only;rw[hs];simpa using hi⟩) (by dsimp only;omega) [0]
  | true=>
   rw[hh,d8 rfl]at hs;refine J.qF λ_=>?_;refine J.qd (λ_ h2=>?_) λ_ h2=>?_
   ·simp only[A4]at h2;refine J.qr [] λ_=>?_;exact⟨by rw[<- ha hh,show(L.below m k:Int)=i from by omega],rfl⟩
   ·simp only[l8,H5]at h2;refine J.q λ_=>?_;refine J.n ((k+1,x-1)) (⟨by dsimp only;omega,by dsimp only;omega,λh=>by have:=hi h;dsimp only;omega⟩) (by dsimp only;omega) [0]
 ·simp only[c8]at h;obtain rfl:k=8:=by omega
  rw[L.below_eight]at hi;refine J.qr [] λ_=>?_;exact⟨by rw[L.at_ge m i (by omega)],rfl⟩
theorem all_dec:∀m,m<256->∀d,d<8->L.has (m:Nat) (d:Nat)=true->(L.count (bits .and .i64 ((m:Nat):Int) (L.all (d:Nat))):Int)=L.spot (m:Nat) (d:Nat):=by decide+kernel
theorem b7n (m d:Int):FP 308 [iI m,iI d] [] (Ps (iI (L.spot m d)) []):=by
 refine FE [0,0] Tryz.func308 λX F hX=>?_;refine J.qp (a9C m d) [] λ_=>?_;cases h:L.has m d with
 | false=>
  refine J.qT λ_=>?_;refine J.qr [] λ_=>?_;exact⟨by simp[L.spot,h],rfl⟩
 | true=>
  obtain⟨h1,h2,h3,h4⟩:=L.has_lt m d h;obtain⟨m,rfl⟩:=f9 h3;obtain⟨d,rfl⟩:=f9 h1;refine J.qF λ_=>?_;refine J.qp (b1R d) [] λ_=>?_;refine J.qp (a5f _) [] λ_=>?_;refine J.qr [] λ_=>?_;exact⟨congrArg (Value.int .i64) (all_dec m (by omega) d (by omega) h),rfl⟩
theorem a1i (m:Int):FP 121 [iI m] [] (Ps (iI (G.slots m)) []):=by
 have:=L.count_le m;refine FE [0] Tryz.func121 λX F hX=>?_;refine J.qp (a5f m) [] λ_=>?_;refine J.qd (λ_ h=>?_) λ_ h=>?_
 ·simp only[d5]at h;refine J.qr [] λ_=>?_;exact⟨by rw[G.slots,d8 (by omega)],rfl⟩
 ·simp only[c8]at h;refine J.qr [] λ_=>?_;exact⟨by rw[G.slots,d6 (by omega)],rfl⟩
theorem a1m (m b r:Int):FP 165 [iI m,iI b,iI r] [] (Ps (iI (G.parity m b r)) []):=by
 have hc:=L.count_le m;refine FE [0,0,0] Tryz.func165 λX F hX=>?_;refine J.qp (a5f m) [] λ_=>?_;refine J.qd (λ_ h=>?_) λ_ h=>?_
 ·simp only[j6,d5]at h;refine J.qr [] λ_=>?_;exact⟨by rw[G.parity,d8 (by omega)],rfl⟩
 ·simp only[E5,c8]at h;have hn0:(L.count m:Int)≠0:=by omega
  have hn1:(0:Int)<L.count m:=by omega
  have h1:=a2c b hn0;have h2:=a0I b hn1;have h3:=a2c r hn0;have h4:=a0I r hn1;have h5:=a2c (b+r) hn0;have h6:=a0I (b+r) hn1;have e1:b.tmod (L.count m:Int)=b % (L.count m:Int):=X5 (by omega);have e2:r.tmod (L.count m:Int)=r % (L.count m:Int):=X5 (by omega);have e3:(b.tmod (L.count m:Int)+r.tmod (L.count m:Int)).tmod (L.count m:Int)=(b+r) % (L.count m:Int):=by rw[e1,e2,X5 (by omega),<- Int.add_emod]
  refine J.pq (.of [0,4,8,12,16,20,24,28,32,36,43,44]) [10,11] [] λ_ _=>?_;rw[e3];refine J.q λ_=>?_;refine J.ca hX (by kernel_rfl) (c1a m _ (by omega) (by omega)) [] 0 rfl rfl rfl rfl rfl rfl (λ_=>rfl) ?_;refine cpq ⟨_,rfl,trivial,?_⟩;refine J.qr [] λ_=>?_;exact⟨by rw[G.parity,d6 (by omega)],rfl⟩
theorem b3V (m b r s:Int) (h0: -1000000<=s) (h1:s<=1000000):FP 124 [iI m,iI b,iI r,iI s] [] (Ps (iI (G.die m b r s)) []):=by
 refine FE [0,0,0,0] Tryz.func124 λX F hX=>?_;refine J.qp (a1m m b r) [] λ_=>?_;refine J.qd (λ_ h=>?_) λ_ h=>?_
 ·simp only[d5]at h;refine J.qr [] λ_=>?_;exact⟨by rw[G.die,d8 h],rfl⟩
 ·simp only[c8]at h;refine J.qp (a4e m _) [] λ_=>?_;refine J.qp (c1a _ s h0 h1) [] λ_=>?_;refine J.qr [] λ_=>?_;exact⟨by rw[G.die,d6 h],rfl⟩
theorem b7T (m b r s:Int):FP 304 [iI m,iI b,iI r,iI s] [] (Ps (iI (G.slot m b r s)) []):=by
 refine FE [0,0,0,0] Tryz.func304 λX F hX=>?_;refine J.qp (a1m m b r) [] λ_=>?_;refine J.qd (λ_ h=>?_) λ_ h=>?_
 ·simp only[d5]at h;refine J.qr [] λ_=>?_;exact⟨by rw[G.slot,d8 h],rfl⟩
 ·simp only[c8]at h;refine J.qp (a4e m _) [] λ_=>?_;refine J.qp (b7n _ s) [] λ_=>?_;refine J.qr [] λ_=>?_;exact⟨by rw[G.slot,d6 h],rfl⟩
theorem a2G (n a b:Int):FP 96 [iI n,iI a,iI b] [] (Ps (.bool (decide (a<=n)&&decide (n<=b))) []):=by
 refine FE [0,0,0] Tryz.func96 λX F hX=>?_;exact J.qx []
theorem a6F (d b p:Int):FP 82 [.agg #[iI d,iI b,iI p]] [] (Ps (.bool (O8 d b p)) []):=by
 have hs:O8 d b p=(((decide (3<=d)&&decide (d<=6))&&(decide (8<=b)&&decide (b<=16)))&&(decide (2<=p)&&decide (p<=8))):=by simp[O8,Bool.decide_and]
 refine FE [0] Tryz.func82 λX F hX=>?_;refine J.qp (a2G d 3 6) [] λ_=>?_;refine J.q λ_=>?_;refine J.cg hX (a2G b 8 16) ?_;refine J.q λ_=>?_;refine J.cg hX (a2G p 2 8) ?_;refine J.qr [] λ_=>?_;exact⟨by rw[hs],rfl⟩
theorem b2c (d b p x y z:Int) (hd:0<=d/\d<=1000000) (hb:0<=b/\b<=1000000) (hp:0<=p/\p<=1000000):FP 52 [.agg #[iI d,iI b,iI p], .agg #[iI x,iI y,iI z]] [] (Ps (.bool (V8 d b p x y z)) []):=by
 have e:∀u v:Int,decide (0<=u/\u<v)=(decide (0<=u)&&decide (u<=v-1)):=λu v=>by rw[a2d];simp;omega
 have hs:V8 d b p x y z=(((decide (0<=x)&&decide (x<=d-1))&&(decide (0<=y)&&decide (y<=b-1)))&&(decide (0<=z)&&decide (z<=p-1))):=by simp only[V8,e]
 refine FE [0,0] Tryz.func52 λX F hX=>?_;refine J.qp (a2G x 0 (d-1)) [] λ_=>?_;refine J.q λ_=>?_;refine J.cg hX (a2G y 0 (b-1)) ?_;refine J.q λ_=>?_;refine J.cg hX (a2G z 0 (p-1)) ?_;refine J.qr [] λ_=>?_;exact⟨by rw[hs],rfl⟩
def byC (l:List UInt8) (k:Nat):Value:=bv (l.getD k 0)
def I3 (l:List UInt8):List Value:=[byC l 0,byC l 1,byC l 2,byC l 3,byC l 4,byC l 5,byC l 6,byC l 7,byC l 8,byC l 9,byC l 10,byC l 11,byC l 12,byC l 13,byC l 14,byC l 15]
def R8 (l:List UInt8):List Value:=[byC l 0,byC l 1,byC l 2,byC l 3,byC l 4,byC l 5,byC l 6,byC l 7,byC l 8,byC l 9,byC l 10,byC l 11,byC l 12,byC l 13,byC l 14,byC l 15,byC l 16,byC l 17,byC l 18,byC l 19,byC l 20,byC l 21,byC l 22,byC l 23,byC l 24,byC l 25,byC l 26,byC l 27,byC l 28,byC l 29,byC l 30,byC l 31]
def NCell.vals (c:NCell):List Value:=[byC c.p 0,byC c.p 1,byC c.p 2,byC c.p 3,byC c.p 4,byC c.p 5,byC c.p 6,byC c.p 7,byC c.p 8,byC c.p 9,byC c.p 10,byC c.p 11,byC c.p 12,byC c.p 13,byC c.p 14,byC c.p 15,byC c.p 16,byC c.p 17,byC c.p 18,byC c.p 19,byC c.p 20,byC c.p 21,byC c.p 22,byC c.p 23,byC c.p 24,byC c.p 25,byC c.p 26,byC c.p 27,byC c.p 28,byC c.p 29,byC c.p 30,byC c.p 31, .bool c.lost, .bool c.turned]
def O6 (l:List NCell):List Value:=l.flatMap NCell.vals
structure NLoc where
 r:Nat
 q:Nat
 d:Nat
 bp:Nat->Nat
def Nand.mainV (N:Nand) (Y:NLoc):List Value:=
 [iI N.dies,iI N.blocks,iI N.pages, .map (some Y.r),pp Y.q, .slice (some ⟨Y.d,0,none⟩) N.dies N.dies, .bool N.off,iI N.ops,iI N.broken, .bool N.cuts,iI N.left,iI N.keep]
def a8U (b:Nat) (B:NBlock):Atom:=exA λa:Option Nat×Nat=>
 [.pt b 107 [slv a.1 B.cells.length a.2,iI B.worn, .bool B.fails, .bool B.met],m9 112 34 a.1 B.cells.length a.2 (O6 B.cells)]
def a3T (nb n:Nat) (bp:Nat->Nat):List (A3×Value):=(List.range n).map λk=>((((k/nb:Nat):Int),((k % nb:Nat):Int),0),pp (bp k))
def a0F (nb n:Nat) (bp:Nat->Nat) (f:Nat->Nat->NBlock):List Atom:=(List.range n).map λk=>a8U (bp k) (f (k/nb) (k % nb))
def a0y (p:Nat) (N:Nand) (Y:NLoc):List Atom:=
 [.pt p 92 (N.mainV Y),U8 Y.r a3v (a3T N.blocks (N.dies*N.blocks) Y.bp),a1z Y.q N.plan, .pt Y.d 4 (N.dead.map Value.bool), .hp (HP.of (a0F N.blocks (N.dies*N.blocks) Y.bp N.blk))]
def B8 (p:Nat) (N:Nand):Atom:=exA (a0y p N)
theorem b3o (nb:Nat) (bp:Nat->Nat) (i j:Nat) (hj:j<nb):∀n,Q6 (a3T nb n bp) ((i:Int),(j:Int),0)=if i*nb+j<n then some (pp (bp (i*nb+j)))else none:=by
 have hnb:0<nb:=by omega
 have key:∀(m k:Nat),Q6 ((List.range' m k).map λk=>((((k/nb:Nat):Int),((k % nb:Nat):Int),(0:Int)),Value.pointer (some ⟨bp k,0,none⟩))) ((i:Int),(j:Int),0)=if m<=i*nb+j/\i*nb+j<m+k then some (pp (bp (i*nb+j)))else none:=by
  intro m k
  induction k generalizing m with
  | zero=>simp[Q6]
  | succ k ih=>
   rw[List.range'_succ,n4,Q6]
   by_cases e:m=i*nb+j
   ·subst e;rw[d8,d8 (by omega)];have h1:(i*nb+j)/nb=i:=by rw[a0G,O0,Nat.add_mul_div_left _ _ hnb,Nat.div_eq_of_lt hj,J6]
    have h2:(i*nb+j) % nb=j:=by rw[a0G,Nat.add_mul_mod_self_right];exact K4 hj
    rw[h1,h2]
   ·rw[d6,ih]
    ·by_cases h:m+1<=i*nb+j/\i*nb+j<m+1+k
     ·rw[d8 h,d8 (by omega)]
     ·rw[d6 h,d6 (by omega)]
    ·intro h;simp only[C4,a4s,and_true]at h;apply e;rw[h.1,h.2,O0];exact(a4r m nb).symm
 intro n;have:=key 0 n;simpa[a3T,List.range_eq_range']using this
theorem a8C (nb:Nat) (hnb:0<nb) (bp:Nat->Nat) (a:A3) (n:Nat) (h:∀i j:Nat,i*nb+j<n->j<nb->a≠((i:Int),(j:Int),0)):Q6 (a3T nb n bp) a=none:=by
 have key:∀(l:List Nat),(∀k∈l,k<n)->Q6 (l.map λk=>((((k/nb:Nat):Int),((k % nb:Nat):Int),(0:Int)),Value.pointer (some ⟨bp k,0,none⟩))) a=none:=by
  intro l
  induction l with
  | nil=>intro _;rfl
  | cons k l ih=>
   intro hl;rw[n4,Q6,d6,ih (λk' hk'=>hl k' (E8 _ hk'))];refine h (k/nb) (k % nb) ?_ (a3t _ hnb);have:=a4r k nb;rw[O0]at this;rw[this];exact hl k (H1 ..)
 exact key _ (λk hk=>by simpa using hk)
theorem Sep.openAt {BL:List Atom} {h:Hl} {k:Nat} {A:Atom} (s:Sep [.hp (HP.of BL)] h) (hk:BL[k]? =some A):Sep [.hp (HP.of (BL.set k .emp)),A] h:=by
 obtain⟨own,hw⟩:=Sep.hpOf.1 s;refine⟨λb=>if own b=k then 1 else 0,λj B hB=>?_⟩
 match j with
 | 0=>
  simp at hB;subst hB;refine⟨own,λi C hC=>?_⟩;rw[z8]at hC;split at hC
  ·split at hC
   ·simp at hC;subst hC;trivial
   ·cases hC
  ·rename_i hne;refine Atom.up (λb o hb=>?_) (hw i C hC);rw[res_some]at hb ⊢;exact⟨hb.1,res_some.2 ⟨by rw[d6 (by rw[hb.1];exactλe=>hne e.symm)],hb.2⟩⟩
 | 1=>
  simp at hB;subst hB;refine Atom.up (λb o hb=>?_) (hw k _ hk);rw[res_some]at hb ⊢;exact⟨by rw[d8 hb.1],hb.2⟩
 | j+2=>simp at hB
theorem Sep.closeAt {BL:List Atom} {h:Hl} {k:Nat} {A:Atom} (s:Sep [.hp (HP.of (BL.set k .emp)),A] h):Sep [.hp (HP.of (BL.set k A))] h:=by
 obtain⟨own,hw⟩:=s;obtain⟨own2,hw2⟩:=hw 0 _ rfl;refine Sep.hpOf.2 ⟨λb=>if own b=0 then own2 b else k,λj B hB=>?_⟩;rw[z8]at hB;split at hB
 ·rename_i e;split at hB
  ·injection hB with hB;subst hB;subst e;refine Atom.up (λb o hb=>?_) (hw 1 _ rfl);rw[res_some]at hb ⊢;exact⟨by rw[d6 (by omega)],hb.2⟩
  ·cases hB
 ·rename_i hne;refine Atom.up (λb o hb=>?_) (hw2 j B (by rw[z8,d6 hne];exact hB));rw[res_some]at hb ⊢;have:=res_some.1 hb.2;exact⟨by rw[d8 this.1];exact hb.1,this.2⟩
section
variable {X : Cx} {K : List KI} {E : Env} {L : List Atom}
theorem J.openAt {BL L':List Atom} (i k:Nat) {A:Atom} (ok:P4 L [i]=true) (hp:N9 L [i]=[.hp (HP.of BL)]) (hk:BL[k]? =some A) (hL:a0W L [i] [.hp (HP.of (BL.set k .emp)),A]=some L') (h:J X K E L'):J X K E L:=
 J.turn1 [i] ok (λh' s=>by rw[hp]at s;exact s.openAt hk) hL h
theorem J.closeAt {BL L':List Atom} (i j k:Nat) {A:Atom} (ok:P4 L [i,j]=true) (hp:N9 L [i,j]=[.hp (HP.of (BL.set k .emp)),A]) (hL:a0W L [i,j] [.hp (HP.of (BL.set k A))]=some L') (h:J X K E L'):J X K E L:=
 J.turn1 [i,j] ok (λh' s=>by rw[hp]at s;exact s.closeAt) hL h
end
theorem a1d (nb n:Nat) (bp:Nat->Nat) (f:Nat->Nat->NBlock) (k:Nat) (h:k<n):(a0F nb n bp f)[k]? =some (a8U (bp k) (f (k/nb) (k % nb))):=by simp[a0F,h]
theorem a0j {i j nb:Nat} (hj:j<nb):(i*nb+j)/nb=i/\(i*nb+j) % nb=j:=by
 have hnb:0<nb:=by omega
 exact⟨by rw[a0G,O0,Nat.add_mul_div_left _ _ hnb,Nat.div_eq_of_lt hj,J6],by rw[a0G,Nat.add_mul_mod_self_right];exact K4 hj⟩
theorem a7Y {i j d nb:Nat} (hi:i<d) (hj:j<nb):i*nb+j<d*nb:=by
 have:(i+1)*nb<=d*nb:=B5 nb hi;rw[K6]at this;omega
theorem b5B (nb n:Nat) (bp:Nat->Nat) (f:Nat->Nat->NBlock) (i j:Nat) (B:NBlock) (hj:j<nb):(a0F nb n bp f).set (i*nb+j) (a8U (bp (i*nb+j)) B)=a0F nb n bp (λa b=>if a=i/\b=j then B else f a b):=by
 apply x9;intro k;rw[z8];have hlen:(a0F nb n bp f).length=n:=by simp[a0F]
 have hg:∀g k,(a0F nb n bp g)[k]? =if k<n then some (a8U (bp k) (g (k/nb) (k % nb)))else none:=λg k=>by
  by_cases hk:k<n
  ·rw[a1d _ _ _ _ _ hk,d8 hk]
  ·rw[d6 hk,j5 (by simp[a0F];omega)]
 rw[hlen,hg,hg]
 by_cases e:i*nb+j=k
 ·subst e;rw[d8 rfl]
  by_cases hk:i*nb+j<n
  ·rw[d8 hk,d8 hk,(a0j hj).1,(a0j hj).2,d8 ⟨rfl,rfl⟩]
  ·rw[d6 hk,d6 hk]
 ·rw[d6 e]
  by_cases hk:k<n
  ·rw[d8 hk,d8 hk,d6];rintro⟨rfl,rfl⟩;apply e;have:=a4r k nb;rw[O0]at this;exact this
  ·rw[d6 hk,d6 hk]
theorem a1o (l:List UInt8) (h:l.length=16):I3 l=l.map bv:=by
 match l,h with
 | [a0,a1,a2,a3,a4,a5,a6,a7,a8,a9,a10,a11,a12,a13,a14,a15],_=>rfl
theorem V6 (l:List UInt8) (h:l.length=32):R8 l=l.map bv:=by
 match l,h with
 | [a0,a1,a2,a3,a4,a5,a6,a7,a8,a9,a10,a11,a12,a13,a14,a15,a16,a17,a18,a19,a20,a21,a22,a23,a24,a25,a26,a27,a28,a29,a30,a31],_=>rfl
theorem I6:∀(l:List NCell),(O6 l).length=l.length*34
 | []=>rfl
 | c::l=>by
  have:=I6 l;simp only[O6,u0,f8,l5]at this ⊢;rw[this,show c.vals.length=34 from rfl];omega
theorem a6h:∀(l:List NCell) (r:List Value) (z:Nat) (c:NCell),l[z]? =some c->((O6 l++r).drop (z*34)).take 34=c.vals
 | [],r,z,c,h=>by simp at h
 | x::l,r,0,c,h=>by
  simp at h;subst h;simp only[O6,u0,m7,P8,a1t];have:=List.take_left (l₁:=x.vals) (l₂:=List.flatMap NCell.vals l++r);exact this
 | x::l,r,z+1,c,h=>by
  have:=a6h l r z c (by simpa using h);simp only[O6,u0,m7,K6]at this ⊢;rw[show z*34+34=x.vals.length+z*34 from by show _=34+_;omega,<- C0,List.drop_left];exact this
theorem b2j {l:List NCell} {z:Nat} {c:NCell} (h:l[z]? =some c):((O6 l).drop (z*34)).take 32=R8 c.p:=by
 have h1:=a6h l [] z c h;rw[m6]at h1;have:=congrArg (List.take 32) h1;rw[a5D]at this;exact this
theorem a6H {l:List NCell} {z k:Nat} {c:NCell} (h:l[z]? =some c) (hk:k<34):(O6 l)[z*34+k]? =c.vals[k]?:=by
 have h1:=a6h l [] z c h;rw[m6]at h1;rw[<- h1,C2,d8 hk,K8]
theorem J.closeN {X:Cx} {K:List KI} {E:Env} {L L':List Atom} (p:Nat) (N N':Nand) (Y:NLoc) (i j:Nat) (hj:j<N.blocks) (B:NBlock) (c:Option Nat×Nat) (is:List Nat) (ok:P4 L is=true)
  (hp:N9 L is=[.pt p 92 (N'.mainV Y),U8 Y.r a3v (a3T N.blocks (N.dies*N.blocks) Y.bp),a1z Y.q N'.plan, .pt Y.d 4 (N'.dead.map Value.bool), .hp (HP.of ((a0F N.blocks (N.dies*N.blocks) Y.bp N.blk).set (i*N.blocks+j) .emp)),
   .pt (Y.bp (i*N.blocks+j)) 107 [slv c.1 B.cells.length c.2,iI B.worn, .bool B.fails, .bool B.met],m9 112 34 c.1 B.cells.length c.2 (O6 B.cells)])
  (h1:N'.dies=N.dies) (h2:N'.blocks=N.blocks) (hB:N'.blk=λa b=>if a=i/\b=j then B else N.blk a b) (hL:a0W L is [B8 p N']=some L') (h:J X K E L'):J X K E L:=by
 refine J.turn1 is ok (λh' s=>?_) hL h;rw[hp]at s;have s1:=s.turn1 [5,6] rfl (As:=[a8U (Y.bp (i*N.blocks+j)) B]) (λh2 s2=>⟨λ_=>0,λk A hA=>by
  cases k with
  | zero=>simp at hA;subst hA;exact⟨c,s2.up λb o hb=>res_some.2 ⟨rfl,hb⟩⟩
  | succ k=>simp at hA⟩)
 have s2:=s1.turn1 [4,5] rfl (As:=[.hp (HP.of ((a0F N.blocks (N.dies*N.blocks) Y.bp N.blk).set (i*N.blocks+j) (a8U (Y.bp (i*N.blocks+j)) B)))]) (λh2 s2=>Sep.closeAt s2);rw[b5B _ _ _ _ _ _ _ hj,<- hB]at s2;have s3:=s2.sub [0,1,2,3,4] rfl;refine⟨λ_=>0,λk A hA=>?_⟩;cases k with
 | zero=>
  simp at hA;subst hA;refine⟨Y,?_⟩;have:a0y p N' Y=[.pt p 92 (N'.mainV Y),U8 Y.r a3v (a3T N.blocks (N.dies*N.blocks) Y.bp),a1z Y.q N'.plan, .pt Y.d 4 (N'.dead.map Value.bool), .hp (HP.of (a0F N.blocks (N.dies*N.blocks) Y.bp N'.blk))]:=by rw[a0y,h1,h2]
  rw[this];exact s3.up λb o hb=>res_some.2 ⟨rfl,hb⟩
 | succ k=>simp at hA
theorem V9 (f:Nat->Nat->NBlock) (i j:Nat):f=λa b=>if a=i/\b=j then f i j else f a b:=by
 funext a b;split
 ·rename_i h;rw[h.1,h.2]
 ·rfl
theorem Nand.Ok.bd {N:Nand} (h:N.Ok):(3<=N.dies/\N.dies<=6)/\(8<=N.blocks/\N.blocks<=16)/\(2<=N.pages/\N.pages<=8):=by
 have:=h.geo;simp[O8]at this;omega
theorem a5T (p:Nat) (N:Nand) (hN:N.Ok) (x y z:Int):FP 218 [pp p, .agg #[iI x,iI y,iI z]] [B8 p N] (Ps (iI (N.refuses x y z)) [B8 p N]):=by
 have hbd:=hN.bd;refine FE [2,0] Tryz.func218 λX F hX=>?_;refine J.o (α:=NLoc) 1 λY=>?_;refine J.qF λ_=>?_;refine J.qd (λ_ h1=>?_) λ_ h1=>?_
 ·refine J.q λ_=>?_;refine J.cl (a0y p N) (Y) [1,2,3,4,5] ?_;refine J.qr [1] λ_=>?_;exact⟨by simp[Nand.refuses,h1],rfl⟩
 refine J.pq (.of [0,4,8,13,17,22,24,28]) [] [1,2,3,4,5,6] λ_ _=>?_;refine J.ca hX (by kernel_rfl) (b2c _ _ _ x y z (by omega) (by omega) (by omega)) [] 0 rfl rfl rfl rfl rfl rfl (λ_=>rfl) ?_;refine cpq ⟨_,rfl,⟨rfl,rfl,rfl,rfl,rfl,rfl,trivial⟩,?_⟩;refine J.qd (λ_ h2=>?_) λ_ h2=>?_
 ·refine J.q λ_=>?_;refine J.cl (a0y p N) (Y) [1,2,3,4,5] ?_;refine J.qr [1] λ_=>?_;simp only[i4]at h2;exact⟨by simp[Nand.refuses,h1,h2],rfl⟩
 simp only[A9]at h2;have h3:(0<=x/\x<N.dies):=by simp[V8]at h2;omega
 obtain⟨i,rfl⟩:=f9 h3.1;have h4:i<N.dead.length:=by rw[hN.dead];omega
 refine J.pq (.of [0,4,8,13,16,21,24,29,32]) [] [1,2,3,4,5,6] λ_ _=>?_;refine J.vT (.bool N.dead[i]) rfl rfl (λ_ a w he hC=>?_) ?_
 ·exact D4 tk rfl rfl he rfl rfl rfl (hC rfl _ (B6 (i:=4) rfl)) (by simp[h4])
 refine J.qd (λ_ h5=>?_) λ_ h5=>?_
 ·refine J.q λ_=>?_;refine J.cl (a0y p N) (Y) [1,2,3,4,5] ?_;refine J.qr [1] λ_=>?_;exact⟨by simp[Nand.refuses,h1,h2,h4,h5],rfl⟩
 refine J.q λ_=>?_;refine J.cl (a0y p N) (Y) [1,2,3,4,5] ?_;refine J.qr [1] λ_=>?_;exact⟨by simp[Nand.refuses,h1,h2,h4,h5],rfl⟩
theorem a2A (x y:Int):FP 53 [iI x,iI y] [] (Ps (.agg #[iI x,iI y,iI 0]) []):=by
 refine FE [] Tryz.func53 λX F hX=>?_;exact J.qx []
theorem a3k:Tryz.prog.underlying 89=some (.map 39 103):=by kernel_rfl
end
end Go.Proofs.YtmafiplddapokaaGreat
