/- Helpers. No condition. -/
import Derived.Test.YtgkpkpbnonmopaaGreatC01
import Derived.Test.YtgkpkpbnonmopaaGreatC02
import Derived.WalkKit
set_option maxRecDepth 20000
set_option linter.all false
namespace Go.Proofs.YtgkpkpbnonmopaaGreat
open Go.RowKit

set_option maxHeartbeats 400000 in
theorem K6 (n a b:Int) (w:World):
  Calls Tryz.prog 107 #[.int .i64 n, .int .i64 a, .int .i64 b] w λe w'=>e= .returned (.bool (decide (a<=n)&&decide (n<=b)))/\w=w':=by
 by_cases h0:a<=n
 ·go_enter Tryz.func107,Tryz.ntmps107
  go_wp2
  go_ret
  exact⟨J7 (by simp[h0]),rfl⟩
 ·go_enter Tryz.func107,Tryz.ntmps107
  go_wp2
  go_ret
  exact⟨J7 (by simp;omega),rfl⟩

set_option maxHeartbeats 400000 in
theorem b1Q (m:Int) (w:World):
  Calls Tryz.prog 132 #[.int .i64 m] w λe w'=>e= .returned (.int .i64 (G.slots m))/\w=w':=by
 have hc:=L.count_le m
 by_cases h:L.count m<2
 ·have hs:=Lib.hid (show G.slots m=0 by simp[G.slots,h])
  go_enter Tryz.func132,Tryz.ntmps132
  go_wp2_with (go_at_call 192;refine(x7 _ _).mono ?_;rintro e w' ⟨rfl,rfl⟩)
  go_ret
  exact⟨M9 hs.out.symm,rfl⟩
 ·have hs:=Lib.hid (show G.slots m=(L.count m:Int)-1 by simp[G.slots,h])
  go_enter Tryz.func132,Tryz.ntmps132
  go_wp2_with (go_at_call 192;refine(x7 _ _).mono ?_;rintro e w' ⟨rfl,rfl⟩)
  go_ret
  exact⟨M9 hs.out.symm,rfl⟩

set_option maxHeartbeats 400000 in
theorem Q7 (m b r:Int) (w:World):
  Calls Tryz.prog 164 #[.int .i64 m, .int .i64 b, .int .i64 r] w λe w'=>e= .returned (.int .i64 (G.parity m b r))/\∃n,w'=w.drewN n:=by
 have hc:=L.count_le m
 by_cases h:L.count m<2
 ·have hs:=Lib.hid (show G.parity m b r= -1 by simp[G.parity,h])
  go_enter Tryz.func164,Tryz.ntmps164
  go_wp2_with (go_at_call 192;refine(x7 _ _).mono ?_;rintro e w' ⟨rfl,rfl⟩)
  go_ret
  exact⟨M9 hs.out.symm,0,rfl⟩
 ·by_cases hb:b<0
  ·have hs:=Lib.hid (show G.parity m b r= -1 by simp[G.parity,hb])
   go_enter Tryz.func164,Tryz.ntmps164
   go_wp2_with (go_at_call 192;refine(x7 _ _).mono ?_;rintro e w' ⟨rfl,rfl⟩)
   go_ret
   exact⟨M9 hs.out.symm,0,rfl⟩
  ·by_cases hr:r<0
   ·have hs:=Lib.hid (show G.parity m b r= -1 by simp[G.parity,hr])
    go_enter Tryz.func164,Tryz.ntmps164
    go_wp2_with (go_at_call 192;refine(x7 _ _).mono ?_;rintro e w' ⟨rfl,rfl⟩)
    go_ret
    exact⟨M9 hs.out.symm,0,rfl⟩
   ·have hs:=Lib.hid (show G.parity m b r=L.at_ m ((b+r) % (L.count m:Int))by simp[G.parity,h,hb,hr]);have hn0:(0:Int)<(L.count m:Int):=by omega
    have h1:=Int.emod_nonneg b (by omega:(L.count m:Int)≠0);have h2:=Int.emod_lt_of_pos b hn0;have h3:=Int.emod_nonneg r (by omega:(L.count m:Int)≠0);have h4:=Int.emod_lt_of_pos r hn0;have h5:=Int.emod_nonneg (b+r) (by omega:(L.count m:Int)≠0);have h6:=Int.emod_lt_of_pos (b+r) hn0;have hne:¬L.count m=0:=by omega
    have e1:b.tmod (L.count m:Int)=b % (L.count m:Int):=Int.tmod_eq_emod_of_nonneg (by omega);have e2:r.tmod (L.count m:Int)=r % (L.count m:Int):=Int.tmod_eq_emod_of_nonneg (by omega);have e3:(b % (L.count m:Int)+r % (L.count m:Int)).tmod (L.count m:Int)=(b % (L.count m:Int)+r % (L.count m:Int)) % (L.count m:Int):=Int.tmod_eq_emod_of_nonneg (by omega);have e4:IntKind.i64.wrap (b % (L.count m:Int)+r % (L.count m:Int))=b % (L.count m:Int)+r % (L.count m:Int):=IntWalk.i64_in _ (by omega)
    go_enter Tryz.func164,Tryz.ntmps164
    go_wp2_with (first | (go_at_call 192;refine(x7 _ _).mono ?_;rintro e w' ⟨rfl,rfl⟩))
    go_quiet ((go_at_call 195;exact Calls.quiet_of_same ((a6N _ _ (by omega) (by omega) _).mono λ_ _ h=>⟨h.1,h.2.symm⟩)))
    go_wp2
    go_ret
    exact⟨M9 hs.out.symm,_,rfl⟩

set_option maxHeartbeats 400000 in
theorem b6B (m b r s:Int) (h0: -1000000<=s) (h1:s<=1000000) (w:World):
  Calls Tryz.prog 136 #[.int .i64 m, .int .i64 b, .int .i64 r, .int .i64 s] w λe w'=>e= .returned (.int .i64 (G.die m b r s))/\∃n,w'=w.drewN n:=by
 by_cases hp:G.parity m b r<0
 ·have hs:=Lib.hid (show G.die m b r s= -1 by simp[G.die,hp])
  go_enter Tryz.func136,Tryz.ntmps136
  go_wp2_with (go_at_call 164;refine(Q7 _ _ _ _).mono ?_;rintro e w' ⟨rfl,n,rfl⟩)
  go_ret
  exact⟨M9 hs.out.symm,_,rfl⟩
 ·have hs:=Lib.hid (show G.die m b r s=L.at_ (L.without m (G.parity m b r)) s by simp[G.die,hp])
  go_enter Tryz.func136,Tryz.ntmps136
  go_wp2_with (first | (go_at_call 164;refine(Q7 _ _ _ _).mono ?_;rintro e w' ⟨rfl,n,rfl⟩) | (go_at_call 196;refine(X2 _ _ _).mono ?_;rintro e w' ⟨rfl,rfl⟩) | (go_at_call 195;refine(a6N _ _ h0 h1 _).mono ?_;rintro e w' ⟨rfl,rfl⟩))
  go_ret
  exact⟨M9 hs.out.symm,_,rfl⟩

set_option maxHeartbeats 400000 in
theorem b4B (m b r s:Int) (w:World):
  Calls Tryz.prog 322 #[.int .i64 m, .int .i64 b, .int .i64 r, .int .i64 s] w λe w'=>e= .returned (.int .i64 (G.slot m b r s))/\∃n,w'=w.drewN n:=by
 by_cases hp:G.parity m b r<0
 ·have hs:=Lib.hid (show G.slot m b r s= -1 by simp[G.slot,hp])
  go_enter Tryz.func322,Tryz.ntmps322
  go_wp2_with (go_at_call 164;refine(Q7 _ _ _ _).mono ?_;rintro e w' ⟨rfl,n,rfl⟩)
  go_ret
  exact⟨M9 hs.out.symm,_,rfl⟩
 ·have hs:=Lib.hid (show G.slot m b r s=L.spot (L.without m (G.parity m b r)) s by simp[G.slot,hp])
  go_enter Tryz.func322,Tryz.ntmps322
  go_wp2_with (first | (go_at_call 164;refine(Q7 _ _ _ _).mono ?_;rintro e w' ⟨rfl,n,rfl⟩) | (go_at_call 196;refine(X2 _ _ _).mono ?_;rintro e w' ⟨rfl,rfl⟩) | (go_at_call 326;refine(a5J _ _ _).mono ?_;rintro e w' ⟨rfl,rfl⟩))
  go_ret
  exact⟨M9 hs.out.symm,_,rfl⟩

def a0Q (d b p:Int):Bool:=decide (3<=d/\d<=6)&&decide (8<=b/\b<=16)&&decide (2<=p/\p<=8)
set_option maxHeartbeats 400000 in
theorem b6A (d b p:Int) (w:World):
  Calls Tryz.prog 65 #[.agg #[.int .i64 d, .int .i64 b, .int .i64 p]] w λe w'=>e= .returned (.bool (a0Q d b p))/\Below w.heap.size w w':=by
 by_cases h1:3<=d/\d<=6
 ·have e1:(decide (3<=d)&&decide (d<=6))=true:=by simp[h1]
  by_cases h2:8<=b/\b<=16
  ·have e2:(decide (8<=b)&&decide (b<=16))=true:=by simp[h2]
   have hs:=Lib.hid (show a0Q d b p=(decide (2<=p)&&decide (p<=8))by simp[a0Q,h1,h2])
   go_enter Tryz.func65,Tryz.ntmps65
   go_wp2_with (go_at_call 107;refine(K6 _ _ _ _).mono ?_;rintro e w' ⟨rfl,rfl⟩)
   go_ret
   exact⟨J7 hs.out.symm,(Below.refl _ _).alloc (Nat.le_refl _) _⟩
  ·have e2:(decide (8<=b)&&decide (b<=16))=false:=by simp;omega
   have hs:=Lib.hid (show a0Q d b p=false by simp[a0Q,h2])
   go_enter Tryz.func65,Tryz.ntmps65
   go_wp2_with (go_at_call 107;refine(K6 _ _ _ _).mono ?_;rintro e w' ⟨rfl,rfl⟩)
   go_ret
   exact⟨J7 hs.out.symm,(Below.refl _ _).alloc (Nat.le_refl _) _⟩
 ·have e1:(decide (3<=d)&&decide (d<=6))=false:=by simp;omega
  have hs:=Lib.hid (show a0Q d b p=false by simp[a0Q,h1])
  go_enter Tryz.func65,Tryz.ntmps65
  go_wp2_with (go_at_call 107;refine(K6 _ _ _ _).mono ?_;rintro e w' ⟨rfl,rfl⟩)
  go_ret
  exact⟨J7 hs.out.symm,(Below.refl _ _).alloc (Nat.le_refl _) _⟩

def a4r (d b p x y z:Int):Bool:=decide (0<=x/\x<d)&&decide (0<=y/\y<b)&&decide (0<=z/\z<p)
set_option maxRecDepth 100000 in
set_option maxHeartbeats 400000 in
theorem b7W (d b p x y z:Int) (hd:0<=d/\d<=1000000) (hb:0<=b/\b<=1000000) (hp:0<=p/\p<=1000000) (w:World):
  Calls Tryz.prog 137 #[.agg #[.int .i64 d, .int .i64 b, .int .i64 p], .agg #[.int .i64 x, .int .i64 y, .int .i64 z]] w λe w'=>e= .returned (.bool (a4r d b p x y z))/\Below w.heap.size w w':=by
 by_cases h1:0<=x/\x<d
 ·have e1:(decide (0<=x)&&decide (x<=d-1))=true:=by simp;omega
  by_cases h2:0<=y/\y<b
  ·have e2:(decide (0<=y)&&decide (y<=b-1))=true:=by simp;omega
   have hs:=Lib.hid (show a4r d b p x y z=(decide (0<=z)&&decide (z<=p-1))by rw[Bool.eq_iff_iff];simp[a4r,h1,h2];omega)
   go_enter Tryz.func137,Tryz.ntmps137
   go_wp2_with (go_at_call 107;refine(K6 _ _ _ _).mono ?_;rintro e w' ⟨rfl,rfl⟩)
   go_ret
   exact⟨J7 hs.out.symm,((Below.refl _ _).alloc (Nat.le_refl _) _).alloc (by simp) _⟩
  ·have e2:(decide (0<=y)&&decide (y<=b-1))=false:=by rw[Bool.eq_false_iff];simp;omega
   have hs:=Lib.hid (show a4r d b p x y z=false by simp only[a4r,h2,decide_false,Bool.and_false,Bool.false_and])
   go_enter Tryz.func137,Tryz.ntmps137
   go_wp2_with (go_at_call 107;refine(K6 _ _ _ _).mono ?_;rintro e w' ⟨rfl,rfl⟩)
   go_ret
   exact⟨J7 hs.out.symm,((Below.refl _ _).alloc (Nat.le_refl _) _).alloc (by simp) _⟩
 ·have e1:(decide (0<=x)&&decide (x<=d-1))=false:=by rw[Bool.eq_false_iff];simp;omega
  have hs:=Lib.hid (show a4r d b p x y z=false by simp only[a4r,h1,decide_false,Bool.false_and])
  go_enter Tryz.func137,Tryz.ntmps137
  go_wp2_with (go_at_call 107;refine(K6 _ _ _ _).mono ?_;rintro e w' ⟨rfl,rfl⟩)
  go_ret
  exact⟨J7 hs.out.symm,((Below.refl _ _).alloc (Nat.le_refl _) _).alloc (by simp) _⟩

abbrev A3:=Int×Int×Int
def a3c (a:A3):List Value:=[.int .i64 a.1, .int .i64 a.2.1, .int .i64 a.2.2]
def a3v (a:A3):Value:= .agg #[.int .i64 a.1, .int .i64 a.2.1, .int .i64 a.2.2]
theorem b3X:B1 Tryz.prog 100 52=some [.int .i64, .int .i64, .int .i64]:=by kernel_rfl
theorem b8a (a b:A3):j8 (a3c a) (a3c b)=decide (a=b):=by
 obtain⟨a1,a2,a3⟩:=a;obtain⟨b1,b2,b3⟩:=b;rw[Bool.eq_iff_iff];simp[a3c,j8,a0X]
theorem J8:KeyOk Tryz.prog 52 a3v where
 now:=⟨_,Tryz.underlying52,λ_ _=> .inl rfl⟩
 eq:=λa b w=>by
  have hm:∀xs,mkV Tryz.prog 52 xs= .agg xs.toArray:=λxs=>by simp[mkV,Tryz.underlying52]
  have:=C0 100 52 _ b3X 10000 (by omega) (a3c a) (a3c b) ⟨rfl,rfl,rfl,trivial⟩ ⟨rfl,rfl,rfl,trivial⟩ w;rw[b8a,hm,hm]at this;exact this
 check:=λe a w=>by kernel_rfl
 bits:=λa=>by
  obtain⟨a1,a2,a3⟩:=a;simp[a3v,Instr.sameBits]

def C8 (l:List A3):List (A3×Value):=l.map λa=>(a, .bool true)
theorem a2S (l:List A3) (a:A3):((y5 (C8 l) a).getD (.bool false)= .bool (decide (a∈l)))/\(y5 (C8 l) a).isSome=decide (a∈l):=by
 induction l with
 | nil=>exact⟨rfl,rfl⟩
 | cons x l ih=>
  simp only[C8,List.map_cons,y5]
  by_cases h:a=x
  ·simp[h]
  ·have:¬(a=(x,Value.bool true).1):=h;simp only[if_neg this,List.mem_cons,h,false_or];exact ih


def b2l (l:List A3) (a:A3):List A3:=if a∈l then l else l++[a]
theorem a9P (l:List A3) (a:A3):a0Y (C8 l) a=C8 (l.erase a):=by
 induction l with
 | nil=>rfl
 | cons x l ih=>
  rw[List.erase_cons];simp only[C8,List.map_cons,a0Y]
  by_cases h:a=x
  ·subst h;simp
  ·have h2:¬(x==a)=true:=by simpa using Ne.symm h
   rw[if_neg h,if_neg h2,List.map_cons];exact congrArg _ ih
theorem a9M (l:List A3) (a:A3):O1 (C8 l) a (.bool true)=C8 (b2l l a):=by
 unfold b2l
 induction l with
 | nil=>rfl
 | cons x l ih=>
  simp only[C8,List.map_cons,O1]
  by_cases h:a=x
  ·subst h;simp
  ·rw[if_neg h];have:(a∈x::l)↔a∈l:=by simp[h]
   simp only[this];split
   ·rename_i h3;rw[if_pos h3]at ih;simp only[List.map_cons];exact congrArg _ ih
   ·rename_i h3;rw[if_neg h3]at ih;simp only[List.cons_append,List.map_cons];exact congrArg _ ih

end Go.Proofs.YtgkpkpbnonmopaaGreat
namespace Go.Proofs.YtgkpkpbnonmopaaGreat
open Go Go.RowKit
abbrev pp (n:Nat):Value:= .pointer (some ⟨n,0,none⟩)
abbrev iI (x:Int):Value:= .int .i64 x
abbrev si (k:Nat) (x:Int):Slot:=⟨k, .int .i64 x,0, .tt⟩
abbrev sp (k n:Nat):Slot:=⟨k, .pointer (some ⟨n,0,none⟩),0, .tt⟩
abbrev sv (k:Nat) (v:Value):Slot:=⟨k,v,0, .tt⟩
abbrev FP:=Fn Tryz.prog
theorem FE {f:FuncId} {args:List Value} {Pre:List Atom} {Post:Value->List Atom->Prop} {fn:Func} {c:Code} {N:Nat} (tags:List Nat) (hf:Tryz.prog.funcs[f]? =some fn)
  (h:∀(X:Cx) (F:HP),IsCx X Tryz.prog fn.results.toList N F Post->J X [.code c] (a2R keys args tags) (.hp F::Pre)) (hb:fn.body=some c:=by exact rfl) (hN:fn.ntmps=N:=by exact rfl) (hl:Nat.ble args.length N=true:=by exact rfl):Fn Tryz.prog f args Pre Post:=Fn.enter tags hf hb hN hl h
abbrev Ps (V:Value) (M:List Atom):Value->List Atom->Prop:=λv As=>v=V/\As=M
theorem aq_ (h:True:=by intros;(repeat' (first | exact Conj.nil | refine Conj.cons ?_ ?_ | omega | exact hq0 | (simpa using hq0) | (exactλh=>h) | exact rfl | (intro hq;have hq0:=hq;try simp only[Bool.and_eq_true,Bool.or_eq_true,decide_eq_true_eq,Bool.not_eq_true',decide_eq_false_iff_not]at hq) | (simp;done) | (simp;omega) | decide))):True:=h
theorem cpq {V:Value} {M:List Atom} {R:Value->List Atom->Prop} (h:R V M):∀v As,(v=V/\As=M)->R v As:=by
 rintro v As ⟨rfl,rfl⟩;exact h
section
variable {X : Cx} {K : List KI} {E : Env} {L : List Atom} {N : Nat} {F : HP} {Post : Value → List Atom → Prop} {rs : List ResultVar}
theorem J.q {K':(Nat->Nat)->List KI} {E':(Nat->Nat)->Env} {L':(Nat->Nat)->List Atom} {ob:(Nat->Nat)->List Prop} (hJ:∀bs,J X (K' bs) (E' bs) (L' bs))
  (hX:IsCx X Tryz.prog rs N F Post:=by assumption) (h:∀bs,Go.Proofs.YtgkpkpbnonmopaaGreat.run tab N bs 400 K E L [] 0=⟨K' bs,E' bs,L' bs,ob bs⟩:=by exactλ_=>rfl) (hob:autoParam (∀bs,Conj (ob bs)) aq_._auto_1):J X K E L:=J.run hX tk 400 h hob hJ
theorem J.ru (hX:IsCx X Tryz.prog rs N F Post) {v:Value} {ob:List Prop} (is:List Nat) (hP:Post v (q9 L is)) (h:a3L tab E L rs=some (v,ob):=by exact rfl) (ok:x6 L (0::is)=true:=by exact rfl) (h0:n9 L 0=some (.hp F):=by exact rfl) (hob:autoParam (Conj ob) aq_._auto_1):J X (.code .ret::K) E L:=J.ret hX tk is h hob ok h0 hP
theorem J.cb {ops:Array Oper} {C:Cl} {l:Bool} {i:Nat} {t:PT} {o:Oper} {g:G} {f:FuncId} {vs:List Value} {ob:List Prop} {Pre:List Atom} {Po:Value->List Atom->Prop} {E':Value->Env}
  (c:Fn Tryz.prog f vs Pre Po) (is:List Nat) (hJ:∀v As,Po v As->∃L',O0 L is As=some L'/\Conj (t8 l C L')/\J X (.reg ops C t::K) (E' v) L') (hX:IsCx X Tryz.prog rs N F Post:=by assumption) (ho:n9 ops.toList i=some o:=by exact rfl) (hg:gd ops.toList E o=some g:=by exact rfl) (hgo:g.on=true:=by exact rfl) (hc:a4H E o.op=some (f,vs,ob):=by exact rfl) (hf:n6 Tryz.prog f=true:=by kernel_rfl) (ok:x6 L is=true:=by exact rfl) (hp:q9 L is=Pre:=by exact rfl)
  (hd:∀v,D7 N o.dst v 0 .tt E=some (E' v):=by exactλ_=>rfl) (hob:autoParam (Conj ob) aq_._auto_1):J X (.reg ops C (.alt l i t .non)::K) E L:=J.call hX hf c is 0 ho hg hgo hc hob ok hp hd hJ
theorem J.qn (n:Nat) {K':(Nat->Nat)->List KI} {E':(Nat->Nat)->Env} {L':(Nat->Nat)->List Atom} {ob:(Nat->Nat)->List Prop} (hJ:∀bs,J X (K' bs) (E' bs) (L' bs))
  (hX:IsCx X Tryz.prog rs N F Post:=by assumption) (h:∀bs,Go.Proofs.YtgkpkpbnonmopaaGreat.run tab N bs n K E L [] 0=⟨K' bs,E' bs,L' bs,ob bs⟩:=by exactλ_=>rfl) (hob:autoParam (∀bs,Conj (ob bs)) aq_._auto_1):J X K E L:=J.run hX tk n h hob hJ
theorem J.cF {c:Operand} {x y:Code} {k tag:Nat} {b:Bool} (hJ:J X (.code y::K) E L) (hc:ev E c=some ⟨k, .bool b,tag, .tt⟩:=by exact rfl) (hb:b=false:=by first | exact rfl | decide | simp):J X (.code (.cond c x y)::K) E L:=J.cond hc (λh=>by rw[hb]at h;cases h) (λ_=>hJ)
theorem J.cT {c:Operand} {x y:Code} {k tag:Nat} {b:Bool} (hJ:J X (.code x::K) E L) (hc:ev E c=some ⟨k, .bool b,tag, .tt⟩:=by exact rfl) (hb:b=true:=by first | exact rfl | decide | simp):J X (.code (.cond c x y)::K) E L:=J.cond hc (λ_=>hJ) (λh=>by rw[hb]at h;cases h)
theorem J.qd {K' K2:(Nat->Nat)->List KI} {E':(Nat->Nat)->Env} {L':(Nat->Nat)->List Atom} {ob:(Nat->Nat)->List Prop} {c:(Nat->Nat)->Operand} {x y:(Nat->Nat)->Code} {k tag:(Nat->Nat)->Nat} {b:(Nat->Nat)->Bool} (h1:∀bs,b bs=true->J X (.code (x bs)::K2 bs) (E' bs) (L' bs)) (h2:∀bs,b bs=false->J X (.code (y bs)::K2 bs) (E' bs) (L' bs))
  (hX:IsCx X Tryz.prog rs N F Post:=by assumption) (h:∀bs,Go.Proofs.YtgkpkpbnonmopaaGreat.run tab N bs 400 K E L [] 0=⟨K' bs,E' bs,L' bs,ob bs⟩:=by exactλ_=>rfl) (hob:autoParam (∀bs,Conj (ob bs)) aq_._auto_1) (hk:∀bs,K' bs= .code (.cond (c bs) (x bs) (y bs))::K2 bs:=by exactλ_=>rfl) (hc:∀bs,ev (E' bs) (c bs)=some ⟨k bs, .bool (b bs),tag bs, .tt⟩:=by exactλ_=>rfl):J X K E L:=J.run hX tk 400 h hob λbs=>by rw[hk bs];exact J.cond (hc bs) (h1 bs) (h2 bs)
theorem J.qF {K' K2:(Nat->Nat)->List KI} {E':(Nat->Nat)->Env} {L':(Nat->Nat)->List Atom} {ob:(Nat->Nat)->List Prop} {c:(Nat->Nat)->Operand} {x y:(Nat->Nat)->Code} {k tag:(Nat->Nat)->Nat} {b:(Nat->Nat)->Bool} (hJ:∀bs,J X (.code (y bs)::K2 bs) (E' bs) (L' bs))
  (hX:IsCx X Tryz.prog rs N F Post:=by assumption) (h:∀bs,Go.Proofs.YtgkpkpbnonmopaaGreat.run tab N bs 400 K E L [] 0=⟨K' bs,E' bs,L' bs,ob bs⟩:=by exactλ_=>rfl) (hob:autoParam (∀bs,Conj (ob bs)) aq_._auto_1) (hk:∀bs,K' bs= .code (.cond (c bs) (x bs) (y bs))::K2 bs:=by exactλ_=>rfl) (hc:∀bs,ev (E' bs) (c bs)=some ⟨k bs, .bool (b bs),tag bs, .tt⟩:=by exactλ_=>rfl) (hb:∀bs,b bs=false:=by intro bs;first | exact rfl | decide | simp):J X K E L:=J.run hX tk 400 h hob λbs=>by rw[hk bs];exact J.cond (hc bs) (λh=>by rw[hb]at h;cases h) (λ_=>hJ bs)
theorem J.qT {K' K2:(Nat->Nat)->List KI} {E':(Nat->Nat)->Env} {L':(Nat->Nat)->List Atom} {ob:(Nat->Nat)->List Prop} {c:(Nat->Nat)->Operand} {x y:(Nat->Nat)->Code} {k tag:(Nat->Nat)->Nat} {b:(Nat->Nat)->Bool} (hJ:∀bs,J X (.code (x bs)::K2 bs) (E' bs) (L' bs))
  (hX:IsCx X Tryz.prog rs N F Post:=by assumption) (h:∀bs,Go.Proofs.YtgkpkpbnonmopaaGreat.run tab N bs 400 K E L [] 0=⟨K' bs,E' bs,L' bs,ob bs⟩:=by exactλ_=>rfl) (hob:autoParam (∀bs,Conj (ob bs)) aq_._auto_1) (hk:∀bs,K' bs= .code (.cond (c bs) (x bs) (y bs))::K2 bs:=by exactλ_=>rfl) (hc:∀bs,ev (E' bs) (c bs)=some ⟨k bs, .bool (b bs),tag bs, .tt⟩:=by exactλ_=>rfl) (hb:∀bs,b bs=true:=by intro bs;first | exact rfl | decide | simp):J X K E L:=J.run hX tk 400 h hob λbs=>by rw[hk bs];exact J.cond (hc bs) (λ_=>hJ bs) (λh=>by rw[hb]at h;cases h)
theorem J.qr {K':(Nat->Nat)->List KI} {E':(Nat->Nat)->Env} {L':(Nat->Nat)->List Atom} {ob ob2:(Nat->Nat)->List Prop} {K2:(Nat->Nat)->List KI} {v:(Nat->Nat)->Value} (is:List Nat) (hP:∀bs,Post (v bs) (q9 (L' bs) is))
  (hX:IsCx X Tryz.prog rs N F Post:=by assumption) (h:∀bs,Go.Proofs.YtgkpkpbnonmopaaGreat.run tab N bs 400 K E L [] 0=⟨K' bs,E' bs,L' bs,ob bs⟩:=by exactλ_=>rfl) (hob:autoParam (∀bs,Conj (ob bs)) aq_._auto_1) (hk:∀bs,K' bs= .code .ret::K2 bs:=by exactλ_=>rfl) (hr:∀bs,a3L tab (E' bs) (L' bs) rs=some (v bs,ob2 bs):=by exactλ_=>rfl) (ok:∀bs,x6 (L' bs) (0::is)=true:=by exactλ_=>rfl) (h0:∀bs,n9 (L' bs) 0=some (.hp F):=by exactλ_=>rfl) (hob2:autoParam (∀bs,Conj (ob2 bs)) aq_._auto_1):J X K E L:=J.run hX tk 400 h hob λbs=>by rw[hk bs];exact J.ret hX tk is (hr bs) (hob2 bs) (ok bs) (h0 bs) (hP bs)
theorem J.qc {K' K2:(Nat->Nat)->List KI} {E':(Nat->Nat)->Env} {L':(Nat->Nat)->List Atom} {ob:(Nat->Nat)->List Prop} {ob2:(Nat->Nat)->List Prop} {ops:(Nat->Nat)->Array Oper} {C:(Nat->Nat)->Cl} {l:(Nat->Nat)->Bool} {i:(Nat->Nat)->Nat} {t:(Nat->Nat)->PT} {o:(Nat->Nat)->Oper} {g:(Nat->Nat)->G} {f:FuncId} {vs:List Value} {Pre:List Atom} {Po:Value->List Atom->Prop} {E2:(Nat->Nat)->Value->Env}
  (c:Fn Tryz.prog f vs Pre Po) (is:List Nat) (hJ:∀bs,∀v As,Po v As->∃L2,O0 (L' bs) is As=some L2/\Conj (t8 (l bs) (C bs) L2)/\J X (.reg (ops bs) (C bs) (t bs)::K2 bs) (E2 bs v) L2)
  (hX:IsCx X Tryz.prog rs N F Post:=by assumption) (h:∀bs,Go.Proofs.YtgkpkpbnonmopaaGreat.run tab N bs 400 K E L [] 0=⟨K' bs,E' bs,L' bs,ob bs⟩:=by exactλ_=>rfl) (hob:autoParam (∀bs,Conj (ob bs)) aq_._auto_1) (hk:∀bs,K' bs= .reg (ops bs) (C bs) (.alt (l bs) (i bs) (t bs) .non)::K2 bs:=by exactλ_=>rfl) (ho:∀bs,n9 (ops bs).toList (i bs)=some (o bs):=by exactλ_=>rfl) (hg:∀bs,gd (ops bs).toList (E' bs) (o bs)=some (g bs):=by exactλ_=>rfl) (hgo:∀bs,(g bs).on=true:=by exactλ_=>rfl) (hc:∀bs,a4H (E' bs) (o bs).op=some (f,vs,ob2 bs):=by exactλ_=>rfl) (hf:n6 Tryz.prog f=true:=by kernel_rfl) (ok:∀bs,x6 (L' bs) is=true:=by exactλ_=>rfl) (hp:∀bs,q9 (L' bs) is=Pre:=by exactλ_=>rfl)
  (hd:∀bs v,D7 N (o bs).dst v 0 .tt (E' bs)=some (E2 bs v):=by exactλ_ _=>rfl) (hob2:autoParam (∀bs,Conj (ob2 bs)) aq_._auto_1):J X K E L:=J.run hX tk 400 h hob λbs=>by rw[hk bs];exact J.call hX hf c is 0 (ho bs) (hg bs) (hgo bs) (hc bs) (hob2 bs) (ok bs) (hp bs) (hd bs) (hJ bs)
theorem J.qp {K' K2:(Nat->Nat)->List KI} {E':(Nat->Nat)->Env} {L':(Nat->Nat)->List Atom} {ob:(Nat->Nat)->List Prop} {ob2:(Nat->Nat)->List Prop} {ops:(Nat->Nat)->Array Oper} {C:(Nat->Nat)->Cl} {l:(Nat->Nat)->Bool} {i:(Nat->Nat)->Nat} {t:(Nat->Nat)->PT} {o:(Nat->Nat)->Oper} {g:(Nat->Nat)->G} {f:FuncId} {vs:List Value} {Pre M:List Atom} {V:Value} {E2:(Nat->Nat)->Value->Env} {L2:(Nat->Nat)->List Atom}
  (c:Fn Tryz.prog f vs Pre (λv As=>v=V/\As=M)) (is:List Nat) (hJ:∀bs,J X (.reg (ops bs) (C bs) (t bs)::K2 bs) (E2 bs V) (L2 bs))
  (hX:IsCx X Tryz.prog rs N F Post:=by assumption) (h:∀bs,Go.Proofs.YtgkpkpbnonmopaaGreat.run tab N bs 400 K E L [] 0=⟨K' bs,E' bs,L' bs,ob bs⟩:=by exactλ_=>rfl) (hob:autoParam (∀bs,Conj (ob bs)) aq_._auto_1) (hk:∀bs,K' bs= .reg (ops bs) (C bs) (.alt (l bs) (i bs) (t bs) .non)::K2 bs:=by exactλ_=>rfl) (ho:∀bs,n9 (ops bs).toList (i bs)=some (o bs):=by exactλ_=>rfl) (hg:∀bs,gd (ops bs).toList (E' bs) (o bs)=some (g bs):=by exactλ_=>rfl) (hgo:∀bs,(g bs).on=true:=by exactλ_=>rfl) (hc:∀bs,a4H (E' bs) (o bs).op=some (f,vs,ob2 bs):=by exactλ_=>rfl) (hf:n6 Tryz.prog f=true:=by kernel_rfl) (ok:∀bs,x6 (L' bs) is=true:=by exactλ_=>rfl) (hp:∀bs,q9 (L' bs) is=Pre:=by exactλ_=>rfl)
  (hd:∀bs v,D7 N (o bs).dst v 0 .tt (E' bs)=some (E2 bs v):=by exactλ_ _=>rfl) (hob2:autoParam (∀bs,Conj (ob2 bs)) aq_._auto_1) (hl:∀bs,O0 (L' bs) is M=some (L2 bs):=by exactλ_=>rfl) (hs:∀bs,Conj (t8 (l bs) (C bs) (L2 bs)):=by intro bs;first | exact trivial | (repeat' (first | exact trivial | refine⟨rfl,?_⟩))):J X K E L:=J.qc c is (λbs v As ⟨e1,e2⟩=>by subst e1;subst e2;exact⟨_,hl bs,hs bs,hJ bs⟩) hX h hob hk ho hg hgo hc hf ok hp hd hob2
theorem b3L:Tryz.prog.follows .mixedOrders=true:=by kernel_rfl
theorem J.p {K' K2:(Nat->Nat)->List KI} {E':(Nat->Nat)->Env} {L':(Nat->Nat)->List Atom} {ob:(Nat->Nat)->List Prop} {id:(Nat->Nat)->Nat} {ops:(Nat->Nat)->Array Oper} (t:PT) (lt ro:List Nat) (hJ:∀bs,J X (.reg (ops bs) (snap (L' bs) ro) t::K2 bs) (E' bs) (L' bs)) (hX:IsCx X Tryz.prog rs N F Post:=by assumption) (h:∀bs,Go.Proofs.YtgkpkpbnonmopaaGreat.run tab N bs 400 K E L [] 0=⟨K' bs,E' bs,L' bs,ob bs⟩:=by exactλ_=>rfl) (hob:autoParam (∀bs,Conj (ob bs)) aq_._auto_1) (hk:∀bs,K' bs= .code (.region (id bs) (ops bs) true)::K2 bs:=by exactλ_=>rfl) (ht:∀bs,t.good (ops bs) lt=true:=by intro bs;kernel_rfl):J X K E L:=J.run hX tk 400 h hob λbs=>by rw[hk bs];exact J.plan t lt ro (by rw[hX.hP];exact b3L) (ht bs) (hJ bs)
theorem J.pq {K' K2:(Nat->Nat)->List KI} {E':(Nat->Nat)->Env} {L':(Nat->Nat)->List Atom} {ob:(Nat->Nat)->List Prop} {id:(Nat->Nat)->Nat} {ops:(Nat->Nat)->Array Oper} {K3:(Nat->Nat)->(Nat->Nat)->List KI} {E3:(Nat->Nat)->(Nat->Nat)->Env} {L3:(Nat->Nat)->(Nat->Nat)->List Atom} {ob3:(Nat->Nat)->(Nat->Nat)->List Prop} (t:PT) (lt ro:List Nat) (hJ:∀bs cs,J X (K3 bs cs) (E3 bs cs) (L3 bs cs)) (hX:IsCx X Tryz.prog rs N F Post:=by assumption) (h:∀bs,Go.Proofs.YtgkpkpbnonmopaaGreat.run tab N bs 400 K E L [] 0=⟨K' bs,E' bs,L' bs,ob bs⟩:=by exactλ_=>rfl) (hob:autoParam (∀bs,Conj (ob bs)) aq_._auto_1) (hk:∀bs,K' bs= .code (.region (id bs) (ops bs) true)::K2 bs:=by exactλ_=>rfl) (ht:∀bs,t.good (ops bs) lt=true:=by intro bs;kernel_rfl) (h3:∀bs cs,Go.Proofs.YtgkpkpbnonmopaaGreat.run tab N cs 400 (.reg (ops bs) (snap (L' bs) ro) t::K2 bs) (E' bs) (L' bs) [] 0=⟨K3 bs cs,E3 bs cs,L3 bs cs,ob3 bs cs⟩:=by exactλ_ _=>rfl) (hob3:autoParam (∀bs cs,Conj (ob3 bs cs)) aq_._auto_1):J X K E L:=J.p t lt ro (λbs=>J.run hX tk 400 (h3 bs) (hob3 bs) (hJ bs)) hX h hob hk ht
theorem J.pn {K' K2:(Nat->Nat)->List KI} {E':(Nat->Nat)->Env} {L':(Nat->Nat)->List Atom} {ob:(Nat->Nat)->List Prop} {id:(Nat->Nat)->Nat} {ops:(Nat->Nat)->Array Oper} {K3:(Nat->Nat)->(Nat->Nat)->List KI} {E3:(Nat->Nat)->(Nat->Nat)->Env} {L3:(Nat->Nat)->(Nat->Nat)->List Atom} {ob3:(Nat->Nat)->(Nat->Nat)->List Prop} (n:Nat) (t:PT) (lt ro:List Nat) (hJ:∀bs cs,J X (K3 bs cs) (E3 bs cs) (L3 bs cs)) (hX:IsCx X Tryz.prog rs N F Post:=by assumption) (h:∀bs,Go.Proofs.YtgkpkpbnonmopaaGreat.run tab N bs 400 K E L [] 0=⟨K' bs,E' bs,L' bs,ob bs⟩:=by exactλ_=>rfl) (hob:autoParam (∀bs,Conj (ob bs)) aq_._auto_1) (hk:∀bs,K' bs= .code (.region (id bs) (ops bs) true)::K2 bs:=by exactλ_=>rfl) (ht:∀bs,t.good (ops bs) lt=true:=by intro bs;kernel_rfl) (h3:∀bs cs,Go.Proofs.YtgkpkpbnonmopaaGreat.run tab N cs n (.reg (ops bs) (snap (L' bs) ro) t::K2 bs) (E' bs) (L' bs) [] 0=⟨K3 bs cs,E3 bs cs,L3 bs cs,ob3 bs cs⟩:=by exactλ_ _=>rfl) (hob3:autoParam (∀bs cs,Conj (ob3 bs cs)) aq_._auto_1):J X K E L:=J.p t lt ro (λbs=>J.run hX tk n (h3 bs) (hob3 bs) (hJ bs)) hX h hob hk ht
theorem J.v {ops:Array Oper} {C:Cl} {l:Bool} {i:Nat} {t:PT} {o:Oper} {g:G} {E':Env} (v:Value) (ho:n9 ops.toList i=some o) (hg:gd ops.toList E o=some g)
  (hr:g.on=true->∀a w,EnvOK N E a->Sep L (hl w)->(execOp a.eval o).run Tryz.prog w= .ok (.value v) w) (hJ:J X (.reg ops C t::K) E' L) (hX:IsCx X Tryz.prog rs N F Post:=by assumption) (hd:D7 N o.dst v 0 g E=some E':=by exact rfl) (hst:Conj (t8 l C L):=by trivial):J X (.reg ops C (.alt l i t .non)::K) E L:=J.val hX v 0 ho hg hr hd hst hJ
theorem J.vT {ops:Array Oper} {C:Cl} {q:Bool} {i:Nat} {t:PT} {o:Oper} {g:G} {E':Env} (v:Value) (ho:n9 ops.toList i=some o) (hg:gd ops.toList E o=some g)
  (hr:g.on=true->∀a w,EnvOK N E a->(q=false->CAt C w)->(execOp a.eval o).run Tryz.prog w= .ok (.value v) w) (hJ:J X (.reg ops C t::K) E' L) (hX:IsCx X Tryz.prog rs N F Post:=by assumption) (hd:D7 N o.dst v 0 g E=some E':=by exact rfl):J X (.reg ops C (.take q i t)::K) E L:=J.valT hX v 0 ho hg hr hd hJ
theorem J.qx {K':(Nat->Nat)->List KI} {E':(Nat->Nat)->Env} {L':(Nat->Nat)->List Atom} {ob ob2:(Nat->Nat)->List Prop} {K2:(Nat->Nat)->List KI} {v:(Nat->Nat)->Value} (is:List Nat)
  (hX:IsCx X Tryz.prog rs N F Post:=by assumption) (h:∀bs,Go.Proofs.YtgkpkpbnonmopaaGreat.run tab N bs 400 K E L [] 0=⟨K' bs,E' bs,L' bs,ob bs⟩:=by exactλ_=>rfl) (hob:autoParam (∀bs,Conj (ob bs)) aq_._auto_1) (hk:∀bs,K' bs= .code .ret::K2 bs:=by exactλ_=>rfl) (hr:∀bs,a3L tab (E' bs) (L' bs) rs=some (v bs,ob2 bs):=by exactλ_=>rfl) (ok:∀bs,x6 (L' bs) (0::is)=true:=by exactλ_=>rfl) (h0:∀bs,n9 (L' bs) 0=some (.hp F):=by exactλ_=>rfl) (hob2:autoParam (∀bs,Conj (ob2 bs)) aq_._auto_1) (hP:∀bs,Post (v bs) (q9 (L' bs) is):=by exactλ_=>⟨rfl,rfl⟩):J X K E L:=J.qr is hP hX h hob hk hr ok h0 hob2
theorem J.f {v:Value} {ob:List Prop} (is:List Nat) (hP:Post v (q9 L is)) (hX:IsCx X Tryz.prog rs N F Post:=by assumption) (h:a3L tab E L rs=some (v,ob):=by exact rfl) (ok:x6 L (0::is)=true:=by exact rfl) (h0:n9 L 0=some (.hp F):=by exact rfl) (hob:autoParam (Conj ob) aq_._auto_1):J X [] E L:=J.fin hX tk is h hob ok h0 hP
theorem J.o {α:Type} {f:α->List Atom} {L':α->List Atom} (i:Nat) (h:∀x,J X K E (L' x)) (ok:x6 L [i]=true:=by exact rfl) (hp:q9 L [i]=[exA f]:=by exact rfl) (hL:∀x,O0 L [i] (f x)=some (L' x):=by exactλ_=>rfl):J X K E L:=J.open_ i ok hp hL h
theorem J.cl {α:Type} (f:α->List Atom) {L':List Atom} (x:α) (is:List Nat) (h:J X K E L') (ok:x6 L is=true:=by exact rfl) (hp:q9 L is=f x:=by exact rfl) (hL:O0 L is [exA f]=some L':=by exact rfl):J X K E L:=J.close x is ok hp hL h
theorem J.s1 {ops:Array Oper} {C:Cl} {lt:Bool} {i:Nat} {t:PT} {o:Oper} {g:G} {ty0:TypeId} {x y:Operand} {k1 k2 t1 t2 b off ty:Nat} {g1 g2:G} {v:Value} {cs:List Value} {ti:TI} {E':Value->Env} {L2:List Atom} (is:Nat) (cs':List Value) (hlt:off<cs.length) (hcs:cs.set off v=cs') (hJ:J X (.reg ops C t::K) (E' undef) L2) (hX:IsCx X Tryz.prog rs N F Post:=by assumption)
  (ho:n9 ops.toList i=some o:=by exact rfl) (hg:gd ops.toList E o=some g:=by exact rfl) (hgo:g.on=true:=by exact rfl) (hop:o.op= .store ty0 x y:=by exact rfl) (hx:ev E x=some ⟨k1, .pointer (some ⟨b,off,none⟩),t1,g1⟩:=by exact rfl) (v1:g1.on=true:=by exact rfl) (hy:ev E y=some ⟨k2,v,t2,g2⟩:=by exact rfl) (v2:g2.on=true:=by exact rfl)
  (hti:tab.get ty0=some ti:=by exact rfl) (hsz:Nat.beq ti.size 1=true:=by exact rfl) (hc:v.cells.toList=[v]:=by exact rfl) (h1:v.oneCell'=true:=by exact rfl) (hL:n9 L is=some (.pt b ty cs):=by exact rfl) (hL2:p9 L is (.pt b ty cs')=some L2:=by exact rfl)
  (hd:∀v,D7 N o.dst v 0 .tt E=some (E' v):=by exactλ_=>rfl) (hs:Conj (t8 lt C L2):=by first | exact trivial | (repeat' (first | exact trivial | refine⟨rfl,?_⟩))):J X (.reg ops C (.alt lt i t .non)::K) E L:=J.store1 hX tk is ho hg hgo hop hx v1 hy v2 hti hsz hc h1 hL hlt cs' hcs hL2 hd ⟨hs,hJ⟩
theorem J.n {α:Type} {I:α->Prop} {Ei:α->Env} {Li:α->List Atom} {μ:α->Nat} {m:Nat} (x:α) (h1:I x) (h2:μ x<m) (is:List Nat) (ok:x6 L is=true:=by exact rfl) (hL:q9 L is=Li x:=by exact rfl) (h3:autoParam (Conj (a4V E (Ei x))) aq_._auto_1):
  J X (.stop (λa w=>Ext X.w0 w/\∃x',I x'/\μ x'<m/\EnvOK X.n (Ei x') a/\Sep (Li x') (hl w))::K) E L:=J.nextS x h1 h2 is h3 ok hL
theorem J.l {c:Code} {α:Type} (I:α->Prop) (Ei:α->Env) (is:List Nat) (As:α->List Atom) (μ:α->Nat) (x0:α) {Li:α->List Atom} (h0:I x0)
  (round:∀x,I x->J X (.code c:: .stop (λa w=>Ext X.w0 w/\∃x',I x'/\μ x'<μ x/\EnvOK X.n (Ei x') a/\Sep (Li x') (hl w))::K) (Ei x) (Li x)) (ok:x6 L is=true:=by exact rfl) (hA:q9 L is=As x0:=by exact rfl) (hLi:∀x,O0 L is (As x)=some (Li x):=by exactλ_=>rfl) (hE:autoParam (Conj (a4V E (Ei x0))) aq_._auto_1):J X (.code (.loop c)::K) E L:=J.loopN I Ei is As μ x0 h0 hE ok hA hLi round
end
def O4 (q:Nat) (l:List A3):Atom:=exA λmr:Nat=>[.pt q 177 [.map (some mr)],B3 mr a3v (C8 l)]
theorem b5v:Tryz.prog.underlying 175=some (.map 52 4):=by kernel_rfl
theorem a7J:FP 70 [] [] (λv As=>∃q,v=pp q/\As=[O4 q []]):=by
 refine FE [] Tryz.func70 λX F hX=>?_;refine J.q λbs=>?_;refine J.turn1 [1] rfl (As:=[B3 (bs 0) a3v (C8 [])]) (λh s=>?_) rfl ?_
 ·refine⟨λ_=>0,λi A hA=>?_⟩;cases i with
  | zero=>simp at hA;subst hA;exact⟨#[],0,res_some.2 ⟨rfl,s.get (i:=0) rfl⟩,rfl,by simp,by simp⟩
  | succ k=>simp at hA
 refine J.cl (λmr:Nat=>[.pt (bs 1) 177 [.map (some mr)],B3 mr a3v (C8 [])]) (bs 0) [2,1] ?_;refine J.qr [2] λ_=>?_;exact⟨bs 1,rfl,rfl⟩
theorem b7b (q:Nat) (l:List A3) (x y z:Int):FP 265 [pp q, .agg #[iI x,iI y,iI z]] [O4 q l]
  (Ps (.tuple #[.bool (decide ((x,y,z)∈l)), .bool (decide ((x,y,z)∈l))]) [O4 q l]):=by
 refine FE [2,0] Tryz.func265 λX F hX=>?_;refine J.o (α:=Nat) 1 λmr=>?_;refine J.qF λ_=>?_;refine J.pq (.of [0,4,8,13,17,21,24,28,32,36,40]) [10] [1,2,3] λ_ _=>?_;refine J.vT (.tuple #[.bool (decide ((x,y,z)∈l)), .bool (decide ((x,y,z)∈l))]) rfl rfl (λ_ a w he hC=>?_) ?_
 ·refine(l9 (key:=(x,y,z)) J8 b5v (z:= .bool false) (λw=>by kernel_rfl) rfl rfl rfl rfl he rfl rfl (hC rfl _ (f9 (i:=2) rfl))).trans ?_;simp only[(a2S l _).1,(a2S l _).2]
 refine J.cl (λmr:Nat=>[.pt q 177 [.map (some mr)],B3 mr a3v (C8 l)]) mr [1,2] ?_;exact J.qx [1]
theorem b8N (q:Nat) (l:List A3) (x y z:Int):FP 212 [pp q, .agg #[iI x,iI y,iI z], .bool true] [O4 q l]
  (Ps (.tuple #[]) [O4 q (b2l l (x,y,z))]):=by
 refine FE [2,0,0] Tryz.func212 λX F hX=>?_;refine J.o (α:=Nat) 1 λmr=>?_;refine J.qT λ_=>?_;refine J.pq (.of [0,4,8,13,17,20,27]) [6] [1,2,3] λ_ _=>?_;refine J.mapUpdate hX J8 b5v (x,y,z) 2 rfl rfl rfl rfl rfl rfl rfl rfl rfl rfl rfl rfl (λ_=>rfl) (by rw[a9M];rfl) ⟨trivial,?_⟩;refine J.cl (λmr:Nat=>[.pt q 177 [.map (some mr)],B3 mr a3v (C8 (b2l l (x,y,z)))]) mr [1,2] ?_;refine J.q λ_=>?_;refine J.f [1] ?_;exact⟨rfl,rfl⟩
theorem b2Y (q:Nat) (l:List A3) (x y z:Int):FP 238 [pp q, .agg #[iI x,iI y,iI z]] [O4 q l]
  (Ps (.bool (decide ((x,y,z)∈l))) [O4 q (l.erase (x,y,z))]):=by
 refine FE [2,0] Tryz.func238 λX F hX=>?_;refine J.qp (b7b q l x y z) [1] λ_=>?_;refine J.qd (λ_ h=>?_) λ_ h=>?_
 ·refine J.o (α:=Nat) 1 λmr=>?_;refine J.pq (.of [0,4,8,13,17,22]) [] [1,2] λ_ _=>?_;refine J.delete hX J8 b5v (x,y,z) 3 rfl rfl rfl rfl rfl rfl rfl rfl rfl rfl (λ_=>rfl) (by rw[a9P];rfl) ⟨⟨rfl,rfl,trivial⟩,?_⟩;refine J.cl (λmr:Nat=>[.pt q 177 [.map (some mr)],B3 mr a3v (C8 (l.erase (x,y,z)))]) mr [1,3] ?_;exact J.qx [1]
 ·refine J.qr [1] λ_=>?_;simp only[decide_eq_false_iff_not]at h;exact⟨rfl,by rw[List.erase_of_not_mem h];rfl⟩
end Go.Proofs.YtgkpkpbnonmopaaGreat
namespace Go.Proofs.YtgkpkpbnonmopaaGreat
namespace Bt
def bits (u w:Nat):List Bool:=(List.range w).map λi=>u.testBit (w-1-i)
def byteAt (l:List Bool) (j:Nat):Nat:=
 (l.getD j false).toNat*128+(l.getD (j+1) false).toNat*64+(l.getD (j+2) false).toNat*32+(l.getD (j+3) false).toNat*16+
 (l.getD (j+4) false).toNat*8+(l.getD (j+5) false).toNat*4+(l.getD (j+6) false).toNat*2+(l.getD (j+7) false).toNat
def pack (l:List Bool):List UInt8:=(List.range ((l.length+7)/8)).map λj=>UInt8.ofNat (byteAt l (8*j))
theorem length_bits (u w:Nat):(bits u w).length=w:=by simp[bits]
theorem byteAt_lt (l:List Bool) (j:Nat):byteAt l j<256:=by
 unfold byteAt;have h:∀b:Bool,b.toNat<=1:=λb=>Bool.toNat_le b;have h0:=h (l.getD j false);have h1:=h (l.getD (j+1) false);have h2:=h (l.getD (j+2) false);have h3:=h (l.getD (j+3) false);have h4:=h (l.getD (j+4) false);have h5:=h (l.getD (j+5) false);have h6:=h (l.getD (j+6) false);have h7:=h (l.getD (j+7) false);omega
theorem length_pack (l:List Bool):(pack l).length=(l.length+7)/8:=by simp[pack]
theorem pack_get (l:List Bool) (j:Nat) (h:j<(l.length+7)/8):(pack l)[j]? =some (UInt8.ofNat (byteAt l (8*j))):=by
 simp[pack,h]
theorem byteAt_out (l:List Bool) (j:Nat) (h:l.length<=j):byteAt l j=0:=by
 have g:∀k,l.length<=k->l.getD k false=false:=λk hk=>by simp[List.getD_eq_getElem?_getD,List.getElem?_eq_none hk]
 unfold byteAt;rw[g _ h,g _ (by omega),g _ (by omega),g _ (by omega),g _ (by omega),g _ (by omega),g _ (by omega),g _ (by omega)];rfl
theorem getD_snoc (l:List Bool) (x:Bool) (k:Nat):(l++[x]).getD k false=if k=l.length then x else l.getD k false:=by
 simp only[List.getD_eq_getElem?_getD,List.getElem?_append]
 by_cases h:k<l.length
 ·rw[if_pos h,if_neg (by omega)]
 ·rw[if_neg h]
  by_cases e:k=l.length
  ·subst e;simp
  ·rw[if_neg e,List.getElem?_eq_none (by simp;omega),List.getElem?_eq_none (by omega)]
theorem byteAt_snoc (l:List Bool) (x:Bool) (j:Nat):byteAt (l++[x]) j=byteAt l j+(if j<=l.length/\l.length<j+8 then x.toNat*2^(7-(l.length-j))else 0):=by
 have g:∀k,l.length<=k->l.getD k false=false:=λk hk=>by simp[List.getD_eq_getElem?_getD,List.getElem?_eq_none hk]
 by_cases h:j<=l.length/\l.length<j+8
 ·rw[if_pos h];obtain⟨i,hi⟩:∃i,l.length=j+i:=⟨l.length-j,by omega⟩;have hi8:i<8:=by omega
  rw[show l.length-j=i from by omega];unfold byteAt;simp only[getD_snoc]
  match i,hi8 with
  | 0,_=>rw[g j (by omega),if_pos (by omega),if_neg (by omega),if_neg (by omega),if_neg (by omega),if_neg (by omega),if_neg (by omega),if_neg (by omega),if_neg (by omega)];simp;omega
  | 1,_=>rw[g (j+1) (by omega),if_neg (by omega),if_pos (by omega),if_neg (by omega),if_neg (by omega),if_neg (by omega),if_neg (by omega),if_neg (by omega),if_neg (by omega)];simp;omega
  | 2,_=>rw[g (j+2) (by omega),if_neg (by omega),if_neg (by omega),if_pos (by omega),if_neg (by omega),if_neg (by omega),if_neg (by omega),if_neg (by omega),if_neg (by omega)];simp;omega
  | 3,_=>rw[g (j+3) (by omega),if_neg (by omega),if_neg (by omega),if_neg (by omega),if_pos (by omega),if_neg (by omega),if_neg (by omega),if_neg (by omega),if_neg (by omega)];simp;omega
  | 4,_=>rw[g (j+4) (by omega),if_neg (by omega),if_neg (by omega),if_neg (by omega),if_neg (by omega),if_pos (by omega),if_neg (by omega),if_neg (by omega),if_neg (by omega)];simp;omega
  | 5,_=>rw[g (j+5) (by omega),if_neg (by omega),if_neg (by omega),if_neg (by omega),if_neg (by omega),if_neg (by omega),if_pos (by omega),if_neg (by omega),if_neg (by omega)];simp;omega
  | 6,_=>rw[g (j+6) (by omega),if_neg (by omega),if_neg (by omega),if_neg (by omega),if_neg (by omega),if_neg (by omega),if_neg (by omega),if_pos (by omega),if_neg (by omega)];simp;omega
  | 7,_=>rw[g (j+7) (by omega),if_neg (by omega),if_neg (by omega),if_neg (by omega),if_neg (by omega),if_neg (by omega),if_neg (by omega),if_neg (by omega),if_pos (by omega)];simp
 ·rw[if_neg h];unfold byteAt;simp only[getD_snoc];rw[if_neg (by omega),if_neg (by omega),if_neg (by omega),if_neg (by omega),if_neg (by omega),if_neg (by omega),if_neg (by omega),if_neg (by omega)];simp

def packZ (l:List Bool):List UInt8:=if l.length % 8=0 then pack l++[0]else pack l
theorem length_packZ (l:List Bool):(packZ l).length=l.length/8+1:=by
 unfold packZ;split
 ·simp[length_pack];omega
 ·rw[length_pack];omega
theorem packZ_get (l:List Bool) (j:Nat) (h:j<l.length/8+1):(packZ l)[j]? =some (UInt8.ofNat (byteAt l (8*j))):=by
 unfold packZ;split
 ·by_cases e:j<(pack l).length
  ·rw[List.getElem?_append_left e,pack_get _ _ (by rw[length_pack]at e;exact e)]
  ·have:j=(pack l).length:=by rw[length_pack]at e ⊢;omega
   subst this;rw[List.getElem?_append_right (Nat.le_refl _),Nat.sub_self,byteAt_out _ _ (by rw[length_pack];omega)];rfl
 ·exact pack_get _ _ (by omega)
theorem pack_snoc (l:List Bool) (x:Bool):pack (l++[x])=(packZ l).set (l.length/8) (UInt8.ofNat (byteAt l (8*(l.length/8))+x.toNat*2^(7-l.length % 8))):=by
 apply List.ext_getElem?;intro j;have hl:(pack (l++[x])).length=l.length/8+1:=by rw[length_pack];simp;omega
 by_cases h:j<l.length/8+1
 ·rw[pack_get _ _ (by simp;omega),List.getElem?_set,length_packZ,byteAt_snoc]
  by_cases e:l.length/8=j
  ·rw[if_pos e,if_pos (by omega),if_pos (by omega),<- e,show l.length-8*(l.length/8)=l.length % 8 from by omega]
  ·rw[if_neg e,if_neg (by omega),packZ_get _ _ h];simp
 ·rw[List.getElem?_eq_none (by omega),List.getElem?_eq_none (by simp[length_packZ];omega)]
theorem byte_or_dec:∀i,i<8->∀h,h<2^i->(h*2^(8-i))||| (2^(7-i))=h*2^(8-i)+2^(7-i):=by decide+kernel
theorem byteAt_last (l:List Bool):∃h,h<2^(l.length % 8)/\byteAt l (8*(l.length/8))=h*2^(8-l.length % 8):=by
 have g:∀k,l.length<=k->l.getD k false=false:=λk hk=>by simp[List.getD_eq_getElem?_getD,List.getElem?_eq_none hk]
 have hb:∀b:Bool,b.toNat<=1:=λb=>Bool.toNat_le b;generalize hj:8*(l.length/8)=j;have h8:l.length % 8<8:=Nat.mod_lt _ (by omega);have hn:l.length=j+l.length % 8:=by omega
 have h0:=hb (l.getD j false);have h1:=hb (l.getD (j+1) false);have h2:=hb (l.getD (j+2) false);have h3:=hb (l.getD (j+3) false);have h4:=hb (l.getD (j+4) false);have h5:=hb (l.getD (j+5) false);have h6:=hb (l.getD (j+6) false);generalize l.length % 8=i at*;unfold byteAt
 match i,h8 with
 | 0,_=>rw[g j (by omega),g (j+1) (by omega),g (j+2) (by omega),g (j+3) (by omega),g (j+4) (by omega),g (j+5) (by omega),g (j+6) (by omega),g (j+7) (by omega)];exact⟨0,by decide,rfl⟩
 | 1,_=>rw[g (j+1) (by omega),g (j+2) (by omega),g (j+3) (by omega),g (j+4) (by omega),g (j+5) (by omega),g (j+6) (by omega),g (j+7) (by omega)];exact⟨(l.getD j false).toNat,by omega,by simp⟩
 | 2,_=>rw[g (j+2) (by omega),g (j+3) (by omega),g (j+4) (by omega),g (j+5) (by omega),g (j+6) (by omega),g (j+7) (by omega)];exact⟨(l.getD j false).toNat*2+(l.getD (j+1) false).toNat,by omega,by simp;omega⟩
 | 3,_=>rw[g (j+3) (by omega),g (j+4) (by omega),g (j+5) (by omega),g (j+6) (by omega),g (j+7) (by omega)];exact⟨(l.getD j false).toNat*4+(l.getD (j+1) false).toNat*2+(l.getD (j+2) false).toNat,by omega,by simp;omega⟩
 | 4,_=>rw[g (j+4) (by omega),g (j+5) (by omega),g (j+6) (by omega),g (j+7) (by omega)];exact⟨(l.getD j false).toNat*8+(l.getD (j+1) false).toNat*4+(l.getD (j+2) false).toNat*2+(l.getD (j+3) false).toNat,by omega,by simp;omega⟩
 | 5,_=>rw[g (j+5) (by omega),g (j+6) (by omega),g (j+7) (by omega)];exact⟨(l.getD j false).toNat*16+(l.getD (j+1) false).toNat*8+(l.getD (j+2) false).toNat*4+(l.getD (j+3) false).toNat*2+(l.getD (j+4) false).toNat,by omega,by simp;omega⟩
 | 6,_=>rw[g (j+6) (by omega),g (j+7) (by omega)];exact⟨(l.getD j false).toNat*32+(l.getD (j+1) false).toNat*16+(l.getD (j+2) false).toNat*8+(l.getD (j+3) false).toNat*4+(l.getD (j+4) false).toNat*2+(l.getD (j+5) false).toNat,by omega,by simp;omega⟩
 | 7,_=>rw[g (j+7) (by omega)];exact⟨(l.getD j false).toNat*64+(l.getD (j+1) false).toNat*32+(l.getD (j+2) false).toNat*16+(l.getD (j+3) false).toNat*8+(l.getD (j+4) false).toNat*4+(l.getD (j+5) false).toNat*2+(l.getD (j+6) false).toNat,by omega,by simp;omega⟩
theorem byte_or (l:List Bool) (x:Bool):byteAt l (8*(l.length/8))||| x.toNat*2^(7-l.length % 8)=byteAt l (8*(l.length/8))+x.toNat*2^(7-l.length % 8):=by
 obtain⟨h,hh,e⟩:=byteAt_last l;cases x
 ·simp
 ·rw[e];simpa using byte_or_dec (l.length % 8) (Nat.mod_lt _ (by omega)) h hh
theorem take_bits_succ (u n k:Nat) (h:k<n):(bits u n).take (k+1)=(bits u n).take k++[u.testBit (n-1-k)]:=by
 rw[List.take_succ_eq_append_getElem (by rw[length_bits];exact h)];simp[bits]
def bitAt (b:List UInt8) (j:Nat):Bool:=(b.getD (j/8) 0).toNat.testBit (7-j % 8)
def numAt (b:List UInt8) (k:Nat):Nat->Nat
 | 0=>0
 | w+1=>2*numAt b k w+(bitAt b (k+w)).toNat
theorem numAt_lt (b:List UInt8) (k w:Nat):numAt b k w<2^w:=by
 induction w with
 | zero=>simp[numAt]
 | succ w ih=>
  have:=Bool.toNat_le (bitAt b (k+w));rw[numAt,Nat.pow_succ];omega
end Bt
end Go.Proofs.YtgkpkpbnonmopaaGreat
namespace Go.Proofs.YtgkpkpbnonmopaaGreat
structure Sh where
 data:List UInt8
 role:Int
 lpn:Int
 seq:Int
 kind:Int
 block:Int
 row:Int
 mask:Int
 deriving DecidableEq
def zeros16:List UInt8:=List.replicate 16 0
def Sh.zero:Sh:=⟨zeros16,0,0,0,0,0,0,0⟩
namespace S
def entry (s:Sh):Bool:=
 if s.role=1 then true
 else if s.role=2\/s.role=4 then decide (s.data=zeros16)
 else if s.role=3 then decide (s.data=zeros16)&&decide (s.lpn=0)&&decide (s.seq=0)
 else false
def inB (n a:Int):Bool:=decide (0<=n)&&decide (n<=a)
def place (s:Sh):Bool:=inB s.block 15&&inB s.row 7&&decide (2<=L.count s.mask)
def numbers (s:Sh):Bool:=inB s.seq 1099511627775&&inB s.lpn 65535&&inB s.role 255
def may (s:Sh):Bool:=place s&&numbers s&&(decide (s.kind=2)||(decide (s.kind=1)&&entry s))
def meta_ (role lpn seq:Int):Nat:=(role % 256).toNat*72057594037927936+((lpn % 65536).toNat*1099511627776+(seq % 1099511627776).toNat)
def head (s:Sh):List Bool:=Bt.bits (meta_ s.role s.lpn s.seq) 64++Bt.bits s.block.toNat 8++Bt.bits s.row.toNat 8++Bt.bits s.mask.toNat 8++Bt.bits s.kind.toNat 8
def put (s:Sh):List UInt8:=s.data++Bt.pack (head s++Bt.bits (K.sum (s.data++Bt.pack (head s))) 32)
def fields (p:List UInt8):Sh:=
 let b:=p.drop 16
 let m:=Bt.numAt b 0 64
 ⟨p.take 16,(m/72057594037927936:Nat),(m/1099511627776 % 65536:Nat),(m % 1099511627776:Nat),Bt.numAt b 88 8,Bt.numAt b 64 8,Bt.numAt b 72 8,Bt.numAt b 80 8⟩
def get (p:List UInt8):Option Sh:=if may (fields p)/\put (fields p)=p then some (fields p)else none
def getV (p:List UInt8):Sh:=(get p).getD Sh.zero
def getE (p:List UInt8):Int:=if(get p).isSome then 0 else 1
theorem may_bounds (s:Sh) (h:may s=true):(0<=s.block/\s.block<=15)/\(0<=s.row/\s.row<=7)/\(0<=s.mask/\s.mask<=255)/\(1<=s.kind/\s.kind<=2):=by
 simp only[may,place,inB,Bool.and_eq_true,decide_eq_true_eq,Bool.or_eq_true]at h;have hm:0<=s.mask/\s.mask<=255:=by
  by_cases hh:0<=s.mask/\s.mask<256
  ·omega
  ·have:=L.count_no s.mask hh;omega
 omega
theorem length_head (s:Sh):(head s).length=96:=by simp[head,Bt.length_bits]
theorem length_put (s:Sh) (h:s.data.length=16):(put s).length=32:=by simp[put,Bt.length_pack,length_head,Bt.length_bits,h]
theorem meta_lt (role lpn seq:Int):meta_ role lpn seq<18446744073709551616:=by unfold meta_;omega
end S
end Go.Proofs.YtgkpkpbnonmopaaGreat
namespace Go.Proofs.YtgkpkpbnonmopaaGreat
abbrev A3':=Int×Int×Int
structure NCell where
 p:List UInt8
 lost:Bool
 turned:Bool
structure NBlock where
 cells:List NCell
 worn:Int
 fails:Bool
 met:Bool
structure Nand where
 dies:Nat
 blocks:Nat
 pages:Nat
 blk:Nat->Nat->NBlock
 plan:List A3'
 dead:List Bool
 off:Bool
 ops:Int
 broken:Int
 cuts:Bool
 left:Int
 keep:Int
def y6 (d b p:Int):Bool:=decide (3<=d/\d<=6)&&decide (8<=b/\b<=16)&&decide (2<=p/\p<=8)
def C7 (d b p x y z:Int):Bool:=decide (0<=x/\x<d)&&decide (0<=y/\y<b)&&decide (0<=z/\z<p)
def zeros32:List UInt8:=List.replicate 32 0
structure Nand.Ok (N:Nand):Prop where
 geo:y6 N.dies N.blocks N.pages=true
 dead:N.dead.length=N.dies
 cells:∀i j,i<N.dies->j<N.blocks->(N.blk i j).cells.length<=N.pages/\∀c∈(N.blk i j).cells,c.p.length=32
 num:0<=N.ops/\0<=N.broken/\(∀i j,0<=(N.blk i j).worn/\(N.blk i j).worn<=N.ops)
 lft:N.cuts=true->0<=N.left/\N.left<=9223372036854775807
 lf2: -9223372036854775807<=N.left/\N.left<=9223372036854775807
 kp:0<=N.keep/\N.keep<=32
structure Nand.Room (N:Nand):Prop where
 ops:N.ops<4611686018427387904
 broken:N.broken<4611686018427387904
namespace Nand
def setBlk (N:Nand) (i j:Nat) (B:NBlock):Nand:={N with blk:=λa b=>if a=i/\b=j then B else N.blk a b}
def refuses (N:Nand) (x y z:Int):Int:=
 if N.off then 9 else if C7 N.dies N.blocks N.pages x y z=false then 3 else if N.dead.getD x.toNat false then 8 else 0
def cutB (N:Nand):Bool:=N.cuts&&decide (N.left<=0)
def cutN (N:Nand):Nand:={N with ops:=N.ops+1,left:=if N.cuts then N.left-1 else N.left,off:=if N.cutB then true else N.off,cuts:=if N.cutB then false else N.cuts}
def pageAt (N:Nand) (x y z:Int):Option NCell:=(N.blk x.toNat y.toNat).cells[z.toNat]?
def readV (N:Nand) (x y z:Int):List UInt8:=if N.refuses x y z≠0 then zeros32 else match N.pageAt x y z with
 | none=>zeros32
 | some c=>if c.lost then zeros32 else c.p
def readE (N:Nand) (x y z:Int):Int:=if N.refuses x y z≠0 then N.refuses x y z else match N.pageAt x y z with
 | none=>5
 | some c=>if c.lost then 6 else 0
def onN (N:Nand):Nand:={N with off:=false,cuts:=false}
def setCut (N:Nand) (x k:Int):Nand:=if N.off then N else {N with cuts:=decide (0<=x),left:=x,keep:=min (max k 0) 32,off:=decide (x<0)}
def next (N:Nand) (x y:Int):Nat:=if 0<=x/\x<N.dies/\0<=y/\y<N.blocks then(N.blk x.toNat y.toNat).cells.length else 0
def wornAt (N:Nand) (x y:Int):Int:=if 0<=x/\x<N.dies/\0<=y/\y<N.blocks then(N.blk x.toNat y.toNat).worn else 0
def deadAt (N:Nand) (x:Int):Bool:=decide (0<=x)&&decide (x<N.dies)&&N.dead.getD x.toNat false
def push (N:Nand) (i j:Nat) (c:NCell):Nand:=N.setBlk i j {N.blk i j with cells:=(N.blk i j).cells++[c]}
def fillP (k:Nat) (p:List UInt8):List UInt8:=p.take k++List.replicate (32-k) 255
def fails (N:Nand) (x y z:Int):Bool:=decide ((x,y,z)∈N.plan)||(N.blk x.toNat y.toNat).met
def progN (N:Nand) (x y z:Int) (pg:List UInt8):Nand:=
 if N.refuses x y z≠0 then N else
 if z≠(N.blk x.toNat y.toNat).cells.length then {N with broken:=N.broken+1}else
 if N.cutB then N.cutN.push x.toNat y.toNat ⟨fillP N.keep.toNat pg,false,true⟩else
 push {N.cutN with plan:=N.plan.erase (x,y,z)} x.toNat y.toNat ⟨pg,N.fails x y z,false⟩
def progE (N:Nand) (x y z:Int):Int:=
 if N.refuses x y z≠0 then N.refuses x y z else
 if z≠(N.blk x.toNat y.toNat).cells.length then 4 else
 if N.cutB then 9 else if N.fails x y z then 7 else 0
def zcell:NCell:=⟨zeros32,false,false⟩
def eraseN (N:Nand) (x y:Int):Nand:=
 let B:=N.blk x.toNat y.toNat
 if N.refuses x y 0≠0 then N else
 if N.cutB then N.cutN.setBlk x.toNat y.toNat {B with cells:=(B.cells++List.replicate (N.pages-B.cells.length) zcell).map λc=>{c with lost:=true}}else
 if B.fails then N.cutN.setBlk x.toNat y.toNat {B with met:=true}else
 {N.cutN.setBlk x.toNat y.toNat {B with cells:=[],worn:=B.worn+1}with plan:=N.plan.filter λa=>!(decide (a.1=x)&&decide (a.2.1=y))}
def eraseE (N:Nand) (x y:Int):Int:=
 if N.refuses x y 0≠0 then N.refuses x y 0 else if N.cutB then 9 else if(N.blk x.toNat y.toNat).fails then 7 else 0
def xorAt (p:List UInt8) (n:Nat) (x:UInt8):List UInt8:=p.set n ((p.getD n 0) ^^^ x)
def setCell (N:Nand) (x y z:Int) (f:NCell->NCell):Nand:=
 N.setBlk x.toNat y.toNat {N.blk x.toNat y.toNat with cells:=(N.blk x.toNat y.toNat).cells.modify z.toNat f}
def addP (l:List A3') (a:A3'):List A3':=if a∈l then l else l++[a]
def fault (N:Nand) (kind x y z n xx:Int):Bool×Nand:=
 if C7 N.dies N.blocks N.pages x y z=false then(false,N)else
 if kind=1 then(true,{N with plan:=addP N.plan (x,y,z)})else
 if kind=2 then(true,N.setBlk x.toNat y.toNat {N.blk x.toNat y.toNat with fails:=true})else
 if kind=3 then(true,N.setCell x y z λc=>{c with lost:=true})else
 if kind=4 then(true,{N with dead:=N.dead.set x.toNat true})else
 if kind=5 then
  if n<0\/32<=n then(false,N)else
  match N.pageAt x y z with
  | none=>(true,N)
  | some c=>if c.turned then(false,N)else if c.lost then(true,N)else
   (true,N.setCell x y z λc=>{c with p:=xorAt c.p n.toNat (UInt8.ofNat (xx % 256).toNat),turned:=true})
 else(false,N)
def new (d b p:Nat):Nand:=⟨d,b,p,λ_ _=>⟨[],0,false,false⟩,[],List.replicate d false,false,0,0,false,0,0⟩
theorem refuses_zero {N:Nand} {x y z:Int} (h:N.refuses x y z=0):N.off=false/\N.dead.getD x.toNat false=false/\0<=x/\x<N.dies/\0<=y/\y<N.blocks/\0<=z/\z<N.pages:=by
 unfold refuses at h;split at h
 ·omega
 ·rename_i h1;split at h
  ·omega
  ·rename_i h2;split at h
   ·omega
   ·rename_i h3;simp[C7]at h2;exact⟨by simpa using h1,by simpa using h3,by omega⟩
end Nand
end Go.Proofs.YtgkpkpbnonmopaaGreat
namespace Go.Proofs.YtgkpkpbnonmopaaGreat
open Go Go.RowKit
def byC (l:List UInt8) (k:Nat):Value:=bv (l.getD k 0)
def n7 (l:List UInt8):List Value:=[byC l 0,byC l 1,byC l 2,byC l 3,byC l 4,byC l 5,byC l 6,byC l 7,byC l 8,byC l 9,byC l 10,byC l 11,byC l 12,byC l 13,byC l 14,byC l 15]
def H4 (l:List UInt8):List Value:=[byC l 0,byC l 1,byC l 2,byC l 3,byC l 4,byC l 5,byC l 6,byC l 7,byC l 8,byC l 9,byC l 10,byC l 11,byC l 12,byC l 13,byC l 14,byC l 15,byC l 16,byC l 17,byC l 18,byC l 19,byC l 20,byC l 21,byC l 22,byC l 23,byC l 24,byC l 25,byC l 26,byC l 27,byC l 28,byC l 29,byC l 30,byC l 31]
def NCell.vals (c:NCell):List Value:=[byC c.p 0,byC c.p 1,byC c.p 2,byC c.p 3,byC c.p 4,byC c.p 5,byC c.p 6,byC c.p 7,byC c.p 8,byC c.p 9,byC c.p 10,byC c.p 11,byC c.p 12,byC c.p 13,byC c.p 14,byC c.p 15,byC c.p 16,byC c.p 17,byC c.p 18,byC c.p 19,byC c.p 20,byC c.p 21,byC c.p 22,byC c.p 23,byC c.p 24,byC c.p 25,byC c.p 26,byC c.p 27,byC c.p 28,byC c.p 29,byC c.p 30,byC c.p 31, .bool c.lost, .bool c.turned]
def t6 (l:List NCell):List Value:=l.flatMap NCell.vals
structure NLoc where
 r:Nat
 q:Nat
 d:Nat
 bp:Nat->Nat
def Nand.mainV (N:Nand) (Y:NLoc):List Value:=
 [iI N.dies,iI N.blocks,iI N.pages, .map (some Y.r),pp Y.q, .slice (some ⟨Y.d,0,none⟩) N.dies N.dies, .bool N.off,iI N.ops,iI N.broken, .bool N.cuts,iI N.left,iI N.keep]
def a5d (b:Nat) (B:NBlock):Atom:=exA λa:Option Nat×Nat=>
 [.pt b 111 [slv a.1 B.cells.length a.2,iI B.worn, .bool B.fails, .bool B.met],c9 268 34 a.1 B.cells.length a.2 (t6 B.cells)]
def a0t (nb n:Nat) (bp:Nat->Nat):List (A3×Value):=(List.range n).map λk=>((((k/nb:Nat):Int),((k % nb:Nat):Int),0),pp (bp k))
def J0 (nb n:Nat) (bp:Nat->Nat) (f:Nat->Nat->NBlock):List Atom:=(List.range n).map λk=>a5d (bp k) (f (k/nb) (k % nb))
def I3 (p:Nat) (N:Nand) (Y:NLoc):List Atom:=
 [.pt p 107 (N.mainV Y),B3 Y.r a3v (a0t N.blocks (N.dies*N.blocks) Y.bp),O4 Y.q N.plan, .pt Y.d 4 (N.dead.map Value.bool), .hp (HP.of (J0 N.blocks (N.dies*N.blocks) Y.bp N.blk))]
def i9 (p:Nat) (N:Nand):Atom:=exA (I3 p N)
theorem a9N (nb:Nat) (bp:Nat->Nat) (i j:Nat) (hj:j<nb):∀n,y5 (a0t nb n bp) ((i:Int),(j:Int),0)=if i*nb+j<n then some (pp (bp (i*nb+j)))else none:=by
 have hnb:0<nb:=by omega
 have key:∀(m k:Nat),y5 ((List.range' m k).map λk=>((((k/nb:Nat):Int),((k % nb:Nat):Int),(0:Int)),Value.pointer (some ⟨bp k,0,none⟩))) ((i:Int),(j:Int),0)=if m<=i*nb+j/\i*nb+j<m+k then some (pp (bp (i*nb+j)))else none:=by
  intro m k
  induction k generalizing m with
  | zero=>simp[y5]
  | succ k ih=>
   rw[List.range'_succ,List.map_cons,y5]
   by_cases e:m=i*nb+j
   ·subst e;rw[if_pos,if_pos (by omega)];have h1:(i*nb+j)/nb=i:=by rw[Nat.add_comm,Nat.mul_comm,Nat.add_mul_div_left _ _ hnb,Nat.div_eq_of_lt hj,Nat.zero_add]
    have h2:(i*nb+j) % nb=j:=by rw[Nat.add_comm,Nat.add_mul_mod_self_right];exact Nat.mod_eq_of_lt hj
    rw[h1,h2]
   ·rw[if_neg,ih]
    ·by_cases h:m+1<=i*nb+j/\i*nb+j<m+1+k
     ·rw[if_pos h,if_pos (by omega)]
     ·rw[if_neg h,if_neg (by omega)]
    ·intro h;simp only[Prod.mk.injEq,Int.natCast_inj,and_true]at h;apply e;rw[h.1,h.2,Nat.mul_comm];exact(Nat.div_add_mod m nb).symm
 intro n;have:=key 0 n;simpa[a0t,List.range_eq_range']using this
theorem a4L (nb:Nat) (hnb:0<nb) (bp:Nat->Nat) (a:A3) (n:Nat) (h:∀i j:Nat,i*nb+j<n->j<nb->a≠((i:Int),(j:Int),0)):y5 (a0t nb n bp) a=none:=by
 have key:∀(l:List Nat),(∀k∈l,k<n)->y5 (l.map λk=>((((k/nb:Nat):Int),((k % nb:Nat):Int),(0:Int)),Value.pointer (some ⟨bp k,0,none⟩))) a=none:=by
  intro l
  induction l with
  | nil=>intro _;rfl
  | cons k l ih=>
   intro hl;rw[List.map_cons,y5,if_neg,ih (λk' hk'=>hl k' (List.mem_cons_of_mem _ hk'))];refine h (k/nb) (k % nb) ?_ (Nat.mod_lt _ hnb);have:=Nat.div_add_mod k nb;rw[Nat.mul_comm]at this;rw[this];exact hl k (List.mem_cons_self ..)
 exact key _ (λk hk=>by simpa using hk)
theorem Sep.openAt {BL:List Atom} {h:Hl} {k:Nat} {A:Atom} (s:Sep [.hp (HP.of BL)] h) (hk:BL[k]? =some A):Sep [.hp (HP.of (BL.set k .emp)),A] h:=by
 obtain⟨own,hw⟩:=Sep.hpOf.1 s;refine⟨λb=>if own b=k then 1 else 0,λj B hB=>?_⟩
 match j with
 | 0=>
  simp at hB;subst hB;refine⟨own,λi C hC=>?_⟩;rw[List.getElem?_set]at hC;split at hC
  ·split at hC
   ·simp at hC;subst hC;trivial
   ·cases hC
  ·rename_i hne;refine Atom.up (λb o hb=>?_) (hw i C hC);rw[res_some]at hb ⊢;exact⟨hb.1,res_some.2 ⟨by rw[if_neg (by rw[hb.1];exactλe=>hne e.symm)],hb.2⟩⟩
 | 1=>
  simp at hB;subst hB;refine Atom.up (λb o hb=>?_) (hw k _ hk);rw[res_some]at hb ⊢;exact⟨by rw[if_pos hb.1],hb.2⟩
 | j+2=>simp at hB
theorem Sep.closeAt {BL:List Atom} {h:Hl} {k:Nat} {A:Atom} (s:Sep [.hp (HP.of (BL.set k .emp)),A] h):Sep [.hp (HP.of (BL.set k A))] h:=by
 obtain⟨own,hw⟩:=s;obtain⟨own2,hw2⟩:=hw 0 _ rfl;refine Sep.hpOf.2 ⟨λb=>if own b=0 then own2 b else k,λj B hB=>?_⟩;rw[List.getElem?_set]at hB;split at hB
 ·rename_i e;split at hB
  ·injection hB with hB;subst hB;subst e;refine Atom.up (λb o hb=>?_) (hw 1 _ rfl);rw[res_some]at hb ⊢;exact⟨by rw[if_neg (by omega)],hb.2⟩
  ·cases hB
 ·rename_i hne;refine Atom.up (λb o hb=>?_) (hw2 j B (by rw[List.getElem?_set,if_neg hne];exact hB));rw[res_some]at hb ⊢;have:=res_some.1 hb.2;exact⟨by rw[if_pos this.1];exact hb.1,this.2⟩
section
variable {X : Cx} {K : List KI} {E : Env} {L : List Atom}
theorem J.openAt {BL L':List Atom} (i k:Nat) {A:Atom} (ok:x6 L [i]=true) (hp:q9 L [i]=[.hp (HP.of BL)]) (hk:BL[k]? =some A) (hL:O0 L [i] [.hp (HP.of (BL.set k .emp)),A]=some L') (h:J X K E L'):J X K E L:=
 J.turn1 [i] ok (λh' s=>by rw[hp]at s;exact s.openAt hk) hL h
theorem J.closeAt {BL L':List Atom} (i j k:Nat) {A:Atom} (ok:x6 L [i,j]=true) (hp:q9 L [i,j]=[.hp (HP.of (BL.set k .emp)),A]) (hL:O0 L [i,j] [.hp (HP.of (BL.set k A))]=some L') (h:J X K E L'):J X K E L:=
 J.turn1 [i,j] ok (λh' s=>by rw[hp]at s;exact s.closeAt) hL h
end
theorem L4 (nb n:Nat) (bp:Nat->Nat) (f:Nat->Nat->NBlock) (k:Nat) (h:k<n):(J0 nb n bp f)[k]? =some (a5d (bp k) (f (k/nb) (k % nb))):=by simp[J0,h]
theorem H1 {i j nb:Nat} (hj:j<nb):(i*nb+j)/nb=i/\(i*nb+j) % nb=j:=by
 have hnb:0<nb:=by omega
 exact⟨by rw[Nat.add_comm,Nat.mul_comm,Nat.add_mul_div_left _ _ hnb,Nat.div_eq_of_lt hj,Nat.zero_add],by rw[Nat.add_comm,Nat.add_mul_mod_self_right];exact Nat.mod_eq_of_lt hj⟩
theorem a4h {i j d nb:Nat} (hi:i<d) (hj:j<nb):i*nb+j<d*nb:=by
 have:(i+1)*nb<=d*nb:=Nat.mul_le_mul_right nb hi;rw[Nat.succ_mul]at this;omega
theorem b2g (nb n:Nat) (bp:Nat->Nat) (f:Nat->Nat->NBlock) (i j:Nat) (B:NBlock) (hj:j<nb):(J0 nb n bp f).set (i*nb+j) (a5d (bp (i*nb+j)) B)=J0 nb n bp (λa b=>if a=i/\b=j then B else f a b):=by
 apply List.ext_getElem?;intro k;rw[List.getElem?_set];have hlen:(J0 nb n bp f).length=n:=by simp[J0]
 have hg:∀g k,(J0 nb n bp g)[k]? =if k<n then some (a5d (bp k) (g (k/nb) (k % nb)))else none:=λg k=>by
  by_cases hk:k<n
  ·rw[L4 _ _ _ _ _ hk,if_pos hk]
  ·rw[if_neg hk,List.getElem?_eq_none (by simp[J0];omega)]
 rw[hlen,hg,hg]
 by_cases e:i*nb+j=k
 ·subst e;rw[if_pos rfl]
  by_cases hk:i*nb+j<n
  ·rw[if_pos hk,if_pos hk,(H1 hj).1,(H1 hj).2,if_pos ⟨rfl,rfl⟩]
  ·rw[if_neg hk,if_neg hk]
 ·rw[if_neg e]
  by_cases hk:k<n
  ·rw[if_pos hk,if_pos hk,if_neg];rintro⟨rfl,rfl⟩;apply e;have:=Nat.div_add_mod k nb;rw[Nat.mul_comm]at this;exact this
  ·rw[if_neg hk,if_neg hk]
theorem W0 (l:List UInt8) (h:l.length=16):n7 l=l.map bv:=by
 match l,h with
 | [a0,a1,a2,a3,a4,a5,a6,a7,a8,a9,a10,a11,a12,a13,a14,a15],_=>rfl
theorem U3 (l:List UInt8) (h:l.length=32):H4 l=l.map bv:=by
 match l,h with
 | [a0,a1,a2,a3,a4,a5,a6,a7,a8,a9,a10,a11,a12,a13,a14,a15,a16,a17,a18,a19,a20,a21,a22,a23,a24,a25,a26,a27,a28,a29,a30,a31],_=>rfl
theorem m6:∀(l:List NCell),(t6 l).length=l.length*34
 | []=>rfl
 | c::l=>by
  have:=m6 l;simp only[t6,List.flatMap_cons,List.length_append,List.length_cons]at this ⊢;rw[this,show c.vals.length=34 from rfl];omega
theorem a2n:∀(l:List NCell) (r:List Value) (z:Nat) (c:NCell),l[z]? =some c->((t6 l++r).drop (z*34)).take 34=c.vals
 | [],r,z,c,h=>by simp at h
 | x::l,r,0,c,h=>by
  simp at h;subst h;simp only[t6,List.flatMap_cons,List.append_assoc,Nat.zero_mul,List.drop_zero];have:=List.take_left (l₁:=x.vals) (l₂:=List.flatMap NCell.vals l++r);exact this
 | x::l,r,z+1,c,h=>by
  have:=a2n l r z c (by simpa using h);simp only[t6,List.flatMap_cons,List.append_assoc,Nat.succ_mul]at this ⊢;rw[show z*34+34=x.vals.length+z*34 from by show _=34+_;omega,<- List.drop_drop,List.drop_left];exact this
theorem a8E {l:List NCell} {z:Nat} {c:NCell} (h:l[z]? =some c):((t6 l).drop (z*34)).take 32=H4 c.p:=by
 have h1:=a2n l [] z c h;rw[List.append_nil]at h1;have:=congrArg (List.take 32) h1;rw[List.take_take]at this;exact this
theorem a2P {l:List NCell} {z k:Nat} {c:NCell} (h:l[z]? =some c) (hk:k<34):(t6 l)[z*34+k]? =c.vals[k]?:=by
 have h1:=a2n l [] z c h;rw[List.append_nil]at h1;rw[<- h1,List.getElem?_take,if_pos hk,List.getElem?_drop]
theorem J.closeN {X:Cx} {K:List KI} {E:Env} {L L':List Atom} (p:Nat) (N N':Nand) (Y:NLoc) (i j:Nat) (hj:j<N.blocks) (B:NBlock) (c:Option Nat×Nat) (is:List Nat) (ok:x6 L is=true)
  (hp:q9 L is=[.pt p 107 (N'.mainV Y),B3 Y.r a3v (a0t N.blocks (N.dies*N.blocks) Y.bp),O4 Y.q N'.plan, .pt Y.d 4 (N'.dead.map Value.bool), .hp (HP.of ((J0 N.blocks (N.dies*N.blocks) Y.bp N.blk).set (i*N.blocks+j) .emp)),
   .pt (Y.bp (i*N.blocks+j)) 111 [slv c.1 B.cells.length c.2,iI B.worn, .bool B.fails, .bool B.met],c9 268 34 c.1 B.cells.length c.2 (t6 B.cells)])
  (h1:N'.dies=N.dies) (h2:N'.blocks=N.blocks) (hB:N'.blk=λa b=>if a=i/\b=j then B else N.blk a b) (hL:O0 L is [i9 p N']=some L') (h:J X K E L'):J X K E L:=by
 refine J.turn1 is ok (λh' s=>?_) hL h;rw[hp]at s;have s1:=s.turn1 [5,6] rfl (As:=[a5d (Y.bp (i*N.blocks+j)) B]) (λh2 s2=>⟨λ_=>0,λk A hA=>by
  cases k with
  | zero=>simp at hA;subst hA;exact⟨c,s2.up λb o hb=>res_some.2 ⟨rfl,hb⟩⟩
  | succ k=>simp at hA⟩)
 have s2:=s1.turn1 [4,5] rfl (As:=[.hp (HP.of ((J0 N.blocks (N.dies*N.blocks) Y.bp N.blk).set (i*N.blocks+j) (a5d (Y.bp (i*N.blocks+j)) B)))]) (λh2 s2=>Sep.closeAt s2);rw[b2g _ _ _ _ _ _ _ hj,<- hB]at s2;have s3:=s2.sub [0,1,2,3,4] rfl;refine⟨λ_=>0,λk A hA=>?_⟩;cases k with
 | zero=>
  simp at hA;subst hA;refine⟨Y,?_⟩;have:I3 p N' Y=[.pt p 107 (N'.mainV Y),B3 Y.r a3v (a0t N.blocks (N.dies*N.blocks) Y.bp),O4 Y.q N'.plan, .pt Y.d 4 (N'.dead.map Value.bool), .hp (HP.of (J0 N.blocks (N.dies*N.blocks) Y.bp N'.blk))]:=by rw[I3,h1,h2]
  rw[this];exact s3.up λb o hb=>res_some.2 ⟨rfl,hb⟩
 | succ k=>simp at hA
theorem C2 (f:Nat->Nat->NBlock) (i j:Nat):f=λa b=>if a=i/\b=j then f i j else f a b:=by
 funext a b;split
 ·rename_i h;rw[h.1,h.2]
 ·rfl
theorem a8v (d b p x y z:Int) (hd:0<=d/\d<=1000000) (hb:0<=b/\b<=1000000) (hp:0<=p/\p<=1000000):FP 137 [.agg #[iI d,iI b,iI p], .agg #[iI x,iI y,iI z]] [] (Ps (.bool (C7 d b p x y z)) []):=
 Fn.of_below (b7W d b p x y z hd hb hp)
theorem a2M (d b p:Int):FP 65 [.agg #[iI d,iI b,iI p]] [] (Ps (.bool (y6 d b p)) []):=Fn.of_below (b6A d b p)
theorem Nand.Ok.bd {N:Nand} (h:N.Ok):(3<=N.dies/\N.dies<=6)/\(8<=N.blocks/\N.blocks<=16)/\(2<=N.pages/\N.pages<=8):=by
 have:=h.geo;simp[y6]at this;omega
theorem a1Y (p:Nat) (N:Nand) (hN:N.Ok) (x y z:Int):FP 235 [pp p, .agg #[iI x,iI y,iI z]] [i9 p N] (Ps (iI (N.refuses x y z)) [i9 p N]):=by
 have hbd:=hN.bd;refine FE [2,0] Tryz.func235 λX F hX=>?_;refine J.o (α:=NLoc) 1 λY=>?_;refine J.qF λ_=>?_;refine J.qd (λ_ h1=>?_) λ_ h1=>?_
 ·refine J.q λ_=>?_;refine J.cl (I3 p N) (Y) [1,2,3,4,5] ?_;refine J.qr [1] λ_=>?_;exact⟨by simp[Nand.refuses,h1],rfl⟩
 refine J.pq (.of [0,4,8,13,17,22,24,28]) [] [1,2,3,4,5,6] λ_ _=>?_;refine J.ca hX (by kernel_rfl) (a8v _ _ _ x y z (by omega) (by omega) (by omega)) [] 0 rfl rfl rfl rfl rfl rfl (λ_=>rfl) ?_;refine cpq ⟨_,rfl,⟨rfl,rfl,rfl,rfl,rfl,rfl,trivial⟩,?_⟩;refine J.qd (λ_ h2=>?_) λ_ h2=>?_
 ·refine J.q λ_=>?_;refine J.cl (I3 p N) (Y) [1,2,3,4,5] ?_;refine J.qr [1] λ_=>?_;simp only[Bool.not_eq_true']at h2;exact⟨by simp[Nand.refuses,h1,h2],rfl⟩
 simp only[Bool.not_eq_false']at h2;have h3:(0<=x/\x<N.dies):=by simp[C7]at h2;omega
 obtain⟨i,rfl⟩:=Int.eq_ofNat_of_zero_le h3.1;have h4:i<N.dead.length:=by rw[hN.dead];omega
 refine J.pq (.of [0,4,8,13,16,21,24,29,32]) [] [1,2,3,4,5,6] λ_ _=>?_;refine J.vT (.bool N.dead[i]) rfl rfl (λ_ a w he hC=>?_) ?_
 ·exact i7 tk rfl rfl he rfl rfl rfl (hC rfl _ (f9 (i:=4) rfl)) (by simp[h4])
 refine J.qd (λ_ h5=>?_) λ_ h5=>?_
 ·refine J.q λ_=>?_;refine J.cl (I3 p N) (Y) [1,2,3,4,5] ?_;refine J.qr [1] λ_=>?_;exact⟨by simp[Nand.refuses,h1,h2,h4,h5],rfl⟩
 refine J.q λ_=>?_;refine J.cl (I3 p N) (Y) [1,2,3,4,5] ?_;refine J.qr [1] λ_=>?_;exact⟨by simp[Nand.refuses,h1,h2,h4,h5],rfl⟩
theorem U7 (x y:Int):FP 71 [iI x,iI y] [] (Ps (.agg #[iI x,iI y,iI 0]) []):=by
 refine FE [] Tryz.func71 λX F hX=>?_;exact J.qx []
theorem Y4:Tryz.prog.underlying 103=some (.map 52 108):=by kernel_rfl
theorem M7 {N:Nand} {Y:NLoc} {i j:Nat} (hi:i<N.dies) (hj:j<N.blocks):y5 (a0t N.blocks (N.dies*N.blocks) Y.bp) ((i:Int),(j:Int),0)=some (pp (Y.bp (i*N.blocks+j))):=by
 rw[a9N _ _ _ _ hj,if_pos (a4h hi hj)]
theorem a6g {N:Nand} {Y:NLoc} {x y:Int} (hb:0<N.blocks) (h:¬(0<=x/\x<N.dies/\0<=y/\y<N.blocks)):y5 (a0t N.blocks (N.dies*N.blocks) Y.bp) (x,y,0)=none:=by
 refine a4L _ hb _ _ _ λi j hij hj e=>h ?_;simp only[Prod.mk.injEq]at e;have hi:i<N.dies:=by
  rcases Nat.lt_or_ge i N.dies with h | h
  ·exact h
  ·have:=Nat.mul_le_mul_right N.blocks h;omega
 omega
theorem b3I (p:Nat) (N:Nand) (hN:N.Ok) (x y:Int):FP 122 [pp p,iI x,iI y] [i9 p N] (λv As=>v=iI (N.next x y)/\As=[i9 p N]):=by
 have hbd:=hN.bd
 by_cases hr:0<=x/\x<N.dies/\0<=y/\y<N.blocks
 ·obtain⟨i,rfl⟩:=Int.eq_ofNat_of_zero_le hr.1;obtain⟨j,rfl⟩:=Int.eq_ofNat_of_zero_le hr.2.2.1;have hi:i<N.dies:=by omega
  have hj:j<N.blocks:=by omega
  have hv:((N.next i j:Nat):Int)=((N.blk i j).cells.length:Nat):=by rw[Nand.next,if_pos (by omega)];rfl
  refine FE [2,0,0] Tryz.func122 λX F hX=>?_;refine J.o (α:=NLoc) 1 λY=>?_;refine J.openAt 5 (i*N.blocks+j) rfl rfl (L4 _ _ _ _ _ (a4h hi hj)) rfl ?_;rw[(H1 hj).1,(H1 hj).2];refine J.o (α:=(Option Nat×Nat)) 6 λc=>?_;refine J.p (.of [0,4,8,12,16,20,25,28,32,38,41,44,48]) [] [1,2,3,4,6,7] λ_=>?_;refine J.qp (U7 i j) [] λ_=>?_;refine J.valT hX (pp (Y.bp (i*N.blocks+j))) 7 rfl rfl (λ_ a w he hC=>?_) rfl ?_
  ·refine(l9 (key:=((i:Int),(j:Int),0)) J8 Y4 (z:= .pointer none) (λw=>by kernel_rfl) rfl rfl rfl rfl he rfl rfl (hC rfl _ (f9 (i:=2) rfl))).trans ?_;simp only[M7 hi hj];rfl
  refine J.qF λ_=>?_;refine J.p (.of [0,4,8,13,16,20,26,29,32,36,41,44,48]) [12] [1,2,3,4,6,7] λ_=>?_;refine J.qp (U7 i j) [] λ_=>?_;refine J.valT hX (pp (Y.bp (i*N.blocks+j))) 7 rfl rfl (λ_ a w he hC=>?_) rfl ?_
  ·refine(l9 (key:=((i:Int),(j:Int),0)) J8 Y4 (z:= .pointer none) (λw=>by kernel_rfl) rfl rfl rfl rfl he rfl rfl (hC rfl _ (f9 (i:=2) rfl))).trans ?_;simp only[M7 hi hj];rfl
  refine J.q λ_=>?_;refine J.closeN p N (N) Y i j hj (N.blk i j) _ [1,2,3,4,5,6,7] rfl rfl rfl rfl (C2 _ _ _) rfl ?_;refine J.qr [1] λ_=>?_;exact⟨by rw[hv],rfl⟩
 ·refine FE [2,0,0] Tryz.func122 λX F hX=>?_;refine J.o (α:=NLoc) 1 λY=>?_;refine J.p (.of [0,4,8,12,16,20,25,28,32,38,41,44,48]) [] [1,2,3,4] λ_=>?_;refine J.qp (U7 x y) [] λ_=>?_;refine J.vT (.pointer none) rfl rfl (λ_ a w he hC=>?_) ?_
  ·refine(l9 (key:=(x,y,0)) J8 Y4 (z:= .pointer none) (λw=>by kernel_rfl) rfl rfl rfl rfl he rfl rfl (hC rfl _ (f9 (i:=2) rfl))).trans ?_;simp only[a6g (show 0<N.blocks by omega) hr];rfl
  refine J.qT λ_=>?_;refine J.q λ_=>?_;refine J.cl (I3 p N) (Y) [1,2,3,4,5] ?_;refine J.qr [1] λ_=>?_;exact⟨by simp[Nand.next,hr],rfl⟩
theorem a9k (p:Nat) (N:Nand) (hN:N.Ok) (x y:Int):FP 119 [pp p,iI x,iI y] [i9 p N] (λv As=>v=iI (N.wornAt x y)/\As=[i9 p N]):=by
 have hbd:=hN.bd
 by_cases hr:0<=x/\x<N.dies/\0<=y/\y<N.blocks
 ·obtain⟨i,rfl⟩:=Int.eq_ofNat_of_zero_le hr.1;obtain⟨j,rfl⟩:=Int.eq_ofNat_of_zero_le hr.2.2.1;have hi:i<N.dies:=by omega
  have hj:j<N.blocks:=by omega
  have hv:N.wornAt i j=(N.blk i j).worn:=by rw[Nand.wornAt,if_pos (by omega)];rfl
  refine FE [2,0,0] Tryz.func119 λX F hX=>?_;refine J.o (α:=NLoc) 1 λY=>?_;refine J.openAt 5 (i*N.blocks+j) rfl rfl (L4 _ _ _ _ _ (a4h hi hj)) rfl ?_;rw[(H1 hj).1,(H1 hj).2];refine J.o (α:=(Option Nat×Nat)) 6 λc=>?_;refine J.p (.of [0,4,8,12,16,20,25,28,32,38,41,44,48]) [] [1,2,3,4,6,7] λ_=>?_;refine J.qp (U7 i j) [] λ_=>?_;refine J.valT hX (pp (Y.bp (i*N.blocks+j))) 7 rfl rfl (λ_ a w he hC=>?_) rfl ?_
  ·refine(l9 (key:=((i:Int),(j:Int),0)) J8 Y4 (z:= .pointer none) (λw=>by kernel_rfl) rfl rfl rfl rfl he rfl rfl (hC rfl _ (f9 (i:=2) rfl))).trans ?_;simp only[M7 hi hj];rfl
  refine J.qF λ_=>?_;refine J.p (.of [0,4,8,13,16,20,26,29,32,36,41,44]) [11] [1,2,3,4,6,7] λ_=>?_;refine J.qp (U7 i j) [] λ_=>?_;refine J.valT hX (pp (Y.bp (i*N.blocks+j))) 7 rfl rfl (λ_ a w he hC=>?_) rfl ?_
  ·refine(l9 (key:=((i:Int),(j:Int),0)) J8 Y4 (z:= .pointer none) (λw=>by kernel_rfl) rfl rfl rfl rfl he rfl rfl (hC rfl _ (f9 (i:=2) rfl))).trans ?_;simp only[M7 hi hj];rfl
  refine J.q λ_=>?_;refine J.closeN p N (N) Y i j hj (N.blk i j) _ [1,2,3,4,5,6,7] rfl rfl rfl rfl (C2 _ _ _) rfl ?_;refine J.qr [1] λ_=>?_;exact⟨by rw[hv],rfl⟩
 ·refine FE [2,0,0] Tryz.func119 λX F hX=>?_;refine J.o (α:=NLoc) 1 λY=>?_;refine J.p (.of [0,4,8,12,16,20,25,28,32,38,41,44,48]) [] [1,2,3,4] λ_=>?_;refine J.qp (U7 x y) [] λ_=>?_;refine J.vT (.pointer none) rfl rfl (λ_ a w he hC=>?_) ?_
  ·refine(l9 (key:=(x,y,0)) J8 Y4 (z:= .pointer none) (λw=>by kernel_rfl) rfl rfl rfl rfl he rfl rfl (hC rfl _ (f9 (i:=2) rfl))).trans ?_;simp only[a6g (show 0<N.blocks by omega) hr];rfl
  refine J.qT λ_=>?_;refine J.q λ_=>?_;refine J.cl (I3 p N) (Y) [1,2,3,4,5] ?_;refine J.qr [1] λ_=>?_;exact⟨by simp[Nand.wornAt,hr],rfl⟩
theorem U8 (p:Nat) (N:Nand):FP 49 [pp p] [i9 p N] (λv As=>v= .agg #[iI N.dies,iI N.blocks,iI N.pages]/\As=[i9 p N]):=by
 refine FE [2] Tryz.func49 λX F hX=>?_;refine J.o (α:=NLoc) 1 λY=>?_;refine J.qF λ_=>?_;refine J.q λ_=>?_;refine J.cl (I3 p N) (Y) [1,2,3,4,5] ?_;exact J.qx [1]
theorem a1r (p:Nat) (N:Nand):FP 97 [pp p] [i9 p N] (λv As=>v= .bool (!N.off)/\As=[i9 p N]):=by
 refine FE [2] Tryz.func97 λX F hX=>?_;refine J.o (α:=NLoc) 1 λY=>?_;refine J.q λ_=>?_;refine J.cl (I3 p N) (Y) [1,2,3,4,5] ?_;refine J.qr [1] λ_=>?_;exact⟨by simp,rfl⟩
theorem b3G (p:Nat) (N:Nand):FP 45 [pp p] [i9 p N] (λv As=>v=iI N.ops/\As=[i9 p N]):=by
 refine FE [2] Tryz.func45 λX F hX=>?_;refine J.o (α:=NLoc) 1 λY=>?_;refine J.qF λ_=>?_;refine J.q λ_=>?_;refine J.cl (I3 p N) (Y) [1,2,3,4,5] ?_;exact J.qx [1]
theorem a1s (p:Nat) (N:Nand):FP 50 [pp p] [i9 p N] (λv As=>v=iI N.broken/\As=[i9 p N]):=by
 refine FE [2] Tryz.func50 λX F hX=>?_;refine J.o (α:=NLoc) 1 λY=>?_;refine J.qF λ_=>?_;refine J.q λ_=>?_;refine J.cl (I3 p N) (Y) [1,2,3,4,5] ?_;exact J.qx [1]
theorem b3H (p:Nat) (N:Nand):FP 39 [pp p] [i9 p N] (λv As=>v= .tuple #[]/\As=[i9 p N.onN]):=by
 refine FE [2] Tryz.func39 λX F hX=>?_;refine J.o (α:=NLoc) 1 λY=>?_;refine J.qT λ_=>?_;refine J.q λ_=>?_;refine J.cl (I3 p N.onN) (Y) [1,2,3,4,5] ?_;refine J.q λ_=>?_;refine J.f [1] ?_;exact⟨rfl,rfl⟩
theorem a7W (p:Nat) (N:Nand) (x k:Int):FP 35 [pp p,iI x,iI k] [i9 p N] (λv As=>v= .tuple #[]/\As=[i9 p (N.setCut x k)]):=by
 refine FE [2,0,0] Tryz.func35 λX F hX=>?_;refine J.o (α:=NLoc) 1 λY=>?_;refine J.qd (λ_ h=>?_) λ_ h=>?_
 ·refine J.q λ_=>?_;refine J.cl (I3 p N) (Y) [1,2,3,4,5] ?_;refine J.qr [1] λ_=>?_;simp only[Bool.false_or]at h;exact⟨rfl,by simp[Nand.setCut,h,q9];rfl⟩
 ·simp only[Bool.false_or]at h;have hs:N.setCut x k={N with cuts:=decide (x>=0),left:=x,keep:=if 32<(if 0>k then 0 else k)then 32 else(if 0>k then 0 else k),off:=decide (x<0)}:=by
   simp only[Nand.setCut,h];have:min (max k 0) 32=if 32<(if 0>k then 0 else k)then 32 else(if 0>k then 0 else k):=by(repeat' split)<;>omega
   rw[this];rfl
  refine J.q λ_=>?_;refine J.cl (I3 p {N with cuts:=decide (x>=0),left:=x,keep:=if 32<(if 0>k then 0 else k)then 32 else(if 0>k then 0 else k),off:=decide (x<0)}) (Y) [1,2,3,4,5] ?_;refine J.q λ_=>?_;refine J.f [1] ?_;exact⟨rfl,by rw[hs];rfl⟩
theorem b7f (p:Nat) (N:Nand) (Y:NLoc) (hN:N.Ok) (hR:N.Room):FP 236 [pp p] [.pt p 107 (N.mainV Y)] (λv As=>v= .bool N.cutB/\As=[.pt p 107 (N.cutN.mainV Y)]):=by
 have h1:=hN.num.1;have h2:=hR.ops;have h3:=hN.lft;have h4:=hN.lf2;refine FE [2] Tryz.func236 λX F hX=>?_;refine J.qd (λ_ h=>?_) λ_ h=>?_
 ·simp only[Bool.not_eq_true']at h;have hs:N.cutN={N with ops:=N.ops+1}:=by simp[Nand.cutN,Nand.cutB,h]
  refine J.qr [1] λ_=>?_;exact⟨by simp[Nand.cutB,h],by rw[hs];rfl⟩
 simp only[Bool.not_eq_false']at h;have h3:=h3 h;refine J.qd (λ_ h5=>?_) λ_ h5=>?_
 ·simp only[decide_eq_true_eq]at h5;have hs:N.cutN={N with ops:=N.ops+1,left:=N.left-1}:=by
   have hcb:N.cutB=false:=by simp[Nand.cutB,h];omega
   simp[Nand.cutN,hcb,h]
  refine J.qr [1] λ_=>?_;exact⟨by congr 1;simp[Nand.cutB,h];omega,by rw[hs];rfl⟩
 simp only[decide_eq_false_iff_not]at h5;have hcb:N.cutB=true:=by simp[Nand.cutB,h];omega
 have hs:N.cutN={N with ops:=N.ops+1,left:=N.left-1,cuts:=false,off:=true}:=by
  simp[Nand.cutN,hcb,h]
 refine J.qr [1] λ_=>?_;exact⟨by rw[hcb],by rw[hs];rfl⟩
theorem a4c (p:Nat) (N:Nand) (hN:N.Ok) (x:Int):FP 46 [pp p,iI x] [i9 p N] (λv As=>v= .bool (N.deadAt x)/\As=[i9 p N]):=by
 have hd:=hN.dead;refine FE [2,0] Tryz.func46 λX F hX=>?_;refine J.o (α:=NLoc) 1 λY=>?_;refine J.q λ_=>?_;refine J.v (.bool (N.dead.getD x.toNat false)) rfl rfl (λhg a w he hs=>?_) ?_
 ·simp only[G.on,Bool.and_eq_true,decide_eq_true_eq]at hg;refine i7 tk rfl rfl he (by simp[G.on,hg]) rfl rfl (hs.get (i:=4) rfl) ?_;have:x.toNat<N.dead.length:=by omega
  simp[this]
 refine J.q λ_=>?_;refine J.cl (I3 p N) (Y) [1,2,3,4,5] ?_;refine J.qr [1] λ_=>?_;refine⟨?_,rfl⟩;congr 1
theorem j4 {e size:Nat} {c:Option Nat×Nat} {n:Nat} {xs:List Value} (hn:0<n) {h:Hl} (s:(c9 e size c.1 n c.2 xs).sat h):∃g,c.1=some g:=by
 obtain⟨_,h2⟩:=s;cases hc:c.1 with
 | none=>rw[hc]at h2;omega
 | some g=>exact⟨g,rfl⟩
theorem a4a (p:Nat) (N:Nand) (hN:N.Ok) (x y z:Int):FP 217 [pp p, .agg #[iI x,iI y,iI z]] [i9 p N] (λv As=>v= .tuple #[.agg (H4 (N.readV x y z)).toArray,iI (N.readE x y z)]/\As=[i9 p N]):=by
 have hbd:=hN.bd;refine FE [2,0] Tryz.func217 λX F hX=>?_;refine J.qp (a1Y p N hN x y z) [1] λ_=>?_;refine J.qd (λ_ h=>?_) λ_ h=>?_
 ·simp only[bne_iff_ne,ne_eq]at h;refine J.qr [1] λ_=>?_;exact⟨by simp only[Nand.readV,Nand.readE,ne_eq,h,not_false_eq_true,if_pos];rfl,rfl⟩
 simp only[bne_eq_false_iff_eq]at h;obtain⟨hoff,hdd,hr⟩:=Nand.refuses_zero h;obtain⟨i,rfl⟩:=Int.eq_ofNat_of_zero_le hr.1;obtain⟨j,rfl⟩:=Int.eq_ofNat_of_zero_le hr.2.2.1;obtain⟨k,rfl⟩:=Int.eq_ofNat_of_zero_le hr.2.2.2.2.1;have hi:i<N.dies:=by omega
 have hj:j<N.blocks:=by omega
 refine J.o (α:=NLoc) 1 λY=>?_;refine J.openAt 7 (i*N.blocks+j) rfl rfl (L4 _ _ _ _ _ (a4h hi hj)) rfl ?_;rw[(H1 hj).1,(H1 hj).2];refine J.o (α:=(Option Nat×Nat)) 8 λc=>?_;refine J.p (.of [0,4,8,13,16,21,24,29,34,37,40]) [10] [1,2,3,4,5,6,7,8,9] λ_=>?_;refine J.qp (U7 i j) [] λ_=>?_;refine J.valT hX (pp (Y.bp (i*N.blocks+j))) 9 rfl rfl (λ_ a w he hC=>?_) rfl ?_
 ·refine(l9 (key:=((i:Int),(j:Int),0)) J8 Y4 (z:= .pointer none) (λw=>by kernel_rfl) rfl rfl rfl rfl he rfl rfl (hC rfl _ (f9 (i:=4) rfl))).trans ?_;simp only[M7 hi hj];rfl
 refine J.p (.of [0,5,8,12,16,21,24,28,32]) [] [1,2,3,4,5,6,7,8,9] λ_=>?_;refine J.qd (λ_ h5=>?_) λ_ h5=>?_
 ·simp only[ge_iff_le,decide_eq_true_eq,Int.ofNat_le]at h5;have hp:N.pageAt i j k=none:=by simp[Nand.pageAt,h5]
  refine J.q λ_=>?_;refine J.closeN p N (N) Y i j hj (N.blk i j) _ [1,4,5,6,7,8,9] rfl rfl rfl rfl (C2 _ _ _) rfl ?_;refine J.qr [1] λ_=>?_;exact⟨by simp only[Nand.readV,Nand.readE,h,hp,ne_eq,not_true_eq_false,if_false];rfl,rfl⟩
 simp only[ge_iff_le,decide_eq_false_iff_not,Int.ofNat_le,Nat.not_le]at h5;obtain⟨cl,hcl⟩:∃cl,(N.blk i j).cells[k]? =some cl:=⟨_,List.getElem?_eq_getElem h5⟩;have hp:N.pageAt i j k=some cl:=by simp only[Nand.pageAt,Int.toNat_natCast];exact hcl
 refine J.know (λh' s=>j4 (by omega) (s.get (i:=9) rfl)) λhg=>?_;obtain⟨g,hg⟩:=hg;obtain⟨c1,c2⟩:=c;simp only at hg;subst hg;refine J.pq (.of [0,4,8,13,16,21,24,28,33,36]) [] [1,2,3,4,5,6,7,8,9] λ_ _=>?_;refine J.vT (.bool cl.lost) rfl rfl (λ_ a w he hC=>?_) ?_
 ·exact l8 tk rfl rfl he rfl rfl rfl (hC rfl _ (f9 (i:=9) rfl)) (by rw[show 0+((k:Int)).toNat*34+32=k*34+32 from by simp];exact a2P hcl (by omega))
 refine J.qd (λ_ h6=>?_) λ_ h6=>?_
 ·refine J.q λ_=>?_;refine J.closeN p N (N) Y i j hj (N.blk i j) _ [1,4,5,6,7,8,9] rfl rfl rfl rfl (C2 _ _ _) rfl ?_;refine J.qr [1] λ_=>?_;exact⟨by simp only[Nand.readV,Nand.readE,h,hp,h6,ne_eq,not_true_eq_false,if_false,if_true];rfl,rfl⟩
 refine J.pq (.of [0,4,8,13,16,21,24,28,33,39,40]) [9,10] [1,2,4,5,6,7,8,9] λ_ _=>?_;refine J.vT (.agg (H4 cl.p).toArray) rfl rfl (λ_ a w he hC=>?_) ?_
 ·exact p6 tk rfl rfl he rfl rfl rfl (hC rfl _ (f9 (i:=9) rfl)) (by rw[show 0+((k:Int)).toNat*34+0=k*34 from by simp];exact a8E hcl) rfl
 refine J.q λ_=>?_;refine J.closeN p N (N) Y i j hj (N.blk i j) _ [1,4,5,6,7,8,9] rfl rfl rfl rfl (C2 _ _ _) rfl ?_;refine J.qr [1] λ_=>?_;exact⟨by simp only[Nand.readV,Nand.readE,h,hp,h6,ne_eq,not_true_eq_false,if_false,Bool.false_eq_true];rfl,rfl⟩
def a0q (a b:Nat) (p:List UInt8):List UInt8:=p.take a++List.replicate (b-a) 255++p.drop b
theorem a5W (a b:Nat) (p:List UInt8) (h1:a<=b) (h2:b<=p.length):(a0q a b p).length=p.length:=by simp[a0q];omega
theorem a9z (a:Nat) (p:List UInt8):a0q a a p=p:=by simp[a0q]
theorem b1T (a b:Nat) (p:List UInt8) (h1:a<=b) (h2:b<p.length):(a0q a b p).set b 255=a0q a (b+1) p:=by
 apply List.ext_getElem?;intro j;have hl:=a5W a b p h1 (by omega);rw[List.getElem?_set,hl];simp only[a0q,List.append_assoc,List.getElem?_append,List.length_take,List.length_replicate,List.getElem?_take,List.getElem?_replicate,List.getElem?_drop]
 by_cases e:b=j
 ·subst e;rw[if_pos rfl,if_pos h2,if_neg (by omega),if_pos (by omega),if_pos (by omega)]
 ·rw[if_neg e]
  by_cases h3:j<min a p.length
  ·rw[if_pos h3,if_pos h3]
  ·rw[if_neg h3,if_neg h3]
   by_cases h4:j<b
   ·rw[if_pos (by omega),if_pos (by omega),if_pos (by omega),if_pos (by omega)]
   ·rw[if_neg (by omega),if_neg (by omega)];congr 1;omega
theorem b1h (p:List UInt8) (h:p.length=32) (k:Nat) (v:UInt8):(H4 p).set k (bv v)=H4 (p.set k v):=by
 rw[U3 p h,U3 _ (by simpa using h),List.map_set]
theorem a8D (l:List NCell) (c:NCell):t6 (l++[c])=t6 l++c.vals:=by simp[t6]
theorem b1U (K:Nat) (p:List UInt8) (h:K<=32) (hp:p.length=32):a0q K 32 p=Nand.fillP K p:=by
 simp only[a0q,Nand.fillP];rw[List.drop_of_length_le (by omega),List.append_nil]
theorem a6r (l:List NCell) (c:NCell):l.length+1=(l++[c]).length:=by simp
theorem b2T {L L2:List Atom} {k e n cap:Nat} {ao:Option Nat} {l:List NCell} {cs:List Value} (c:NCell) (h:cs=c.vals) (hL:p9 L k (c9 e 34 ao n cap (t6 (l++[c])))=some L2):p9 L k (c9 e 34 ao n cap (t6 l++cs))=some L2:=by
 rw[h,<- a8D];exact hL
theorem b1f {N:Nand} {x y z:Int} {pg:List UInt8} (h:N.refuses x y z=0) (h5:z=(N.blk x.toNat y.toNat).cells.length) (h6:N.cutB=true):N.progN x y z pg=N.cutN.push x.toNat y.toNat ⟨Nand.fillP N.keep.toNat pg,false,true⟩:=by
 unfold Nand.progN;rw[if_neg (by simp[h]),if_neg (by simp[h5]),if_pos h6]
theorem a3N {N:Nand} {x y z:Int} {pg:List UInt8} (h:N.refuses x y z=0) (h5:z=(N.blk x.toNat y.toNat).cells.length) (h6:N.cutB=false):N.progN x y z pg=Nand.push {N.cutN with plan:=N.plan.erase (x,y,z)} x.toNat y.toNat ⟨pg,N.fails x y z,false⟩:=by
 unfold Nand.progN;rw[if_neg (by simp[h]),if_neg (by simp[h5]),if_neg (by simp[h6])]
theorem b1g {N:Nand} {x y z:Int} (h:N.refuses x y z=0) (h5:z=(N.blk x.toNat y.toNat).cells.length) (h6:N.cutB=true):N.progE x y z=9:=by
 unfold Nand.progE;rw[if_neg (by simp[h]),if_neg (by simp[h5]),if_pos h6]
theorem a3O {N:Nand} {x y z:Int} (h:N.refuses x y z=0) (h5:z=(N.blk x.toNat y.toNat).cells.length) (h6:N.cutB=false):N.progE x y z=if N.fails x y z then 7 else 0:=by
 unfold Nand.progE;rw[if_neg (by simp[h]),if_neg (by simp[h5]),if_neg (by simp[h6])]
theorem a0z (p:Nat) (N:Nand) (hN:N.Ok) (hR:N.Room) (x y z:Int) (pg:List UInt8) (hpl:pg.length=32):
  FP 234 [pp p, .agg #[iI x,iI y,iI z], .agg (H4 pg).toArray] [i9 p N] (Ps (iI (N.progE x y z)) [i9 p (N.progN x y z pg)]):=by
 have hbd:=hN.bd;have hnum:=hN.num;have hr1:=hR.broken;refine FE [2,0,0] Tryz.func234 λX F hX=>?_;refine J.q λbs=>?_;refine J.cb (a1Y p N hN x y z) [1] ?_;refine cpq ⟨_,rfl,trivial,?_⟩;refine J.qd (λ_ h=>?_) λ_ h=>?_
 ·simp only[bne_iff_ne,ne_eq]at h;refine J.qr [1] λ_=>?_;exact⟨by simp only[Nand.progE,ne_eq,h,not_false_eq_true,if_pos],by simp only[Nand.progN,ne_eq,h,not_false_eq_true,if_pos];rfl⟩
 simp only[bne_eq_false_iff_eq]at h;obtain⟨hoff,hdd,hr⟩:=Nand.refuses_zero h;obtain⟨i,rfl⟩:=Int.eq_ofNat_of_zero_le hr.1;obtain⟨j,rfl⟩:=Int.eq_ofNat_of_zero_le hr.2.2.1;obtain⟨k,rfl⟩:=Int.eq_ofNat_of_zero_le hr.2.2.2.2.1;have hi:i<N.dies:=by omega
 have hj:j<N.blocks:=by omega
 have hlen:=(hN.cells i j hi hj).1;refine J.o (α:=NLoc) 1 λY=>?_;refine J.openAt 7 (i*N.blocks+j) rfl rfl (L4 _ _ _ _ _ (a4h hi hj)) rfl ?_;rw[(H1 hj).1,(H1 hj).2];refine J.o (α:=(Option Nat×Nat)) 8 λc=>?_;refine J.p (.of [0,4,8,13,16,21,24,29,34,37,40]) [10] [1,2,3,4,5,6,7,8,9] λ_=>?_;refine J.qp (U7 i j) [] λ_=>?_;refine J.valT hX (pp (Y.bp (i*N.blocks+j))) 9 rfl rfl (λ_ a w he hC=>?_) rfl ?_
 ·refine(l9 (key:=((i:Int),(j:Int),0)) J8 Y4 (z:= .pointer none) (λw=>by kernel_rfl) rfl rfl rfl rfl he rfl rfl (hC rfl _ (f9 (i:=4) rfl))).trans ?_;simp only[M7 hi hj];rfl
 refine J.p (.of [0,5,8,12,16,21,24,28]) [] [1,2,3,4,5,6,7,8,9] λ_=>?_;refine J.qd (λ_ h5=>?_) λ_ h5=>?_
 ·simp only[bne_iff_ne,ne_eq]at h5;refine J.q λ_=>?_;refine J.closeN p N ({N with broken:=N.broken+1}) Y i j hj (N.blk i j) _ [1,4,5,6,7,8,9] rfl rfl rfl rfl (C2 _ _ _) rfl ?_;refine J.qr [1] λ_=>?_;exact⟨by simp[Nand.progE,h,h5],by simp[Nand.progN,h,h5];rfl⟩
 simp only[bne_eq_false_iff_eq,Int.natCast_inj]at h5;refine J.qp (b7f p N Y hN hR) [1] λ_=>?_;refine J.qd (λ_ h6=>?_) λ_ h6=>?_
 ·have hkp:=hN.kp;obtain⟨K,hK⟩:∃K:Nat,N.keep=K:=⟨N.keep.toNat,by omega⟩;have hK2:N.cutN.keep=K:=hK;refine J.q λ_=>?_;rw[hK2];refine J.q λ_=>?_;refine J.lo (α:=Nat) (λm=>K<=m/\m<=32) (λm=>[si 9 m,⟨5,pp (bs (0+1)),4, .tt⟩,⟨8,pp (Y.bp (i*N.blocks+j)),9, .tt⟩]) [3] (λm=>[.pt (bs (0+1)) 155 (H4 (a0q K m pg))]) (λm=>32-m) (K) (⟨Nat.le_refl _,by omega⟩) rfl ?_ (λ_=>rfl) λm hI=>?_
  ·rw[a9z];rfl
  refine J.qd (λ_ h7=>?_) λ_ h7=>?_
  ·simp only[decide_eq_true_eq]at h7;refine J.q λ_=>?_;refine J.s1 3 (H4 (a0q K (m+1) pg)) ?_ ?_ ?_
   ·show 0+(m:Int).toNat*1<32;omega
   ·rw[show 0+(m:Int).toNat*1=m from by omega,<- b1T _ _ _ hI.1 (by omega)];exact b1h _ (by rw[a5W _ _ _ hI.1 (by omega)];exact hpl) m 255
   refine J.q λ_=>?_;refine J.nx (m+1) (⟨by omega,by omega⟩) (by omega) (λ_ s=>s)
  simp only[decide_eq_false_iff_not]at h7;obtain rfl:m=32:=by omega
  refine J.pq (.of [0,4,8,12,17,21,24,30,34,36,40,47]) [9,10,11] [1,2,3,4,5,6,7,8] λ_ _=>?_;rw[b1U _ _ hI.1 hpl];refine J.append hX tk 9 10 0 rfl rfl rfl rfl rfl rfl rfl rfl rfl rfl rfl rfl rfl rfl rfl rfl ?_ ?_ (λ_=>rfl) λa' cap'=>⟨_,b2T ⟨Nand.fillP K pg,false,true⟩ rfl rfl,⟨rfl,rfl,rfl,rfl,rfl,rfl,rfl,rfl,trivial⟩,?_⟩
  ·simp only[maxLen];omega
  ·omega
  refine J.q λ_=>?_;rw[a6r _ ⟨Nand.fillP K pg,false,true⟩];refine J.q λ_=>?_;refine J.closeN p N (N.cutN.push i j ⟨Nand.fillP K pg,false,true⟩) Y i j hj ({N.blk i j with cells:=(N.blk i j).cells++[⟨Nand.fillP K pg,false,true⟩]}) (a',cap') [1,4,5,6,7,8,9] rfl rfl rfl rfl (rfl) rfl ?_;refine J.qr [1] λ_=>?_;subst h5;exact⟨(b1g h rfl h6).symm▸rfl,by rw[b1f h rfl h6,hK];rfl⟩
 ·refine J.p (.of [0,4,8,13,17,22,24,28,32,36,40]) [10] [1,2,3,4,6,7,8,9] λ_=>?_;refine J.qp (b7b Y.q N.plan i j k) [5] λ_=>?_;refine J.p (.of [0,4,8,13,17,22]) [] [1,2,3,4,6,7,8,9] λ_=>?_;refine J.qp (b2Y Y.q N.plan i j k) [5] λ_=>?_;refine J.pq (.of [0,4,8,12,17,21,24,28,34,38,40,44,51]) [10,11,12] [1,2,3,4,5,6,7,8] λ_ _=>?_;refine J.append hX tk 9 10 0 rfl rfl rfl rfl rfl rfl rfl rfl rfl rfl rfl rfl rfl rfl rfl rfl ?_ ?_ (λ_=>rfl) λa' cap'=>⟨_,b2T ⟨pg,decide (((i:Int),(j:Int),(k:Int))∈N.plan)||(N.blk i j).met,false⟩ rfl rfl,⟨rfl,rfl,rfl,rfl,rfl,rfl,rfl,rfl,trivial⟩,?_⟩
  ·simp only[maxLen];omega
  ·omega
  refine J.q λ_=>?_;rw[a6r _ ⟨pg,N.fails i j k,false⟩];refine J.q λ_=>?_;refine J.closeN p N (Nand.push {N.cutN with plan:=N.plan.erase ((i:Int),(j:Int),(k:Int))} i j ⟨pg,N.fails i j k,false⟩) Y i j hj ({N.blk i j with cells:=(N.blk i j).cells++[⟨pg,N.fails i j k,false⟩]}) (a',cap') [1,4,5,6,7,8,9] rfl rfl rfl rfl (rfl) rfl ?_;refine J.qd (λ_ h9=>?_) λ_ h9=>?_
  ·refine J.qr [1] λ_=>?_;subst h5;exact⟨by rw[a3O h rfl h6];exact congrArg (Value.int IntKind.i64) (if_pos h9).symm,by rw[a3N h rfl h6];rfl⟩
  ·refine J.qr [1] λ_=>?_;subst h5;exact⟨by rw[a3O h rfl h6];exact congrArg (Value.int IntKind.i64) (if_neg (by rw[show N.fails i j (N.blk i j).cells.length=false from h9];simp)).symm,by rw[a3N h rfl h6];rfl⟩
theorem R1:∀(l:List NCell) (k i:Nat) (v:Value) (f:NCell->NCell) (c:NCell),l[k]? =some c->i<34->c.vals.set i v=(f c).vals->(t6 l).set (k*34+i) v=t6 (l.modify k f)
 | [],k,i,v,f,c,h,_,_=>by simp at h
 | x::l,0,i,v,f,c,h,hi,hv=>by
  simp at h;subst h;simp only[t6,List.flatMap_cons,List.modify_cons,Nat.zero_mul,Nat.zero_add,if_true];rw[List.set_append_left _ _ (by simpa[NCell.vals]using hi),hv]
 | x::l,k+1,i,v,f,c,h,hi,hv=>by
  have:=R1 l k i v f c (by simpa using h) hi hv;simp only[t6,List.flatMap_cons,List.modify_cons]at this ⊢;rw[List.set_append_right _ _ (by simp[NCell.vals];omega),show(k+1)*34+i-x.vals.length=k*34+i from by simp[NCell.vals];omega,this];simp
theorem b6G {N:Nand} {x y z n xx:Int} (h:C7 N.dies N.blocks N.pages x y z=true):N.fault 1 x y z n xx=(true,{N with plan:=b2l N.plan (x,y,z)}):=by
 unfold Nand.fault;rw[if_neg (by simp[h]),if_pos rfl];rfl
theorem b6F {N:Nand} {x y z n xx:Int} (h:C7 N.dies N.blocks N.pages x y z=true):N.fault 2 x y z n xx=(true,N.setBlk x.toNat y.toNat {N.blk x.toNat y.toNat with fails:=true}):=by
 unfold Nand.fault;rw[if_neg (by simp[h]),if_neg (by decide),if_pos rfl]
theorem b0y {N:Nand} {x y z n xx:Int} (h:C7 N.dies N.blocks N.pages x y z=true):N.fault 3 x y z n xx=(true,N.setCell x y z λc=>{c with lost:=true}):=by
 unfold Nand.fault;rw[if_neg (by simp[h]),if_neg (by decide),if_neg (by decide),if_pos rfl]
theorem b6E {N:Nand} {x y z n xx:Int} (h:C7 N.dies N.blocks N.pages x y z=true):N.fault 4 x y z n xx=(true,{N with dead:=N.dead.set x.toNat true}):=by
 unfold Nand.fault;rw[if_neg (by simp[h]),if_neg (by decide),if_neg (by decide),if_neg (by decide),if_pos rfl]
theorem b4M {N:Nand} {k x y z n xx:Int} (h1:k≠1) (h2:k≠2) (h3:k≠3) (h4:k≠4) (h5:k≠5):N.fault k x y z n xx=(false,N):=by
 unfold Nand.fault;split<;>simp_all
theorem a7X {l:List NCell} {k:Nat} {f:NCell->NCell} (h:l.length<=k):l.modify k f=l:=by
 apply List.ext_getElem?;intro j;rw[List.getElem?_modify]
 by_cases e:k=j
 ·subst e;rw[List.getElem?_eq_none h];rfl
 ·simp[e]
theorem a3k {N:Nand} {x y z n xx:Int} (h:C7 N.dies N.blocks N.pages x y z=true):N.fault 5 x y z n xx=if n<0\/32<=n then(false,N)else
  match N.pageAt x y z with
  | none=>(true,N)
  | some c=>if c.turned then(false,N)else if c.lost then(true,N)else
   (true,N.setCell x y z λc=>{c with p:=Nand.xorAt c.p n.toNat (UInt8.ofNat (xx % 256).toNat),turned:=true}):=by
 unfold Nand.fault;rw[if_neg (by simp[h]),if_neg (by decide),if_neg (by decide),if_neg (by decide),if_neg (by decide),if_pos rfl]
 try rfl
theorem a2L {N:Nand} {x y z n xx:Int} (h:C7 N.dies N.blocks N.pages x y z=true) (h2:N.pageAt x y z=none) {b:Bool} (hb:(decide (n<0)||decide (n>=32))=b):N.fault 5 x y z n xx=(!b,N):=by
 subst hb;rw[a3k h,h2]
 by_cases h3:n<0\/32<=n
 ·rw[if_pos h3];simp;omega
 ·rw[if_neg h3];simp;omega
theorem a5a {N:Nand} {x y z n xx:Int} {c:NCell} (h:C7 N.dies N.blocks N.pages x y z=true) (h2:N.pageAt x y z=some c) (hb:(decide (n<0)||decide (n>=32)||(true&&c.turned))=true):N.fault 5 x y z n xx=(false,N):=by
 rw[a3k h,h2]
 by_cases h3:n<0\/32<=n
 ·rw[if_pos h3]
 ·rw[if_neg h3];simp only[Bool.or_eq_true,decide_eq_true_eq,Bool.true_and]at hb;rcases hb with hb | hb
  ·omega
  ·simp only;rw[if_pos hb]
theorem a6l {c:NCell} (h:c.p.length=32):c.vals=c.p.map bv++[.bool c.lost, .bool c.turned]:=by
 rw[<- U3 c.p h];rfl
theorem b2y {c:NCell} (h:c.p.length=32) {e:Nat} (he:e<32):c.vals[e]? =some (bv (c.p.getD e 0)):=by
 rw[a6l h,List.getElem?_append_left (by simpa[h]using he)];simp[h,he]
theorem b2o (b:UInt8) (xx:Int):IntKind.u8.wrap ((BitVec.ofInt IntKind.u8.bits (b.toNat:Int) ^^^ BitVec.ofInt IntKind.u8.bits (IntKind.u8.wrap xx)).toNat:Int)=((b ^^^ UInt8.ofNat (xx % 256).toNat).toNat:Int):=by
 have h0:IntKind.u8.wrap xx=xx % 256:=by simp[IntKind.wrap,IntKind.bits,IntKind.signed]
 obtain⟨m,hm⟩:∃m:Nat,xx % 256=m:=⟨(xx % 256).toNat,by omega⟩;have hm2:m<256:=by omega
 rw[h0,hm];simp only[Int.toNat_natCast];have e1:(BitVec.ofInt IntKind.u8.bits (b.toNat:Int) ^^^ BitVec.ofInt IntKind.u8.bits (m:Int)).toNat=b.toNat ^^^ m:=by
  rw[BitVec.toNat_xor];have:=b.toNat_lt;show(BitVec.ofInt 8 (b.toNat:Int)).toNat ^^^ (BitVec.ofInt 8 (m:Int)).toNat=_;rw[BitVec.ofInt_natCast,BitVec.ofInt_natCast,BitVec.toNat_ofNat,BitVec.toNat_ofNat,Nat.mod_eq_of_lt this,Nat.mod_eq_of_lt hm2]
 have e2:(b ^^^ UInt8.ofNat m).toNat=b.toNat ^^^ m:=by
  rw[UInt8.toNat_xor,UInt8.toNat_ofNat',Nat.mod_eq_of_lt hm2]
 rw[e1,e2];have hx:b.toNat ^^^ m<256:=Nat.xor_lt_two_pow (n:=8) b.toNat_lt hm2;have:IntKind.u8.wrap ((b.toNat ^^^ m:Nat):Int)=((b.toNat ^^^ m:Nat):Int) % 256:=by simp[IntKind.wrap,IntKind.bits,IntKind.signed]
 rw[this];omega
theorem a0A (p:Nat) (N:Nand) (hN:N.Ok) (at_ kind x y z n xx:Int):FP 153 [pp p, .agg #[iI at_,iI kind,iI x,iI y,iI z,iI n,iI xx]] [i9 p N]
  (λv As=>v= .bool (N.fault kind x y z n xx).1/\As=[i9 p (N.fault kind x y z n xx).2]):=by
 have hbd:=hN.bd;refine FE [2,0] Tryz.func153 λX F hX=>?_;refine J.o (α:=NLoc) 1 λY=>?_;refine J.pq (.of [0,4,8,12,16,20,25,28,33,38,40,44]) [] [1,2,3,4,5,6] λ_ _=>?_;refine J.ca hX (by kernel_rfl) (a8v _ _ _ x y z (by omega) (by omega) (by omega)) [] 0 rfl rfl rfl rfl rfl rfl (λ_=>rfl) ?_;refine cpq ⟨_,rfl,⟨rfl,rfl,rfl,rfl,rfl,rfl,trivial⟩,?_⟩;refine J.qd (λ_ h=>?_) λ_ h=>?_
 ·simp only[Bool.false_or,Bool.not_eq_true']at h;refine J.q λ_=>?_;refine J.cl (I3 p N) (Y) [1,2,3,4,5] ?_;refine J.qr [1] λ_=>?_;exact⟨by simp[Nand.fault,h],by simp[Nand.fault,h];rfl⟩
 simp only[Bool.false_or,Bool.not_eq_false']at h;have hr:0<=x/\x<N.dies/\0<=y/\y<N.blocks/\0<=z/\z<N.pages:=by simp[C7]at h;omega
 obtain⟨i,rfl⟩:=Int.eq_ofNat_of_zero_le hr.1;obtain⟨j,rfl⟩:=Int.eq_ofNat_of_zero_le hr.2.2.1;obtain⟨k,rfl⟩:=Int.eq_ofNat_of_zero_le hr.2.2.2.2.1;have hi:i<N.dies:=by omega
 have hj:j<N.blocks:=by omega
 have hlen:=(hN.cells i j hi hj).1;refine J.openAt 5 (i*N.blocks+j) rfl rfl (L4 _ _ _ _ _ (a4h hi hj)) rfl ?_;rw[(H1 hj).1,(H1 hj).2];refine J.o (α:=(Option Nat×Nat)) 7 λc=>?_;refine J.p (.of [0,4,8,13,16,20,25,28,32,37,42,45,48]) [12] [1,2,3,4,5,6,7,8] λ_=>?_;refine J.qp (U7 i j) [] λ_=>?_;refine J.valT hX (pp (Y.bp (i*N.blocks+j))) 8 rfl rfl (λ_ a w he hC=>?_) rfl ?_
 ·refine(l9 (key:=((i:Int),(j:Int),0)) J8 Y4 (z:= .pointer none) (λw=>by kernel_rfl) rfl rfl rfl rfl he rfl rfl (hC rfl _ (f9 (i:=2) rfl))).trans ?_;simp only[M7 hi hj];rfl
 refine J.p (.of [0,4,9,12,16,20,25,28,32,36]) [9] [1,2,3,4,5,6,7,8] λ_=>?_;refine J.qd (λ_ h1=>?_) λ_ h1=>?_
 ·simp only[beq_iff_eq]at h1;subst h1;refine J.p (.of [0,4,8,13,16,21,26]) [] [1,2,4,5,6,7,8] λ_=>?_;refine J.qp (b8N Y.q N.plan i j k) [3] λ_=>?_;refine J.q λ_=>?_;refine J.closeN p N ({N with plan:=b2l N.plan ((i:Int),(j:Int),(k:Int))}) Y i j hj (N.blk i j) _ [1,2,3,4,5,7,8] rfl rfl rfl rfl (C2 _ _ _) rfl ?_;refine J.qr [1] λ_=>?_;rw[b6G h];exact⟨rfl,rfl⟩
 simp only[beq_eq_false_iff_ne,ne_eq]at h1;refine J.qd (λ_ h2=>?_) λ_ h2=>?_
 ·simp only[beq_iff_eq]at h2;subst h2;refine J.q λ_=>?_;refine J.closeN p N (N.setBlk i j {N.blk i j with fails:=true}) Y i j hj ({N.blk i j with fails:=true}) _ [1,2,3,4,5,7,8] rfl rfl rfl rfl (rfl) rfl ?_;refine J.qr [1] λ_=>?_;rw[b6F h];exact⟨rfl,rfl⟩
 simp only[beq_eq_false_iff_ne,ne_eq]at h2;refine J.qd (λ_ h3=>?_) λ_ h3=>?_
 ·simp only[beq_iff_eq]at h3;subst h3;refine J.qd (λ_ h5=>?_) λ_ h5=>?_
  ·simp only[decide_eq_true_eq,Int.ofNat_lt]at h5;refine J.know (λh' s=>j4 (by omega) (s.get (i:=8) rfl)) λhg=>?_;obtain⟨g,hg⟩:=hg;obtain⟨c1,c2⟩:=c;simp only at hg;subst hg;refine J.openOwn 8 rfl rfl (λ_=>rfl) λr q1 q2 q3 q4=>?_;obtain⟨cl,hcl⟩:∃cl,(N.blk i j).cells[k]? =some cl:=⟨_,List.getElem?_eq_getElem h5⟩;refine J.pq (.of [0,4,8,13,16,20,25,28,32,39]) [7,8,9] [1,2,3,4,5,6,7] λ_ _=>?_;refine J.s1 8 (t6 ((N.blk i j).cells.modify k λc=>{c with lost:=true})++r) ?_ ?_ ?_
   ·rw[List.length_append,m6];show 0+(k:Int).toNat*34+32<_;simp only[Int.toNat_natCast];omega
   ·rw[show 0+(k:Int).toNat*34+32=k*34+32 from by simp,List.set_append_left _ _ (by rw[m6];omega)];rw[R1 _ k 32 _ (λc=>{c with lost:=true}) cl hcl (by omega) rfl]
   refine J.closeOwn (e:=268) (size:=34) (n:=(N.blk i j).cells.length) (cap:=c2) (xs:=t6 ((N.blk i j).cells.modify k λc=>{c with lost:=true})) 8 rfl rfl (by rw[m6,List.length_modify]) q2 q3 (by rw[List.length_append,m6,List.length_modify];rw[m6]at q4;exact q4) (by rw[List.take_left' (by rw[m6,List.length_modify])]) rfl ?_;rw[show(N.blk i j).cells.length=((N.blk i j).cells.modify k λc=>{c with lost:=true}).length from by rw[List.length_modify]];refine J.q λ_=>?_;refine J.closeN p N (N.setCell i j k λc=>{c with lost:=true}) Y i j hj ({N.blk i j with cells:=(N.blk i j).cells.modify k λc=>{c with lost:=true}}) (some g,c2) [1,2,3,4,5,7,8] rfl rfl rfl rfl (rfl) rfl ?_;refine J.qr [1] λ_=>?_;rw[b0y h];exact⟨rfl,rfl⟩
  ·simp only[decide_eq_false_iff_not,Int.ofNat_lt,Nat.not_lt]at h5;refine J.q λ_=>?_;refine J.closeN p N (N.setCell i j k λc=>{c with lost:=true}) Y i j hj (N.blk i j) _ [1,2,3,4,5,7,8] rfl rfl rfl rfl ((by simp only[Nand.setCell,Nand.setBlk,Int.toNat_natCast];rw[a7X h5])) rfl ?_;refine J.qr [1] λ_=>?_;rw[b0y h];exact⟨rfl,rfl⟩
 simp only[beq_eq_false_iff_ne,ne_eq]at h3;refine J.qd (λ_ h4=>?_) λ_ h4=>?_
 ·simp only[beq_iff_eq]at h4;subst h4;refine J.pq (.of [0,4,8,13,16,20,25,28,35]) [7,8] [1,2,3,5,6,7,8] λ_ _=>?_;refine J.s1 4 ((N.dead.set i true).map Value.bool) ?_ ?_ ?_
  ·rw[List.length_map,hN.dead];show 0+(i:Int).toNat*1<_;omega
  ·rw[show 0+(i:Int).toNat*1=i from by omega,List.map_set]
  refine J.q λ_=>?_;refine J.closeN p N ({N with dead:=N.dead.set i true}) Y i j hj (N.blk i j) _ [1,2,3,4,5,7,8] rfl rfl rfl rfl (C2 _ _ _) rfl ?_;refine J.qr [1] λ_=>?_;rw[b6E h];exact⟨rfl,rfl⟩
 simp only[beq_eq_false_iff_ne,ne_eq]at h4;refine J.qd (λ_ h6=>?_) λ_ h6=>?_
 ·simp only[beq_iff_eq]at h6;subst h6
  by_cases h5:k<(N.blk i j).cells.length
  ·rw[show decide ((k:Int)<((N.blk i j).cells.length:Int))=true from decide_eq_true (by omega)];refine J.know (λh' s=>j4 (by omega) (s.get (i:=8) rfl)) λhg=>?_;obtain⟨g,hg⟩:=hg;obtain⟨c1,c2⟩:=c;simp only at hg;subst hg;refine J.openOwn 8 rfl rfl (λ_=>rfl) λr q1 q2 q3 q4=>?_;obtain⟨cl,hcl⟩:∃cl,(N.blk i j).cells[k]? =some cl:=⟨_,List.getElem?_eq_getElem h5⟩;refine J.pq (.of [0,5,8,12,16,21,24,28,32,36,40,44,48,52,57,60,64,69,72,76,81,84,88]) [] [1,2,3,4,5,6,7,8] λ_ _=>?_;have hpa:N.pageAt i j k=some cl:=by simp only[Nand.pageAt,Int.toNat_natCast];exact hcl
   have hoff:∀e,e<34->(t6 (N.blk i j).cells++r)[k*34+e]? =cl.vals[e]?:=λe he=>by
    rw[List.getElem?_append_left (by rw[m6];omega)];exact a2P hcl he
   refine J.vT (.bool cl.turned) rfl rfl (λhg a w he hC=>?_) ?_
   ·exact i7 tk rfl rfl he hg rfl rfl (hC rfl _ (f9 (i:=8) rfl)) (by rw[show 0+((k:Int)).toNat*34+33=k*34+33 from by simp];exact hoff 33 (by omega))
   refine J.qd (λ_ h7=>?_) λ_ h7=>?_
   ·refine J.closeOwn (e:=268) (size:=34) (n:=(N.blk i j).cells.length) (cap:=c2) (xs:=t6 (N.blk i j).cells) 8 rfl rfl q1 q2 q3 (by rw[List.length_append];exact q4) (by rw[List.take_left' q1]) rfl ?_;refine J.q λ_=>?_;refine J.closeN p N (N) Y i j hj (N.blk i j) (some g,c2) [1,2,3,4,5,7,8] rfl rfl rfl rfl (C2 _ _ _) rfl ?_;refine J.qr [1] λ_=>?_;rw[a5a h hpa h7];exact⟨rfl,rfl⟩
   refine J.pq (.of [0,4,8,12,16,21,24,28,33,36,40,45,48,52]) [] [1,2,3,4,5,6,7,8] λ_ _=>?_;refine J.vT (.bool cl.lost) rfl rfl (λhg a w he hC=>?_) ?_
   ·exact i7 tk rfl rfl he hg rfl rfl (hC rfl _ (f9 (i:=8) rfl)) (by rw[show 0+((k:Int)).toNat*34+32=k*34+32 from by simp];exact hoff 32 (by omega))
   refine J.qd (λ_ h8=>?_) λ_ h8=>?_
   ·have hn:0<=n/\n<32:=by
     simp only[Bool.or_eq_false_iff,decide_eq_false_iff_not]at h7;omega
    obtain⟨e,rfl⟩:=Int.eq_ofNat_of_zero_le hn.1;have he32:e<32:=by omega
    have hp32:cl.p.length=32:=(hN.cells i j hi hj).2 cl (List.mem_of_getElem? hcl);refine J.pn 14 (.of [0,4,8,13,16,20,25,28,33,36,40,44,52,57,60,68,72,50,64,76,82]) [] [1,2,3,4,5,6,7] λ_ _=>?_;refine J.vT (.int .u8 (IntKind.u8.wrap xx)) rfl rfl (λhg a w he hC=>?_) ?_
    ·exact D4 tk rfl rfl he rfl rfl rfl
    refine J.q λ_=>?_;refine J.val hX (bv (cl.p.getD e 0)) 0 rfl rfl (λhg a w he hs=>?_) rfl ⟨rfl,rfl,rfl,rfl,rfl,rfl,rfl,trivial⟩ ?_
    ·exact i7 tk rfl rfl he hg rfl rfl (hs.get (i:=8) rfl) (by rw[show 0+((k:Int)).toNat*34+0+((e:Int)).toNat*1=k*34+e from by simp,hoff e (by omega)];exact b2y hp32 he32)
    refine J.q λ_=>?_;have hlen':(t6 (N.blk i j).cells++r).length=c2*34:=by rw[List.length_append];exact q4
    have hnl:k*34+34<=(N.blk i j).cells.length*34:=by omega
    refine J.s1 8 (t6 ((N.blk i j).cells.modify k λc=>{c with p:=Nand.xorAt c.p e (UInt8.ofNat (xx % 256).toNat)})++r) ?_ ?_ ?_
    ·rw[List.length_append,m6];show 0+(k:Int).toNat*34+0+(e:Int).toNat*1<_;simp only[Int.toNat_natCast];omega
    ·rw[show 0+(k:Int).toNat*34+0+(e:Int).toNat*1=k*34+e from by simp,List.set_append_left _ _ (by rw[m6];omega)];rw[R1 _ k e _ (λc=>{c with p:=Nand.xorAt c.p e (UInt8.ofNat (xx % 256).toNat)}) cl hcl (by omega) ?_];rw[b2o,a6l hp32,a6l (by simp[Nand.xorAt,hp32]),List.set_append_left _ _ (by simpa[hp32]using he32)];congr 1;exact(List.map_set (f:=bv)).symm
    refine J.pq (.of [0,4,8,13,16,20,25,28,32,39]) [7,8,9] [1,2,3,4,5,6,7] λ_ _=>?_;refine J.s1 8 (t6 ((N.blk i j).cells.modify k λc=>{c with p:=Nand.xorAt c.p e (UInt8.ofNat (xx % 256).toNat),turned:=true})++r) ?_ ?_ ?_
    ·rw[List.length_append,m6,List.length_modify];show 0+(k:Int).toNat*34+33<_;simp only[Int.toNat_natCast];omega
    ·rw[show 0+(k:Int).toNat*34+33=k*34+33 from by simp,List.set_append_left _ _ (by rw[m6,List.length_modify];omega)];rw[R1 _ k 33 _ (λc=>{c with turned:=true}) _ (by rw[List.getElem?_modify_eq,hcl];rfl) (by omega) rfl,List.modify_modify_eq];rfl
    refine J.closeOwn (e:=268) (size:=34) (n:=(N.blk i j).cells.length) (cap:=c2) (xs:=t6 ((N.blk i j).cells.modify k λc=>{c with p:=Nand.xorAt c.p e (UInt8.ofNat (xx % 256).toNat),turned:=true})) 8 rfl rfl (by rw[m6,List.length_modify]) q2 q3 (by rw[List.length_append,m6,List.length_modify];rw[m6]at q4;exact q4) (by rw[List.take_left' (by rw[m6,List.length_modify])]) rfl ?_;rw[show(N.blk i j).cells.length=((N.blk i j).cells.modify k λc=>{c with p:=Nand.xorAt c.p e (UInt8.ofNat (xx % 256).toNat),turned:=true}).length from by rw[List.length_modify]];refine J.q λ_=>?_;refine J.closeN p N (N.setCell i j k λc=>{c with p:=Nand.xorAt c.p e (UInt8.ofNat (xx % 256).toNat),turned:=true}) Y i j hj ({N.blk i j with cells:=(N.blk i j).cells.modify k λc=>{c with p:=Nand.xorAt c.p e (UInt8.ofNat (xx % 256).toNat),turned:=true}}) (some g,c2) [1,2,3,4,5,7,8] rfl rfl rfl rfl (rfl) rfl ?_;refine J.qr [1] λ_=>?_;rw[a3k h,hpa];simp only[Bool.or_eq_false_iff,Bool.true_and]at h7;simp only[Bool.true_and,Bool.not_eq_true']at h8;rw[if_neg (by omega)];simp only[h7.2,h8,Bool.false_eq_true,if_false];exact⟨trivial,rfl⟩
   ·refine J.closeOwn (e:=268) (size:=34) (n:=(N.blk i j).cells.length) (cap:=c2) (xs:=t6 (N.blk i j).cells) 8 rfl rfl q1 q2 q3 (by rw[List.length_append];exact q4) (by rw[List.take_left' q1]) rfl ?_;refine J.q λ_=>?_;refine J.closeN p N (N) Y i j hj (N.blk i j) (some g,c2) [1,2,3,4,5,7,8] rfl rfl rfl rfl (C2 _ _ _) rfl ?_;refine J.qr [1] λ_=>?_;rw[a3k h,hpa];simp only[Bool.or_eq_false_iff,Bool.true_and,decide_eq_false_iff_not]at h7;simp only[Bool.true_and,Bool.not_eq_false']at h8;rw[if_neg (by omega)];simp only[h7.2,h8,Bool.false_eq_true,if_false,if_true];exact⟨trivial,rfl⟩
  ·rw[show decide ((k:Int)<((N.blk i j).cells.length:Int))=false from decide_eq_false (by omega)];refine J.pn 18 (.of [0,5,8,12,16,21,24,28,32,36,40,44,48,52,57,60,64,69,72,76,81,84,88]) [] [1,2,3,4,5,6,7,8] λ_ _=>?_;have hpa:N.pageAt i j k=none:=by simp only[Nand.pageAt,Int.toNat_natCast];exact List.getElem?_eq_none (by omega)
   refine J.vT (pp 0) rfl rfl (λhg a w he hC=>by simp[G.on]at hg) ?_;refine J.q λ_=>?_;refine J.vT (.bool false) rfl rfl (λhg a w he hC=>by simp[G.on]at hg) ?_;refine J.qd (λ_ h7=>?_) λ_ h7=>?_
   ·refine J.q λ_=>?_;refine J.closeN p N (N) Y i j hj (N.blk i j) _ [1,2,3,4,5,7,8] rfl rfl rfl rfl (C2 _ _ _) rfl ?_;refine J.qr [1] λ_=>?_;rw[a2L h hpa (b:=true) (by simpa using h7)];exact⟨rfl,rfl⟩
   refine J.pn 9 (.of [0,4,8,12,16,21,24,28,33,36,40,45,48,52]) [] [1,2,3,4,5,6,7,8] λ_ _=>?_;refine J.vT (pp 0) rfl rfl (λhg a w he hC=>by simp[G.on]at hg) ?_;refine J.q λ_=>?_;refine J.vT (.bool false) rfl rfl (λhg a w he hC=>by simp[G.on]at hg) ?_;refine J.qF λ_=>?_;refine J.q λ_=>?_;refine J.closeN p N (N) Y i j hj (N.blk i j) _ [1,2,3,4,5,7,8] rfl rfl rfl rfl (C2 _ _ _) rfl ?_;refine J.qr [1] λ_=>?_;rw[a2L h hpa (b:=false) (by simpa using h7)];exact⟨rfl,rfl⟩
 simp only[beq_eq_false_iff_ne,ne_eq]at h6;refine J.q λ_=>?_;refine J.closeN p N (N) Y i j hj (N.blk i j) _ [1,2,3,4,5,7,8] rfl rfl rfl rfl (C2 _ _ _) rfl ?_;refine J.qr [1] λ_=>?_;rw[b4M h1 h2 h3 h4 h6];exact⟨rfl,rfl⟩
def B0:NBlock:=⟨[],0,false,false⟩
def b8u (d b p:Nat) (x:Nat×Nat×Nat×Nat):List Value:=
 [iI d,iI b,iI p, .map (some x.2.1),pp x.2.2.1, .slice (some ⟨x.2.2.2,0,none⟩) d d, .bool false,iI 0,iI 0, .bool false,iI 0,iI 0]
theorem a6f {k:A3} {v:Value}:∀{l:List (A3×Value)},(∀x∈l,x.1≠k)->O1 l k v=l++[(k,v)]
 | [],_=>rfl
 | x::l,h=>by
  have h1:=h x (by simp);simp only[O1,if_neg (Ne.symm h1),a6f (l:=l) (λy hy=>h y (by simp[hy])),List.cons_append]
def upd (bp:Nat->Nat) (n v:Nat):Nat->Nat:=λk=>if k=n then v else bp k
theorem b2f (nb n:Nat) (bp:Nat->Nat) (v:Nat):a0t nb (n+1) (upd bp n v)=a0t nb n bp++[((((n/nb:Nat):Int),((n % nb:Nat):Int),0),pp v)]:=by
 unfold a0t;rw[List.range_succ,List.map_append];congr 1
 ·apply List.map_congr_left;intro k hk;have:k≠n:=by have:=List.mem_range.1 hk;omega
  simp[upd,this]
 ·simp[upd]
theorem a4I (nb n:Nat) (bp:Nat->Nat) (v:Nat):J0 nb (n+1) (upd bp n v) (λ_ _=>B0)=J0 nb n bp (λ_ _=>B0)++[a5d v B0]:=by
 unfold J0;rw[List.range_succ,List.map_append];congr 1
 ·apply List.map_congr_left;intro k hk;have:k≠n:=by have:=List.mem_range.1 hk;omega
  simp[upd,this]
 ·simp[upd]
theorem a6e {nb j:Nat} (i:Nat) (hj:j<nb) (bp:Nat->Nat) (v:Nat):O1 (a0t nb (i*nb+j) bp) ((i:Int),(j:Int),0) (pp v)=a0t nb (i*nb+j+1) (upd bp (i*nb+j) v):=by
 rw[b2f,(H1 hj).1,(H1 hj).2,a6f];intro x hx;simp only[a0t,List.mem_map,List.mem_range]at hx;obtain⟨k,hk,rfl⟩:=hx;intro e;simp only[Prod.mk.injEq,Int.natCast_inj,and_true]at e;have h1:=Nat.div_add_mod k nb;rw[e.1,e.2,Nat.mul_comm]at h1;omega
theorem a8K {BL:List Atom} {v:Nat} {h:Hl} (s:Sep [.hp (HP.of BL), .pt v 111 [.slice none 0 0,iI 0, .bool false, .bool false]] h):Sep [.hp (HP.of (BL++[a5d v B0]))] h:=by
 have s1:Sep [.hp (HP.of BL),a5d v B0] h:=s.turn1 [1] rfl (As:=[a5d v B0]) (λh' s'=>Sep.one ⟨(none,0),by
  refine⟨λ_=>0,λi A hA=>?_⟩
  match i,hA with
  | 0,hA=>simp at hA;subst hA;exact Atom.up (A:= .pt v 111 [.slice none 0 0,iI 0, .bool false, .bool false]) (λb o hb=>res_some.2 ⟨rfl,hb⟩) (s'.get (i:=0) rfl)
  | 1,hA=>simp at hA;subst hA;exact⟨rfl,rfl,rfl⟩
  | k+2,hA=>simp at hA⟩)
 exact Sep.hpOf.2 s1.flat
theorem a4b (d b p:Nat) (hg:y6 d b p=true):FP 29 [.agg #[iI d,iI b,iI p]] [] (λv As=>∃q,v=pp q/\As=[i9 q (Nand.new d b p)]):=by
 have hbd:(3<=d/\d<=6)/\(8<=b/\b<=16)/\(2<=p/\p<=8):=by simp[y6]at hg;omega
 refine FE [0] Tryz.func29 λX F hX=>?_;refine J.q λg1=>?_;refine J.cb (a2M d b p) [] ?_;refine cpq ⟨_,rfl,trivial,?_⟩;rw[hg];refine J.qF λ_=>?_;refine J.p (.take false 0 (.take true 3 (.take false 4 (.alt false 1 ((.alt false 2 ((.of [22,24,30,32])) (.alt false 5 ((.of [10,24,30,32])) .non))) (.alt false 2 ((.alt false 1 ((.of [22,24,30,32])) (.alt false 5 ((.of [6,24,30,32])) .non))) (.alt false 5 ((.alt false 1 ((.of [10,24,30,32])) (.alt false 2 ((.of [6,24,30,32])) .non))) .non)))))) [8] [1] λ_=>?_;refine J.join (α:=Nat×Nat×Nat×Nat) (λx=>[⟨3,pp x.1,3, .tt⟩,⟨1,pp (g1 0),2, .tt⟩]) (λx=>[.hp F, .pt (g1 0) 24 [iI d,iI b,iI p], .pt x.1 107 (b8u d b p x), .ob x.2.1 (.map #[] 0),O4 x.2.2.1 [], .pt x.2.2.2 4 (List.replicate d (.bool false))]) (λhj=>?_) (λx=>?_)
 ·refine J.qn 3 λ_=>?_;refine J.alts ?_ (J.alts ?_ ?_)
  ·skip
   refine J.qn 1 λmm=>?_;refine J.alts ?_ ?_
   ·skip
    refine J.qc (a7J) [] λ_=>?_;rintro v As ⟨q,rfl,rfl⟩;refine⟨_,rfl,⟨rfl,trivial⟩,?_⟩;refine J.makeSlice hX tk 5 rfl rfl rfl rfl rfl rfl rfl rfl rfl rfl ?_ ?_ (λ_=>rfl) (λ_=>rfl) λdd=>⟨⟨rfl,trivial⟩,?_⟩
    ·simp only[maxLen];omega
    ·omega
    refine J.qn 4 λnn=>?_;exact J.goto [0,1,5,2,3,4] (hj (nn 0,mm 0,q,dd)) ⟨rfl,rfl,trivial⟩ rfl rfl
   ·skip
    refine J.makeSlice hX tk 4 rfl rfl rfl rfl rfl rfl rfl rfl rfl rfl ?_ ?_ (λ_=>rfl) (λ_=>rfl) λdd=>⟨⟨rfl,trivial⟩,?_⟩
    ·simp only[maxLen];omega
    ·omega
    refine J.qc (a7J) [] λ_=>?_;rintro v As ⟨q,rfl,rfl⟩;refine⟨_,rfl,⟨rfl,trivial⟩,?_⟩;refine J.qn 4 λnn=>?_;exact J.goto [0,1,5,2,4,3] (hj (nn 0,mm 0,q,dd)) ⟨rfl,rfl,trivial⟩ rfl rfl
  ·skip
   refine J.qc (a7J) [] λ_=>?_;rintro v As ⟨q,rfl,rfl⟩;refine⟨_,rfl,⟨rfl,trivial⟩,?_⟩;refine J.alts ?_ ?_
   ·skip
    refine J.qn 1 λmm=>?_;refine J.makeSlice hX tk 5 rfl rfl rfl rfl rfl rfl rfl rfl rfl rfl ?_ ?_ (λ_=>rfl) (λ_=>rfl) λdd=>⟨⟨rfl,trivial⟩,?_⟩
    ·simp only[maxLen];omega
    ·omega
    refine J.qn 4 λnn=>?_;exact J.goto [0,1,5,3,2,4] (hj (nn 0,mm 0,q,dd)) ⟨rfl,rfl,trivial⟩ rfl rfl
   ·skip
    refine J.makeSlice hX tk 4 rfl rfl rfl rfl rfl rfl rfl rfl rfl rfl ?_ ?_ (λ_=>rfl) (λ_=>rfl) λdd=>⟨⟨rfl,trivial⟩,?_⟩
    ·simp only[maxLen];omega
    ·omega
    refine J.qn 1 λmm=>?_;refine J.qn 4 λnn=>?_;exact J.goto [0,1,5,4,2,3] (hj (nn 0,mm 0,q,dd)) ⟨rfl,rfl,trivial⟩ rfl rfl
  ·skip
   refine J.makeSlice hX tk 3 rfl rfl rfl rfl rfl rfl rfl rfl rfl rfl ?_ ?_ (λ_=>rfl) (λ_=>rfl) λdd=>⟨⟨rfl,trivial⟩,?_⟩
   ·simp only[maxLen];omega
   ·omega
   refine J.alts ?_ ?_
   ·skip
    refine J.qn 1 λmm=>?_;refine J.qc (a7J) [] λ_=>?_;rintro v As ⟨q,rfl,rfl⟩;refine⟨_,rfl,⟨rfl,trivial⟩,?_⟩;refine J.qn 4 λnn=>?_;exact J.goto [0,1,5,3,4,2] (hj (nn 0,mm 0,q,dd)) ⟨rfl,rfl,trivial⟩ rfl rfl
   ·skip
    refine J.qc (a7J) [] λ_=>?_;rintro v As ⟨q,rfl,rfl⟩;refine⟨_,rfl,⟨rfl,trivial⟩,?_⟩;refine J.qn 1 λmm=>?_;refine J.qn 4 λnn=>?_;exact J.goto [0,1,5,4,3,2] (hj (nn 0,mm 0,q,dd)) ⟨rfl,rfl,trivial⟩ rfl rfl
 obtain⟨q0,r,q,dd⟩:=x;refine J.turn1 [3] rfl (As:=[B3 r a3v (a0t b (0*b) λ_=>0), .hp (HP.of (J0 b (0*b) (λ_=>0) λ_ _=>B0))]) (λh s=>?_) rfl ?_
 ·rw[Nat.zero_mul];refine⟨λ_=>0,λi A hA=>?_⟩
  match i,hA with
  | 0,hA=>simp at hA;subst hA;exact⟨#[],0,res_some.2 ⟨rfl,s.get (i:=0) rfl⟩,rfl,by simp,by simp⟩
  | 1,hA=>simp at hA;subst hA;exact Sep.nil _
  | k+2,hA=>simp at hA
 refine J.q λ_=>?_;refine J.l (α:=(Nat×(Nat->Nat))) (λx=>x.1<=d) (λx=>[si 19 x.1,si 18 d,⟨3,pp q0,3, .tt⟩,⟨1,pp (g1 0),2, .tt⟩]) [3,6] (λx=>[B3 r a3v (a0t b (x.1*b) x.2), .hp (HP.of (J0 b (x.1*b) x.2 λ_ _=>B0))]) (λx=>d-x.1) ((0,λ_=>0)) (Nat.zero_le _) λx hI=>?_;obtain⟨i,bp⟩:=x;dsimp only at hI ⊢;refine J.qd (λ_ h1=>?_) λ_ h1=>?_
 ·simp only[decide_eq_true_eq,Int.ofNat_lt]at h1;refine J.q λ_=>?_;refine J.l (α:=(Nat×(Nat->Nat))) (λy=>y.1<=b) (λy=>[si 24 y.1,si 23 b,si 4 i,si 19 i,si 18 d,⟨3,pp q0,3, .tt⟩,⟨1,pp (g1 0),2, .tt⟩]) [3,6] (λy=>[B3 r a3v (a0t b (i*b+y.1) y.2), .hp (HP.of (J0 b (i*b+y.1) y.2 λ_ _=>B0))]) (λy=>b-y.1) ((0,bp)) (Nat.zero_le _) λy hI=>?_;obtain⟨j,bp'⟩:=y;dsimp only at hI ⊢;refine J.qd (λ_ h2=>?_) λ_ h2=>?_
  ·simp only[decide_eq_true_eq,Int.ofNat_lt]at h2;refine J.pq (.take true 0 (.take true 1 (.take true 2 (.take false 3 (.take true 4 (.take true 5 (.take true 7 (.alt false 6 ((.of [34,39])) (.alt false 8 ((.of [26,39])) .non))))))))) [9] [1,2] λ_ _=>?_;refine J.alts ?_ ?_
   ·refine J.qp (U7 i j) [] λ_=>?_;refine J.q λbb=>?_;refine J.mapUpdate hX J8 Y4 ((i:Int),(j:Int),0) 3 rfl rfl rfl rfl rfl rfl rfl rfl rfl rfl rfl rfl (λ_=>rfl) (by rw[a6e i h2];rfl) ⟨trivial,?_⟩;refine J.turn1 [6,7] rfl (As:=[.hp (HP.of (J0 b (i*b+j+1) (upd bp' (i*b+j) (bb 0)) λ_ _=>B0))]) (λh s=>by rw[a4I];exact a8K s) rfl ?_;refine J.q λ_=>?_;refine J.n ((j+1,upd bp' (i*b+j) (bb 0))) (by dsimp only;omega) (by dsimp only;omega) [0,1,2,3,4,5,6]
   ·refine J.q λbb=>?_;refine J.cb (U7 i j) [] ?_;refine cpq ⟨_,rfl,⟨rfl,rfl,trivial⟩,?_⟩;refine J.mapUpdate hX J8 Y4 ((i:Int),(j:Int),0) 3 rfl rfl rfl rfl rfl rfl rfl rfl rfl rfl rfl rfl (λ_=>rfl) (by rw[a6e i h2];rfl) ⟨trivial,?_⟩;refine J.turn1 [6,7] rfl (As:=[.hp (HP.of (J0 b (i*b+j+1) (upd bp' (i*b+j) (bb 0)) λ_ _=>B0))]) (λh s=>by rw[a4I];exact a8K s) rfl ?_;refine J.q λ_=>?_;refine J.n ((j+1,upd bp' (i*b+j) (bb 0))) (by dsimp only;omega) (by dsimp only;omega) [0,1,2,3,4,5,6]
  ·simp only[decide_eq_false_iff_not,Int.ofNat_lt]at h2;obtain rfl:j=b:=by omega
   rw[show i*j+j=(i+1)*j from(Nat.succ_mul i j).symm];refine J.q λ_=>?_;refine J.n ((i+1,bp')) (by dsimp only;omega) (by dsimp only;omega) [0,1,2,3,4,5,6]
 ·simp only[decide_eq_false_iff_not,Int.ofNat_lt]at h1;obtain rfl:i=d:=by omega
  refine J.close (f:=I3 q0 (Nand.new i b p)) ⟨r,q,dd,bp⟩ [2,3,4,5,6] rfl (by simp only[I3,Nand.new,List.map_replicate];rfl) rfl ?_;refine J.qr [2] λ_=>?_;exact⟨q0,rfl,rfl⟩
def C1 (x y:Int):Int:=if x<y then-1 else if x>y then 1 else 0
theorem a7l (x:Int):FP 210 [iI x] [] (λv As=>v= .bool false/\As=[]):=by
 refine FE [] Tryz.func210 λX F hX=>?_;refine J.qr [] λ_=>?_;exact⟨by simp,rfl⟩
theorem K9 (x y:Int):FP 151 [iI x,iI y] [] (λv As=>v=iI (C1 x y)/\As=[]):=by
 refine FE [] Tryz.func151 λX F hX=>?_;refine J.qp (a7l x) [] λ_=>?_;refine J.qp (a7l y) [] λ_=>?_;refine J.qF λ_=>?_;refine J.qF λ_=>?_;refine J.qd (λ_ h1=>?_) λ_ h1=>?_
 ·refine J.qr [] λ_=>?_;simp only[decide_eq_true_eq]at h1;exact⟨by simp[C1,h1],rfl⟩
 simp only[decide_eq_false_iff_not]at h1;refine J.qd (λ_ h2=>?_) λ_ h2=>?_
 ·refine J.qr [] λ_=>?_;simp only[decide_eq_true_eq]at h2;exact⟨by rw[C1,if_neg h1,if_pos h2],rfl⟩
 refine J.qr [] λ_=>?_;simp only[decide_eq_false_iff_not]at h2;exact⟨by rw[C1,if_neg h1,if_neg h2],rfl⟩
def orI (l:List Int):Int:=match l with
 | []=>0
 | x::r=>if x≠0 then x else orI r
theorem b9s (b:Nat) (x y z:Int):FP 190 [.slice (some ⟨b,0,none⟩) 3 3] [.pt b 3 [iI x,iI y,iI z]] (λv As=>v=iI (orI [x,y,z])/\As=[.pt b 3 [iI x,iI y,iI z]]):=by
 refine FE [2] Tryz.func190 λX F hX=>?_;refine J.q λ_=>?_;refine J.l (α:=Nat) (λk=>k<=3/\orI ([x,y,z].drop k)=orI [x,y,z]) (λk=>[si 8 k,si 7 3,⟨6, .slice (some ⟨b,0,none⟩) 3 3,2, .tt⟩,si 3 0]) [] (λk=>[]) (λk=>3-k) (0) (⟨by omega,rfl⟩) λk hI=>?_;refine J.qd (λ_ h1=>?_) λ_ h1=>?_
 ·simp only[decide_eq_true_eq]at h1;obtain⟨v,hv⟩:∃v,([x,y,z]:List Int)[k]? =some v:=⟨_,List.getElem?_eq_getElem (by simp;omega)⟩;have hd:([x,y,z]:List Int).drop k=v::([x,y,z]:List Int).drop (k+1):=by
   obtain⟨h2,h3⟩:=List.getElem?_eq_some_iff.1 hv;rw[List.drop_eq_getElem_cons h2,h3]
  refine J.q λ_=>?_;refine J.v (iI v) rfl rfl (λhg a w he hs=>?_) ?_
  ·exact i7 tk rfl rfl he rfl rfl rfl (hs.get (i:=1) rfl) (by
    rw[show 0+(k:Int).toNat*1=k from by omega,show([iI x,iI y,iI z]:List Value)=([x,y,z]:List Int).map (.int .i64)from rfl,List.getElem?_map,hv];rfl)
  refine J.qd (λ_ h2=>?_) λ_ h2=>?_
  ·simp only[bne_iff_ne,ne_eq]at h2;refine J.qr [1] λ_=>?_;refine⟨?_,rfl⟩;rw[<- hI.2,hd];simp[orI,h2]
  ·simp only[bne_eq_false_iff_eq]at h2;refine J.q λ_=>?_;refine J.nx (k+1) (⟨by omega,by rw[<- hI.2,hd,orI,if_neg (by simp[h2])]⟩) (by omega) (λ_ s=>s)
 ·simp only[decide_eq_false_iff_not]at h1;refine J.qr [1] λ_=>?_;refine⟨?_,rfl⟩;rw[<- hI.2,List.drop_of_length_le (by simp;omega)];rfl
abbrev O2 (x:A3):Value:= .agg #[iI x.1,iI x.2.1,iI x.2.2]
def a6H (x y:A3):Int:=orI [C1 x.1 y.1,C1 x.2.1 y.2.1,C1 x.2.2 y.2.2]
theorem b0b (x y:A3):FP 284 [O2 x,O2 y] [] (λv As=>v=iI (a6H x y)/\As=[]):=by
 refine FE [0,0] Tryz.func284 λX F hX=>?_;refine J.p (.of [0,5,8,13,20,25,28,33,40,45,48,53,18,38,58,62,66,68]) [17] [1,2] λ_=>?_;refine J.qp (K9 x.1 y.1) [] λ_=>?_;refine J.qp (K9 x.2.1 y.2.1) [] λ_=>?_;refine J.qp (K9 x.2.2 y.2.2) [] λ_=>?_;refine J.q λbb=>?_;refine J.cb (b9s (bb 0) (C1 x.1 y.1) (C1 x.2.1 y.2.1) (C1 x.2.2 y.2.2)) [3] ?_;refine cpq ⟨_,rfl,⟨rfl,rfl,trivial⟩,?_⟩;exact J.qx []
def d3:A3:=(0,0,0)
def j7 (l:List A3):List Value:=l.flatMap λx=>[iI x.1,iI x.2.1,iI x.2.2]
theorem u0 (l:List A3):(j7 l).length=l.length*3:=by
 induction l with
 | nil=>rfl
 | cons x l ih=>simp only[j7,List.flatMap_cons,List.length_append,List.length_cons]at ih ⊢;rw[ih];simp;omega
theorem E6:∀(l:List A3) (r:List Value) (k:Nat) (x:A3),l[k]? =some x->((j7 l++r).drop (k*3)).take 3=[iI x.1,iI x.2.1,iI x.2.2]
 | [],_,_,_,h=>by simp at h
 | y::l,r,0,x,h=>by simp at h;subst h;simp[j7]
 | y::l,r,k+1,x,h=>by
  have:=E6 l r k x (by simpa using h);rw[show(k+1)*3=3+k*3 from by omega,<- List.drop_drop];simpa[j7]using this
theorem K8:∀(l:List A3) (r:List Value) (k:Nat) (x:A3),k<l.length->(j7 l++r).take (k*3)++[iI x.1,iI x.2.1,iI x.2.2]++(j7 l++r).drop (k*3+3)=j7 (l.set k x)++r
 | [],_,_,_,h=>by simp at h
 | y::l,r,0,x,h=>by simp[j7]
 | y::l,r,k+1,x,h=>by
  have:=K8 l r k x (by simpa using h);rw[show(k+1)*3=3+k*3 from by omega];simp only[j7,List.flatMap_cons,List.set_cons_succ,List.append_assoc,List.cons_append,List.nil_append]at this ⊢;rw[show 3+k*3=k*3+1+1+1 from by omega,show k*3+1+1+1+3=(k*3+3)+1+1+1 from by omega];simp only[List.take_succ_cons,List.drop_succ_cons,List.cons_append,this]
def swp (l:List A3) (j:Nat):List A3:=(l.set j (l.getD (j-1) d3)).set (j-1) (l.getD j d3)
def a8W (f:A3->A3->Int):Nat->List A3->List A3
 | 0,l=>l
 | j+1,l=>if f (l.getD (j+1) d3) (l.getD j d3)<0 then a8W f j (swp l (j+1))else l
def K4 (f:A3->A3->Int) (l:List A3):Nat->List A3
 | 0=>l
 | k+1=>a8W f (k+1) (K4 f l k)
def V5 (f:A3->A3->Int) (l:List A3):List A3:=K4 f l (l.length-1)
theorem a3d (l:List A3) (j:Nat):(swp l j).length=l.length:=by simp[swp]
theorem b2Q (l:List A3) (j:Nat) (h:j+1<l.length):(swp l (j+1)).Perm l:=by
 induction l generalizing j with
 | nil=>simp at h
 | cons x l ih=>
  cases j with
  | zero=>
   cases l with
   | nil=>simp at h
   | cons y l=>simp only[swp,List.set_cons_succ,List.set_cons_zero,Nat.add_sub_cancel,Nat.zero_add,List.getD_cons_zero,List.getD_cons_succ];exact List.Perm.swap _ _ _
  | succ j=>
   have:=ih j (by simpa using h);simp only[swp,Nat.add_sub_cancel,List.set_cons_succ,List.getD_cons_succ]at this ⊢;exact this.cons x
theorem a1T (f:A3->A3->Int):∀(j:Nat) (l:List A3),j<l.length->(a8W f j l).Perm l
 | 0,l,_=>List.Perm.refl _
 | j+1,l,h=>by
  unfold a8W;split
  ·exact(a1T f j _ (by rw[a3d];omega)).trans (b2Q l j h)
  ·exact List.Perm.refl _
theorem a2E (f:A3->A3->Int) (l:List A3):∀k,k<l.length->(K4 f l k).Perm l/\(K4 f l k).length=l.length
 | 0,_=>⟨List.Perm.refl _,rfl⟩
 | k+1,h=>by
  obtain⟨h1,h2⟩:=a2E f l k (by omega);exact⟨(a1T f (k+1) _ (by omega)).trans h1,by rw[K4,(a1T f (k+1) _ (by omega)).length_eq,h2]⟩
theorem I1 (f:A3->A3->Int) (l:List A3):(V5 f l).Perm l:=by
 cases l with
 | nil=>exact List.Perm.refl _
 | cons x l=>exact(a2E f (x::l) _ (by simp)).1
theorem a7G (f:A3->A3->Int):∀(j:Nat) (l:List A3),(a8W f j l).length=l.length
  | 0,l=>rfl
  | j + 1, l => by unfold a8W; split
                   · rw[a7G f j,a3d]
                   · rfl
theorem a4p (f:A3->A3->Int) (l:List A3):∀k,(K4 f l k).length=l.length
 | 0=>rfl
 | k+1=>by rw[K4,a7G,a4p f l k]
def fnV (c:Nat):Value:= .func (.func c) #[] #[]
theorem b7T (c:Nat) (f:A3->A3->Int) (hcal:n6 Tryz.prog c=true) (hf:∀x y,Fn Tryz.prog c [O2 x,O2 y] [] (Ps (iI (f x y)) []))
  (g n cap:Nat) (l:List A3) (hl:l.length=n) (hn:n<=4611686018427387904) (r:List Value):FP 292 [.slice (some ⟨g,0,none⟩) n cap,iI 0,iI n,fnV c] [.pt g 52 (j7 l++r)]
  (Ps (.tuple #[]) [.pt g 52 (j7 (V5 f l)++r)]):=by
 refine FE [2,0,0,0] Tryz.func292 λX F hX=>?_;refine J.q λ_=>?_;refine J.l (α:=Nat) (λi=>1<=i/\i<=max 1 n) (λi=>[si 8 i,⟨0, .slice (some ⟨g,0,none⟩) n cap,2, .tt⟩,si 1 0,si 2 n,⟨3,fnV c,0, .tt⟩]) [1] (λi=>[.pt g 52 (j7 (K4 f l (i-1))++r)]) (λi=>n-i) (1) (⟨by omega,by omega⟩) λi hI=>?_;refine J.qd (λ_ h1=>?_) λ_ h1=>?_
 ·simp only[decide_eq_true_eq,Int.ofNat_lt]at h1;refine J.q λ_=>?_;refine J.l (α:=(Nat×List A3)) (λy=>y.1<=i/\y.2.length=n/\a8W f y.1 y.2=K4 f l i) (λy=>[si 9 y.1,si 8 i,⟨0, .slice (some ⟨g,0,none⟩) n cap,2, .tt⟩,si 1 0,si 2 n,⟨3,fnV c,0, .tt⟩]) [1] (λy=>[.pt g 52 (j7 y.2++r)]) (λy=>y.1) ((i,K4 f l (i-1))) (⟨Nat.le_refl _,by rw[a4p,hl],by obtain⟨k,rfl⟩:∃k,i=k+1:=⟨i-1,by omega⟩;rfl⟩) λy hI=>?_;obtain⟨j,m⟩:=y;dsimp only at hI ⊢;have hget:∀e,e<n->m[e]? =some (m.getD e d3):=λe he=>by rw[List.getD_eq_getElem?_getD,List.getElem?_eq_getElem (by omega),Option.getD_some]
  rcases Nat.eq_zero_or_pos j with h2 | h2
  ·subst h2;refine J.pn 4 (.of [0,4,8,12,16,20,24,28,33,36,40,44,48,53,58,60,64]) [] [1] λ_ _=>?_;rw[show decide (((0:Nat):Int)>0)=false from rfl];refine J.q λ_=>?_;refine J.vT (O2 d3) rfl rfl (λhg a w he hC=>by simp[G.on]at hg) ?_;refine J.q λ_=>?_;refine J.vT (O2 d3) rfl rfl (λhg a w he hC=>by simp[G.on]at hg) ?_;refine J.q λ_=>?_;refine J.gcase hX rfl rfl rfl ⟨rfl,trivial⟩ (λh=>by cases h) (λ_=>?_);refine J.vT (.bool false) rfl rfl (λhg a w he hC=>by simp[G.on]at hg) ?_;refine J.qF λ_=>?_;have hm:m=K4 f l (i+1-1):=hI.2.2;rw[hm];refine J.q λ_=>?_;refine J.n (i+1) (⟨by omega,by omega⟩) (by omega) [0,1]
  ·obtain⟨j,rfl⟩:∃k,j=k+1:=⟨j-1,by omega⟩;refine J.pn 4 (.of [0,4,8,12,16,20,24,28,33,36,40,44,48,53,58,60,64]) [] [1] λ_ _=>?_;rw[show decide (((j+1:Nat):Int)>0)=true from decide_eq_true (by omega)];refine J.q λ_=>?_;refine J.vT (O2 (m.getD (j+1) d3)) rfl rfl (λhg a w he hC=>?_) ?_
   ·exact j9 tk rfl rfl he hg rfl rfl (hC rfl _ (f9 (i:=1) rfl)) (by rw[show 0+((j+1:Nat):Int).toNat*3=(j+1)*3 from by omega];exact E6 m r _ _ (hget _ (by omega))) rfl
   refine J.q λ_=>?_;refine J.vT (O2 (m.getD j d3)) rfl rfl (λhg a w he hC=>?_) ?_
   ·exact j9 tk rfl rfl he hg rfl rfl (hC rfl _ (f9 (i:=1) rfl)) (by rw[show 0+(((j+1:Nat):Int)-1).toNat*3=j*3 from by omega];exact E6 m r _ _ (hget _ (by omega))) rfl
   refine J.q λ_=>?_;refine J.call hX hcal (hf (m.getD (j+1) d3) (m.getD j d3)) [] 0 rfl rfl rfl rfl (by(repeat' (first | exact Conj.nil | refine Conj.cons ?_ ?_ | omega | exact hq0 | (simpa using hq0) | (exactλh=>h) | exact rfl | (intro hq;have hq0:=hq;try simp only[Bool.and_eq_true,Bool.or_eq_true,decide_eq_true_eq,Bool.not_eq_true',decide_eq_false_iff_not]at hq) | (simp;done) | (simp;omega) | decide))) rfl rfl (λ_=>rfl) ?_;refine cpq ⟨_,rfl,⟨rfl,trivial⟩,?_⟩;refine J.qd (λ_ h3=>?_) λ_ h3=>?_
   ·simp only[Bool.true_and,decide_eq_true_eq]at h3;refine J.pq (.take true 0 (.take true 1 (.take true 2 (.take true 3 (.take true 4 (.take true 5 (.take true 6 (.take true 7 (.take true 8 (.take true 10 (.take true 11 (.take true 12 (.alt false 9 ((.of [54,56,62,64,71])) (.alt false 13 ((.of [38,56,62,64,71])) .non)))))))))))))) [16,17] [] λ_ _=>?_;refine J.alts ?_ ?_
    ·refine J.v (O2 (m.getD j d3)) rfl rfl (λhg a w he hs=>?_) ?_
     ·exact j9 tk rfl rfl he hg rfl rfl (hs.get (i:=1) rfl) (by rw[show 0+(((j+1:Nat):Int)-1).toNat*3=j*3 from by omega];exact E6 m r _ _ (hget _ (by omega))) rfl
     refine J.q λ_=>?_;refine J.v (O2 (m.getD (j+1) d3)) rfl rfl (λhg a w he hs=>?_) ?_
     ·exact j9 tk rfl rfl he hg rfl rfl (hs.get (i:=1) rfl) (by rw[show 0+((j+1:Nat):Int).toNat*3=(j+1)*3 from by omega];exact E6 m r _ _ (hget _ (by omega))) rfl
     refine J.q λ_=>?_;refine J.storeN hX tk 1 rfl rfl rfl rfl rfl rfl rfl rfl rfl rfl rfl rfl rfl ?_ (j7 (m.set (j+1) (m.getD j d3))++r) ?_ rfl (λ_=>rfl) ⟨trivial,?_⟩
     ·rw[List.length_append,u0];show 0+((j+1:Nat):Int).toNat*3+3<=_;omega
     ·rw[show 0+((j+1:Nat):Int).toNat*3=(j+1)*3 from by omega];exact K8 m r (j+1) _ (by omega)
     refine J.q λ_=>?_;refine J.storeN hX tk 1 rfl rfl rfl rfl rfl rfl rfl rfl rfl rfl rfl rfl rfl ?_ (j7 (swp m (j+1))++r) ?_ rfl (λ_=>rfl) ⟨trivial,?_⟩
     ·rw[List.length_append,u0,List.length_set];show 0+(((j+1:Nat):Int)-1).toNat*3+3<=_;omega
     ·rw[show 0+(((j+1:Nat):Int)-1).toNat*3=j*3 from by omega];exact K8 _ r j _ (by rw[List.length_set];omega)
     refine J.q λ_=>?_;rw[show((j+1:Nat):Int)-1=(j:Int)from by omega];refine J.q λ_=>?_;refine J.n ((j,swp m (j+1))) (⟨by dsimp only;omega,by rw[a3d];exact hI.2.1,by rw[<- hI.2.2];exact(if_pos h3).symm⟩) (by dsimp only;omega) [0,1]
    ·refine J.v (O2 (m.getD (j+1) d3)) rfl rfl (λhg a w he hs=>?_) ?_
     ·exact j9 tk rfl rfl he hg rfl rfl (hs.get (i:=1) rfl) (by rw[show 0+((j+1:Nat):Int).toNat*3=(j+1)*3 from by omega];exact E6 m r _ _ (hget _ (by omega))) rfl
     refine J.q λ_=>?_;refine J.v (O2 (m.getD j d3)) rfl rfl (λhg a w he hs=>?_) ?_
     ·exact j9 tk rfl rfl he hg rfl rfl (hs.get (i:=1) rfl) (by rw[show 0+(((j+1:Nat):Int)-1).toNat*3=j*3 from by omega];exact E6 m r _ _ (hget _ (by omega))) rfl
     refine J.q λ_=>?_;refine J.storeN hX tk 1 rfl rfl rfl rfl rfl rfl rfl rfl rfl rfl rfl rfl rfl ?_ (j7 (m.set (j+1) (m.getD j d3))++r) ?_ rfl (λ_=>rfl) ⟨trivial,?_⟩
     ·rw[List.length_append,u0];show 0+((j+1:Nat):Int).toNat*3+3<=_;omega
     ·rw[show 0+((j+1:Nat):Int).toNat*3=(j+1)*3 from by omega];exact K8 m r (j+1) _ (by omega)
     refine J.q λ_=>?_;refine J.storeN hX tk 1 rfl rfl rfl rfl rfl rfl rfl rfl rfl rfl rfl rfl rfl ?_ (j7 (swp m (j+1))++r) ?_ rfl (λ_=>rfl) ⟨trivial,?_⟩
     ·rw[List.length_append,u0,List.length_set];show 0+(((j+1:Nat):Int)-1).toNat*3+3<=_;omega
     ·rw[show 0+(((j+1:Nat):Int)-1).toNat*3=j*3 from by omega];exact K8 _ r j _ (by rw[List.length_set];omega)
     refine J.q λ_=>?_;rw[show((j+1:Nat):Int)-1=(j:Int)from by omega];refine J.q λ_=>?_;refine J.n ((j,swp m (j+1))) (⟨by dsimp only;omega,by rw[a3d];exact hI.2.1,by rw[<- hI.2.2];exact(if_pos h3).symm⟩) (by dsimp only;omega) [0,1]
   ·simp only[Bool.true_and,decide_eq_false_iff_not]at h3;have hm:m=K4 f l (i+1-1):=by rw[show i+1-1=i from rfl,<- hI.2.2];exact(if_neg h3).symm
    rw[hm];refine J.q λ_=>?_;refine J.n (i+1) (⟨by omega,by omega⟩) (by omega) [0,1]
 ·simp only[decide_eq_false_iff_not,Int.ofNat_lt]at h1;have hi:K4 f l (i-1)=V5 f l:=by
   rw[V5,hl,show i-1=n-1 from by omega]
  rw[hi];refine J.q λ_=>?_;refine J.f [1] ?_;exact⟨rfl,rfl⟩
def b3S (x:Nat):Nat:=([0,1,2,2,3,3,3,3,4,4,4,4,4]:List Nat).getD x 0
theorem b9j:Tryz.prog.underlying 9=some .string:=by kernel_rfl
theorem a6V {P:Program} {E:Env} {w:World} {n0:Nat} {a:Act} {o:Oper} {ty:TypeId} {s:ByteArray} {y:Operand} {k tg:Nat} {g:G} {ik:IntKind} {i:Int} {b:UInt8} (hop:o.op= .index ty (.const (.string s)) y) (hy:ev E y=some ⟨k, .int ik i,tg,g⟩) (he:EnvOK n0 E a) (hg:g.on=true) (hd:P.underlying ty=some .string)
  (h0:0<=i) (hb:s.data.toList[i.toNat]? =some b):(execOp a.eval o).run P w= .ok (.value (.int .u8 b.toNat)) w:=by
 have ey:=j3 he hy;simp only[Slot.val,hg]at ey;have h1:=run_index_string (P:=P) (w:=w) ty s ik i hd;have hlt:i.toNat<s.size:=(List.getElem?_eq_some_iff.1 hb).1;have hv:s[i.toNat]'hlt=b:=by
  have:=(List.getElem?_eq_some_iff.1 hb).2;rw[<- this];rfl
 rw[dif_pos ⟨h0,by omega⟩,hv]at h1;simp only[execOp,hop,ey,Sem.run_bind];have e1:a.eval (.const (.string s))= .string s:=rfl;rw[e1,h1];rfl
theorem b6n {x:Nat} (hx:x<=12):b3S x<=4:=by
 obtain rfl | rfl | rfl | rfl | rfl | rfl | rfl | rfl | rfl | rfl | rfl | rfl | rfl:x=0\/x=1\/x=2\/x=3\/x=4\/x=5\/x=6\/x=7\/x=8\/x=9\/x=10\/x=11\/x=12:=by omega
 all_goals decide
theorem b6R (x:Nat) (hx:x<=12):FP 230 [.int .u64 x] [] (λv As=>(∃k:Nat,k<=8/\v=iI k)/\As=[]):=by
 have h4:=b6n hx;refine FE [0] Tryz.func230 λX F hX=>?_;refine J.qd (λ_ h1=>?_) λ_ h1=>?_
 ·simp only[decide_eq_true_eq]at h1;omega
 refine J.qd (λ_ h2=>?_) λ_ h2=>?_
 ·simp only[decide_eq_true_eq]at h2;omega
 refine J.qd (λ_ h3=>?_) λ_ h3=>?_
 ·simp only[decide_eq_true_eq]at h3;omega
 refine J.q λ_=>?_;refine J.v (.int .u8 (UInt8.ofNat (b3S x)).toNat) rfl rfl (λhg a w he hs=>?_) ?_
 ·refine a6V rfl rfl he rfl b9j (by omega) ?_;obtain rfl | rfl | rfl | rfl | rfl | rfl | rfl | rfl | rfl | rfl | rfl | rfl | rfl:x=0\/x=1\/x=2\/x=3\/x=4\/x=5\/x=6\/x=7\/x=8\/x=9\/x=10\/x=11\/x=12:=by omega
  all_goals rfl
 have h5:(UInt8.ofNat (b3S x)).toNat=b3S x:=by rw[UInt8.toNat_ofNat'];omega
 rw[h5];refine J.qr [] λ_=>?_;exact⟨⟨b3S x,by omega,by simp⟩,rfl⟩
theorem b7l (x:Nat) (hx:x<=12):FP 170 [.int .u64 x] [] (λv As=>(∃k:Nat,k<=8/\v=iI k)/\As=[]):=by
 refine FE [0] Tryz.func170 λX F hX=>?_;refine J.qF λ_=>?_;refine J.qc (b6R x hx) [] λ_=>?_;rintro v As ⟨⟨k,hk,rfl⟩,rfl⟩;refine⟨_,rfl,trivial,?_⟩;refine J.qr [] λ_=>?_;exact⟨⟨k,hk,rfl⟩,rfl⟩
theorem b7E (c:Nat) (f:A3->A3->Int) (hcal:n6 Tryz.prog c=true) (hf:∀x y,Fn Tryz.prog c [O2 x,O2 y] [] (Ps (iI (f x y)) []))
  (g n cap:Nat) (l:List A3) (hl:l.length=n) (hn:n<=12) (r:List Value) (k:Nat):FP 289 [.slice (some ⟨g,0,none⟩) n cap,iI 0,iI n,iI k,fnV c] [.pt g 52 (j7 l++r)]
  (Ps (.tuple #[]) [.pt g 52 (j7 (V5 f l)++r)]):=by
 refine FE [2,0,0,0,0] Tryz.func289 λX F hX=>?_;refine J.q λ_=>?_;refine J.l (α:=Nat) (λy=>True) (λy=>[⟨0, .slice (some ⟨g,0,none⟩) n cap,2, .tt⟩,si 1 0,si 2 n,si 3 k,⟨4,fnV c,0, .tt⟩]) [1] (λy=>[.pt g 52 (j7 l++r)]) (λy=>0) (0) (trivial) λy hI=>?_;refine J.qd (λ_ h1=>?_) λ_ h1=>?_
 ·refine J.q λ_=>?_;rw[show(n:Int)-0=n from by omega]at*;refine J.qp (b7T c f hcal hf g n cap l hl (by omega) r) [1] λ_=>?_;exact J.qx [1]
 ·simp only[decide_eq_false_iff_not]at h1;omega
theorem b5X (c:Nat) (d:Value) (k:Nat):FP 289 [d,iI 0,iI 0,iI k,fnV c] [] (Ps (.tuple #[]) []):=by
 have h0:FP 292 [d,iI 0,iI 0,fnV c] [] (Ps (.tuple #[]) []):=by
  refine FE [0,0,0,0] Tryz.func292 λX F hX=>?_;refine J.q λ_=>?_;refine J.l (α:=Nat) (λy=>True) (λy=>[si 8 (0+1),sv 0 d,si 1 0,si 2 0,⟨3,fnV c,0, .tt⟩]) [] (λy=>[]) (λy=>0) (0) (trivial) λy hI=>?_;refine J.qd (λ_ h1=>?_) λ_ h1=>?_
  ·simp at h1
  ·refine J.q λ_=>?_;refine J.f [] ?_;exact⟨rfl,rfl⟩
 refine FE [0,0,0,0,0] Tryz.func289 λX F hX=>?_;refine J.q λ_=>?_;refine J.l (α:=Nat) (λy=>True) (λy=>[sv 0 d,si 1 0,si 2 0,si 3 k,⟨4,fnV c,0, .tt⟩]) [] (λy=>[]) (λy=>0) (0) (trivial) λy hI=>?_;refine J.qd (λ_ h1=>?_) λ_ h1=>?_
 ·refine J.qp (h0) [] λ_=>?_;exact J.qx []
 ·simp at h1
theorem a3G (c:Nat) (f:A3->A3->Int) (hcal:n6 Tryz.prog c=true) (hf:∀x y,Fn Tryz.prog c [O2 x,O2 y] [] (Ps (iI (f x y)) []))
  (a:Option Nat) (n cap:Nat) (l:List A3) (hl:l.length=n) (hn:n<=12):FP 283 [slv a n cap,fnV c] [c9 52 3 a n cap (j7 l)]
  (Ps (.tuple #[]) [c9 52 3 a n cap (j7 (V5 f l))]):=by
 refine FE [0,0] Tryz.func283 λX F hX=>?_;refine J.qc (b7l n hn) [] λ_=>?_;rintro v As ⟨⟨k,hk,rfl⟩,rfl⟩;refine⟨_,rfl,trivial,?_⟩;refine J.q λ_=>?_;cases a with
 | none=>
  refine J.know (λh' s=>(s.get (i:=1) rfl).2.1) λhn0=>?_;subst hn0;have:l=[]:=List.eq_nil_of_length_eq_zero hl;subst this;refine J.qp (b5X c (slv none 0 cap) k) [] λ_=>?_;refine J.q λ_=>?_;refine J.f [1] ?_;exact⟨rfl,rfl⟩
 | some g=>
  refine J.openOwn 1 rfl rfl (λ_=>rfl) λr q1 q2 q3 q4=>?_;refine J.qp (b7E c f hcal hf g n cap l hl hn r k) [1] λ_=>?_;refine J.closeOwn (e:=52) (size:=3) (n:=n) (cap:=cap) (xs:=j7 (V5 f l)) 1 rfl rfl (by rw[u0,(I1 f l).length_eq,hl]) q2 q3 (by rw[List.length_append,u0,(I1 f l).length_eq];rw[u0]at q4;exact q4) (by rw[List.take_left' (by rw[u0,(I1 f l).length_eq,hl])]) rfl ?_;refine J.q λ_=>?_;refine J.f [1] ?_;exact⟨rfl,rfl⟩
end Go.Proofs.YtgkpkpbnonmopaaGreat
