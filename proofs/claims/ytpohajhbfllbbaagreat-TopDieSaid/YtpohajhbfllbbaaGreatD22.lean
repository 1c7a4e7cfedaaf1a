/- Helpers. No condition. -/
import Derived.Test.YtpohajhbfllbbaaGreatD09
import Derived.Test.YtpohajhbfllbbaaGreatD10
import Derived.Test.YtpohajhbfllbbaaGreatD11
import Derived.Test.YtpohajhbfllbbaaGreatD13
import Derived.Test.YtpohajhbfllbbaaGreatD15
import Derived.Test.YtpohajhbfllbbaaGreatD17
import Derived.Test.YtpohajhbfllbbaaGreatD18
import Derived.Test.YtpohajhbfllbbaaGreatD20
import Derived.Test.YtpohajhbfllbbaaGreatD21
import Derived.Test.YtpohajhbfllbbaaGreatRows
import Derived.ProofKit
import Derived.OpenShut
import Derived.ChangeOld
import Derived.Below
import Derived.Deep.Slices
import Derived.Deep.Strs
import Derived.Lib.SmallJoins
set_option maxRecDepth 20000
set_option linter.all false
namespace Go.Proofs.YtpohajhbfllbbaaGreat
open Go Go.RowKit
section
variable {P : Program} {T : Tab} {E : Env} {n : Nat} {ac : Act} {w : World}
end
namespace F9
end F9
namespace T2
end T2
theorem X2 {α:Type} (f:α->List Value) (w:Nat) (hw:∀x,(f x).length=w):∀(l:List α) (k:Nat) (x:α),l[k]? =some x->((l.flatMap f).drop (k*w)).take w=f x
 | [],k,x,h=>by simp at h
 | y::l,0,x,h=>by
  simp at h;subst h;rw[List.flatMap_cons,Nat.zero_mul,List.drop_zero,List.take_left' (hw y)]
 | y::l,k+1,x,h=>by
  have ih:=X2 f w hw l k x (by simpa using h);rw[List.flatMap_cons,show(k+1)*w=(f y).length+k*w from by rw[hw y,Nat.add_mul,Nat.one_mul,Nat.add_comm],<- List.drop_drop,List.drop_left' rfl];exact ih
end Go.Proofs.YtpohajhbfllbbaaGreat
namespace Go.Proofs.YtpohajhbfllbbaaGreat
open Go Go.RowKit
open Go.ChangeShapes Go.WideShapes
def frz (W:World):Atom:= .hp ⟨Hle (hl W),λ_ _ l s=>s.trans l⟩
theorem Fn.whole {P:Program} {f:FuncId} {args:List Value} {r:Value} {W:World} (h:Fn P f args [frz W] (λv As=>v=r/\As=[frz W])):Calls P f args.toArray W λe w'=>e= .returned r/\Below W.heap.size W w':=by
 have hs:Sep (.hp ⟨λ_=>True,λ_ _ _ s=>s⟩::[frz W]) (hl W):=by
  refine⟨λ_=>1,λi A hA=>?_⟩
  match i,hA with
  | 0,hA=>simp at hA;subst hA;trivial
  | 1,hA=>
   simp at hA;subst hA;intro b o hb;exact res_some.2 ⟨rfl,hb⟩
  | i+2,hA=>simp at hA
 refine(h _ W hs).mono λe w' ⟨v,As,e1,⟨e2,e3⟩,s,x⟩=>?_;subst e2 e3;have hle:Hle (hl W) (hl w'):=s.get (i:=1) rfl;refine⟨e1,x.os,x.tape,x.output,x.size,λk hk=>?_⟩;have:W.heap[k]? =some W.heap[k]:=Array.getElem?_eq_getElem hk;rw[this];exact hle k _ this
section
variable {H : Type} {enc : TypeId × Value → H} {w : World} {base : Nat} {spare : Nat → Bool} {held : Bool}
theorem a5q {t:TypeId} (ht:Tryz.prog.underlying t=some (.int .i64)) {fuel:Nat} {cs:List Value} {y:DataW H×List MemPlace} (h:DataW.trod enc Tryz.prog w base spare held fuel t cs=some y):∃n,cs=[.int .i64 n]:=by
 obtain⟨n,rfl,_,_⟩:=DataW.trod_int ht h;exact⟨n,rfl⟩
end
end Go.Proofs.YtpohajhbfllbbaaGreat
namespace Go.Proofs.YtpohajhbfllbbaaGreat
open Go Go.RowKit
open Go.ChangeShapes Go.WideShapes Go.ChangeAt
section
variable {H : Type} {enc : TypeId × Value → H} {w : World} {base : Nat} {spare : Nat → Bool} {held : Bool}
end
end Go.Proofs.YtpohajhbfllbbaaGreat
namespace Go.Proofs.YtpohajhbfllbbaaGreat
open Go Go.RowKit
open Go.ChangeShapes Go.WideShapes Go.ChangeAt
section
variable {H : Type} {enc : TypeId × Value → H} {w : World} {base : Nat} {spare : Nat → Bool} {held : Bool}
end
end Go.Proofs.YtpohajhbfllbbaaGreat
namespace Go.Proofs.YtpohajhbfllbbaaGreat
open Go Go.RowKit
def rdA (a:Option Addr) (size n:Nat) (xs:List Value):Atom:= .hp ⟨rdP a size n xs,λ_ _ l s=>s.up l⟩
theorem a5i (a:Option Addr) (size n:Nat) (xs:List Value):Rd (rdA a size n xs) a size n xs:=λ_ s=>s
def x9:Option (Nat×Nat)->Option Addr
 | some x=>some ⟨x.1,x.2,none⟩
 | none=>none
def S9 (a:Option (Nat×Nat)) (size h c:Nat):Option (Nat×Nat):=match a with
 | some y=>if c=h then some y else some (y.1,y.2+h*size)
 | none=>none
section
variable {P : Program} {T : Tab} {E : Env} {n : Nat} {ac : Act} {w : World}
theorem U5 (hT:TabOK P T) {o:Oper} {t e size:Nat} {x y:Operand} {k1 k2 t1 t2:Nat} {g1 g2:G} {a:Option (Nat×Nat)} {m c h:Nat} {kk:IntKind} {hI:Int} {s1 b1 b2:Nat} {z1 z2:List Value} {td:TD} (hop:o.op= .slice t x (some y) none none) (hx:ev E x=some ⟨k1, .slice (x9 a) m c,t1,g1⟩) (hy:ev E y=some ⟨k2, .int kk hI,t2,g2⟩) (he:EnvOK n E ac) (v1:g1.on=true) (v2:g2.on=true)
  (ht:T.get t=some ⟨.slice e size,s1,z1,b1⟩) (hte:T.get e=some ⟨td,size,z2,b2⟩) (hhI:hI=(h:Int)) (hh:h<=m):
  (execOp ac.eval o).run P w= .ok (.value (.slice (x9 (S9 a size h c)) (m-h) (c-h))) w:=by
 subst hhI;have e1:=i6 he hx;have e2:=i6 he hy;simp only[Slot.val,v1,v2]at e1 e2;obtain⟨d,f,zv,ok⟩:=g7 (hT.get ht);obtain⟨fe,rfl,g1,g2⟩:=ok.slice rfl;cases a with
 | none=>
  simp only[execOp,hop,Option.map_some,Option.map_none,e1,e2,Instr.sliceAt,Instr.slice,Instr.sliceBounds,Instr.sliceBound,asIntOf,Sem.run_bind,Sem.run_pure,Result.andThen_ok,d7 ok.hd,m6 g1,g2];simp[hh,x9,S9]
 | some ad=>
  by_cases hne:c=h
  ·simp only[execOp,hop,Option.map_some,Option.map_none,e1,e2,Instr.sliceAt,Instr.slice,Instr.sliceBounds,Instr.sliceBound,asIntOf,Sem.run_bind,Sem.run_pure,Result.andThen_ok,d7 ok.hd,m6 g1,g2];simp[hh,hne,Addr.add_none,x9,S9]
  ·simp only[execOp,hop,Option.map_some,Option.map_none,e1,e2,Instr.sliceAt,Instr.slice,Instr.sliceBounds,Instr.sliceBound,asIntOf,Sem.run_bind,Sem.run_pure,Result.andThen_ok,d7 ok.hd,m6 g1,g2];simp[hh,hne,Addr.add_none,x9,S9]
end
section
variable {X : Cx} {P : Program} {K : List KI} {E : Env} {L : List Atom} {N : Nat} {F : HP} {Post : Value → List Atom → Prop} {rs : List ResultVar} {T : Tab}
theorem J.appendRO (hX:IsCx X P rs N F Post) (hT:TabOK P T) {ops:Array Oper} {C:Cl} {lt:Bool} {i:Nat} {t:PT} {o:Oper} {x y:Operand} {st e size by_:Nat} {ks tgs:Nat} {gs:G} {a:Option Nat} {n cap:Nat} {xs:List Value} {ky tgy:Nat} {gy:G} {ay:Option (Nat×Nat)} {m cy:Nat} {cs:List Value} {s1 b1:Nat} {z1:List Value} {E':Value->Env} {Ay:Atom} (is iy:Nat) (hc0:ay=none->cy=0)
  (ho:n4 ops.toList i=some o) (hg:gd ops.toList E o=some .tt) (hop:o.op= .call ⟨.builtin .append,#[x,y],#[st,st]⟩)
  (hx:ev E x=some ⟨ks,slv a n cap,tgs,gs⟩) (hvx:gs.on=true) (hy:ev E y=some ⟨ky, .slice (x9 ay) m cy,tgy,gy⟩) (hvy:gy.on=true)
  (hLs:n4 L is=some (c9 e size a n cap xs)) (hLy:n4 L iy=some Ay) (hrd:Rd Ay (x9 ay) size m cs) (hst:T.get st=some ⟨.slice e size,s1,z1,b1⟩) {td:TD} {z:List Value} (he:T.get e=some ⟨td,size,z,by_⟩) (hz:Nat.beq z.length size=true)
  (hsz:Nat.blt 0 size=true) (h1:∀u∈cs,u.oneCell'=true) (h63:n+m<=maxLen) (hbytes:(n+m)*by_<=140737488355328)
  (hd:∀v,B8 N o.dst v 0 .tt E=some (E' v))
  (hJ:∀a' cap',∃L',A4 L is (c9 e size a' (n+m) cap' (xs++cs))=some L'/\Conj (n9 lt C L')/\J X (.reg ops C t::K) (E' (slv a' (n+m) cap')) L'):J X (.reg ops C (.alt lt i t .non)::K) E L:=by
 cases ay with
 | some b=>exact J.appendR hX hT (oo:=b.2) is iy 0 ho hg rfl hop hx hvx hy hvy hLs hLy hrd hst he hz hsz h1 h63 hbytes hd hJ
 | none=>
  obtain rfl:=hc0 rfl;rw[m9]at hLs hLy;refine J.know (p:=cs.length=m*size/\m=0) (λh s=>⟨(hrd _ (s.get hLy)).1,by
   rcases Nat.eq_zero_or_pos m with h0 | h0
   ·exact h0
   ·obtain⟨_,_,_,_,_,e,_⟩:=(hrd _ (s.get hLy)).2 h0;cases e⟩) λhk=>?_
  obtain⟨q1,rfl⟩:=hk;have hcs:cs=[]:=List.eq_nil_of_length_eq_zero (by rw[q1,Nat.zero_mul]);subst hcs;obtain⟨L',e1,e2,e3⟩:=hJ a cap;rw[Nat.add_zero,List.append_nil]at e1;rw[Nat.add_zero]at e3;have hL:L'=L:=by
   rw[y8 e1];apply List.ext_getElem?;intro j;rw[List.getElem?_set];split
   ·rename_i e;subst e;split
    ·exact hLs.symm
    ·rename_i e4;rw[List.getElem?_eq_none (by omega)]
   ·rfl
  subst hL;exact J.val hX (slv a n cap) 0 ho hg (λ_ ac w hen hs=>V8 hT hop hx hvx hy hvy hen hst he (show K9 e size a n cap xs (hl w)from hs.get hLs)) (hd _) e2 e3
end
theorem a2L {e size:Nat} {a:Option Nat} {n cap:Nat} {xs:List Value} {h:Hl} (s:K9 e size a n cap xs h):a=none->cap=0:=λe=>by subst e;exact s.2.2
theorem a5h {a:Option (Nat×Nat)} {size n c h:Nat} {xs:List Value} {hh:Hl} (s:rdP (x9 a) size n xs hh) (hn:h<=n) (hc:n<=c):rdP (x9 (S9 a size h c)) size (n-h) (xs.drop (h*size)) hh:=by
 cases a with
 | none=>
  refine⟨by rw[List.length_drop,s.1,Nat.sub_mul],λh0=>?_⟩;obtain⟨b,o,_,_,_,e,_⟩:=s.2 (by omega);cases e
 | some y=>
  by_cases e:c=h
  ·refine⟨by rw[List.length_drop,s.1,Nat.sub_mul],λh0=>by omega⟩
  ·unfold S9;simp only[if_neg e];exact(a5i (some ⟨y.1,y.2,none⟩) size n xs).drop h hn _ s
theorem a9w {a:Option (Nat×Nat)} {size n:Nat} {xs:List Value} {h:Hl} (s:rdP (x9 a) size n xs h) (hn:0<n):∃y,a=some y:=by
 cases a with
 | none=>obtain⟨_,_,_,_,_,e,_⟩:=s.2 hn;cases e
 | some y=>exact⟨y,rfl⟩
theorem a7c (L:List En):∀k,(d6 L).drop (k*19)=d6 (L.drop k):=by
 induction L with
 | nil=>intro k;simp[d6]
 | cons x l ih=>
  intro k;cases k with
  | zero=>simp
  | succ k=>
   have e1:d6 (x::l)=enL x++d6 l:=by simp[d6]
   rw[e1,List.drop_succ_cons,<- ih k,show(k+1)*19=(enL x).length+k*19 from by show _=19+k*19;omega,<- List.drop_drop,List.drop_left' rfl]
theorem a8m {a:Option (Nat×Nat)} {n c h:Nat} {L:List En} {hh:Hl} (s:rdP (x9 a) 19 n (d6 L) hh) (hl:L.length=n) (hn:h<=n) (hc:n<=c):rdP (x9 (S9 a 19 h c)) 19 (L.drop h).length (d6 (L.drop h)) hh:=by
 have:=a5h s hn hc
 rwa [a7c,<- hl,<- List.length_drop]at this
theorem Z0 {a:Option (Nat×Nat)} {size h c:Nat} (hz:a=none->c=0):S9 a size h c=none->c-h=0:=by
 cases a with
 | none=>intro _;rw[hz rfl];omega
 | some y=>intro e;unfold S9 at e;simp only at e;split at e<;>cases e
theorem a5s (n t l p:Nat) (S:Dv) (k mm:Nat) (A:Atom) (a:Option (Nat×Nat)) (m c:Nat) (es:List En) (hA:Rd A (x9 a) 19 m (d6 es)) (hl:es.length=m) (hm:m<=1000000) (hc:m<=c) (ha:a=none->c=0) (hd:∀s∈es,s.data.length=16) (hO:S.Ok (Dv.costT*m+k) mm) (hmm:mm<=12):
  FP 80 [pp n,pp t,pp l,pp p, .slice (x9 a) m c] (DvP p n t l S++[A])
  (Ps (iI (S.torn es).2) (DvP p n t l (S.torn es).1++[A])):=by
 subst hl;refine FE [3,4,5,2,0] Tryz.func80 λX F hX=>?_;refine J.q λ_=>?_;refine J.l (α:=(Nat×Dv×List En×Option (Nat×Nat)×Nat)) (λz=>z.2.2.1.length<=z.1/\z.2.2.1.length<=z.2.2.2.2/\z.2.2.1.length<=1000000/\(z.2.2.2.1=none->z.2.2.2.2=0)/\Rd A (x9 z.2.2.2.1) 19 z.2.2.1.length (d6 z.2.2.1)/\(∀s∈z.2.2.1,s.data.length=16)/\z.2.1.Ok (Dv.costT*z.1+k) mm/\Dv.tornGo z.1 z.2.1 z.2.2.1=S.torn es) (λz=>[sv 4 (.slice (x9 z.2.2.2.1) z.2.2.1.length z.2.2.2.2),⟨0,pp n,3, .tt⟩,⟨1,pp t,4, .tt⟩,⟨2,pp l,5, .tt⟩,⟨3,pp p,2, .tt⟩]) [1,2,3,4] (λz=>DvP p n t l z.2.1) (λz=>z.1) ((es.length,S,es,a,c)) (⟨Nat.le_refl _,hc,hm,ha,hA,hd,hO,rfl⟩) λz hI=>?_;obtain⟨j,Q,L,a',c'⟩:=z;dsimp only at hI ⊢;obtain⟨hj,hLc,hLm,ha',hAr,hLd,hQ,hw⟩:=hI;refine J.qd (λ_ h1=>?_) λ_ h1=>?_
 ·simp only[decide_eq_true_eq]at h1;have hL0:L.length≠0:=by omega
  obtain⟨j,rfl⟩:∃i,j=i+1:=⟨j-1,by omega⟩;rw[Dv.tornGo,if_neg hL0]at hw;dsimp only at hw;have hQ1:Q.Ok (Dv.costM+(8*Dv.fuel+(Dv.costT*j+k))) mm:=hQ.less (by unfold Dv.costT Dv.cost;rw[Nat.mul_succ];omega);have hr:=Dv.room_keep hQ1;refine J.qp (a0s n t l p Q _ mm hQ1 hmm) [1,2,3,4] λ_=>?_;generalize Q.room=W at hw hr ⊢;obtain⟨P,er⟩:=W;dsimp only at hw hr ⊢;refine J.qd (λ_ h2=>?_) λ_ h2=>?_
  ·simp only[bne_iff_ne,ne_eq]at h2;rw[if_pos h2]at hw;refine J.qr [1,2,3,4,5] λ_=>?_;rw[<- hw];exact⟨rfl,rfl⟩
  simp only[bne_eq_false_iff_eq]at h2;rw[if_neg (by rw[h2];decide)]at hw;have htook:=λh0=>Dv.pen_took hr.1 hLd h0 hL0;have hkeep:=Dv.pen_keep hr.1 hLd;refine J.qp (W7 p n t l P _ mm hr.1 A (x9 a') L.length c' L hAr rfl hLm hLd) [1,2,3,4,5] λ_=>?_;have hpb:0<=(P.pen L).2.1/\(P.pen L).2.1<=7:=a0l _ _ _;generalize P.pen L=W at hw htook hkeep hpb ⊢;obtain⟨P',nn,er2⟩:=W;dsimp only at hw htook hkeep hpb ⊢;refine J.qd (λ_ h3=>?_) λ_ h3=>?_
  ·simp only[bne_iff_ne,ne_eq]at h3;rw[if_pos h3]at hw;refine J.qr [1,2,3,4,5] λ_=>?_;rw[<- hw];exact⟨rfl,rfl⟩
  simp only[bne_eq_false_iff_eq]at h3;rw[if_neg (by rw[h3];decide)]at hw;have htk:=htook h3;obtain⟨v,rfl⟩:=Int.eq_ofNat_of_zero_le hpb.1;have hvL:v<=L.length:=by have:=htk.2.1;omega
  rw[Int.toNat_natCast]at hw;refine J.qn 4 λ_=>?_;refine J.v (.slice (x9 (S9 a' 19 v c')) (L.length-v) (c'-v)) rfl rfl (λhg aa w he hw=>U5 tk rfl rfl rfl he rfl rfl rfl rfl rfl hvL) ?_;rw[show L.length-v=(L.drop v).length from by rw[List.length_drop]];refine J.q λ_=>?_;refine J.n ((j,P',L.drop v,S9 a' 19 v c',c'-v)) (⟨by dsimp only;rw[List.length_drop];omega,by dsimp only;rw[List.length_drop];omega,by dsimp only;rw[List.length_drop];omega,Z0 ha',λh s=>a8m (hAr h s) rfl hvL hLc,λs hs=>hLd s (List.mem_of_mem_drop hs),hkeep.1,hw⟩) (by dsimp only;omega) [0,1,2,3,4,5]
 ·simp only[decide_eq_false_iff_not]at h1;have hL0:L.length=0:=by omega
  have hz:Dv.tornGo j Q L=(Q,0):=by
   cases j with
   | zero=>rfl
   | succ j=>rw[Dv.tornGo,if_pos hL0]
  refine J.qr [1,2,3,4,5] λ_=>?_;rw[<- hw,hz];exact⟨rfl,rfl⟩
theorem a0T (x:Int):Value.int .u8 (IntKind.u8.wrap x)=bv (u8 x):=by
 have h:IntKind.u8.wrap x=x % 256:=by simp[IntKind.wrap,IntKind.bits,IntKind.signed]
 rw[h,bv,u8];congr 1;have h1:0<=x % 256/\x % 256<256:=⟨Int.emod_nonneg _ (by decide),Int.emod_lt_of_pos _ (by decide)⟩;have h2:(UInt8.ofNat (x % 256).toNat).toNat=(x % 256).toNat:=by
  rw[UInt8.toNat_ofNat'];omega
 rw[h2];omega
def e18 (k s:Int):En:=⟨k,s,1,[u8 k,u8 s,u8 (s/256),7,0,0,0,0,0,0,0,0,0,0,0,0]⟩
theorem R5 (k s:Int):FP 141 [iI k,iI s] [] (Ps (enV (e18 k s)) []):=by
 refine FE [0,0] Tryz.func141 λX F hX=>?_;refine J.qn 9 λ_=>?_;refine J.v (bv (u8 k)) rfl rfl (λhg a w he hs=>by rw[<- a0T k];exact C9 tk rfl rfl he rfl rfl rfl) ?_;refine J.qn 1 λ_=>?_;refine J.v (bv (u8 s)) rfl rfl (λhg a w he hs=>by rw[<- a0T s];exact C9 tk rfl rfl he rfl rfl rfl) ?_;refine J.qn 2 λ_=>?_;rw[show s.fdiv (2^min (Int.toNat 8) IntKind.i64.bits)=s/256 from Int.fdiv_eq_ediv_of_nonneg s (by decide:(0:Int)<=256)];refine J.v (bv (u8 (s/256))) rfl rfl (λhg a w he hs=>by rw[<- a0T (s/256)];exact C9 tk rfl rfl he rfl rfl rfl) ?_;exact J.qx []
def Dv.new (d b p:Nat) (lg:Int):Dv:=⟨Nand.new d b p,Tl.new d b p,Tb.new lg,-1,0,0,1⟩
theorem b5H (d b p:Nat) (h:t6 d b p=true) (k:Nat) (hk:k<=1000000000000000):(Nand.new d b p).Gd k 0:=by
 have h0:=Nand.Gd.new d b p h 0 (by omega);refine⟨h0.ok,?_,?_,h0.nodup,h0.few⟩
 ·show(0:Int)+(k:Int)<_;omega
 ·show(0:Int)+(k:Int)<_;omega
theorem Dv.Ok.new (d b p:Nat) (lg:Int) (h:t6 d b p=true) (k:Nat) (hk:k<=1000000000000000):(Dv.new d b p lg).Ok k 0:=
 ⟨b5H d b p h k hk,⟨rfl,rfl,rfl,by show(List.replicate b Sb.zero).length=b;simp⟩,Tb.Ok.new lg,λx hx=>by simp[Dv.new,Tb.new]at hx,by show(0:Int)<=0/\(0:Int)<=8;omega,by show(1:Int)<=1/\(1:Int)<=1099511627776;omega⟩
theorem a9D (d b p:Nat) (h:t6 d b p=true) (lg:Int):FP 140 [.agg #[iI d,iI b,iI p],iI lg] []
  (λv As=>∃n t l q,v= .tuple #[pp n,pp t,pp l,pp q]/\As=DvP q n t l (Dv.new d b p lg)):=by
 refine FE [0,0] Tryz.func140 λX F hX=>?_;refine J.qc (a2P d b p h) [] λ_=>?_;rintro v As ⟨n,rfl,rfl⟩;refine⟨_,rfl,trivial,?_⟩;refine J.qc (a7l d b p h) [] λ_=>?_;rintro v As ⟨t,rfl,rfl⟩;refine⟨_,rfl,trivial,?_⟩;refine J.qc (a7n lg) [] λ_=>?_;rintro v As ⟨l,rfl,rfl⟩;refine⟨_,rfl,trivial,?_⟩;refine J.qc (b1q n t l 1 (by decide) (Nand.new d b p) (Tl.new d b p) (Tb.new lg)) [] λ_=>?_;rintro v As ⟨q,rfl,rfl⟩;refine⟨_,rfl,trivial,?_⟩;refine J.qr [5,2,3,4] λ_=>?_;exact⟨n,t,l,q,rfl,rfl⟩
namespace Inv
variable {fd : Int} {S : Dv} {k m : Nat}
theorem free_iff (h:Inv fd S) (hO:S.Ok k m) {b:Int} (hb:S.t.has b=true):y0 S.t S.T b=S.t.blank b/\(S.t.blank b=true->(b !=S.op)=true):=by
 have hu:=h.usable hO hb;unfold y0;rw[hu,Bool.true_and];have hop:S.t.blank b=true->(b !=S.op)=true:=λhbl=>by
  simp only[Tl.blank,Bool.and_eq_true,Bool.not_eq_true']at hbl;rw[bne_iff_ne];intro e;rcases h.op with e2 | e2
  ·have:=(Tl.has_iff.1 hb).1;omega
  ·have:=e2.used;rw[<- e,hbl.2]at this;cases this
 refine⟨?_,hop⟩;cases hbl:S.t.blank b with
 | false=>rfl
 | true=>
  rw[Bool.true_and,beq_iff_eq];simp only[Tl.blank,Bool.and_eq_true,Bool.not_eq_true']at hbl;rw[hO.T.cnt];unfold Tb.cntB;have:(S.T.at_.countP λx=>x.2.block==b)=0:=by
   rw[List.countP_eq_zero];intro x hx hxb;simp only[beq_iff_eq]at hxb;have hlk:Tb.look S.T.at_ x.1=some x.2:=a5w hO.T hx;have:=(h.st _ _ hlk).used;rw[hxb,hbl.2]at this;cases this
  rw[this];rfl
end Inv
namespace SeqI
variable {D B P rows : Nat} {S : Dv} {k m : Nat} {l : List En}
end SeqI
namespace Dv
end Dv
theorem a7u (N:Nand) (d b r:Int):N.pageAt d b r=N.pageAt (d.toNat:Int) b r:=by unfold Nand.pageAt;rw[Int.toNat_natCast]
namespace TornR
variable {N N' : Nand} {b r kp : Int} {q : List (Int × Sh)} {c : Nat}
end TornR
namespace DscA
variable {C : En → Prop} {N N' : Nand} {Q : Dv} {l : List En} {k m : Nat}
end DscA
theorem Msk.any {D:Nat} {fd m:Int} (h:Msk D (-1) m):Msk D fd m:=⟨h.set,h.lt,λd hd _=>h.all d hd (by omega)⟩
theorem Full.any {fd:Int} {N:Nand} {b r m:Int} {l:List En} (h:Full (-1) N b r m l):Full fd N b r m l:=⟨h.is,λx hx _=>h.good x hx (by have:=h.is.inn x hx;omega),h.inn⟩
theorem Inv.any {fd:Int} {S:Dv} (h:Inv (-1) S) (hn:S.N.plan=[]):Inv fd S:=by
 refine⟨h.lit,λi _=>h.dead i (by omega),λa ha=>(by rw[hn]at ha;cases ha),λi j _=>h.flags i j (by omega),⟨h.tdead.1,λd hd=>?_⟩,λb hb=>⟨(h.tbad b hb).1,λd hd=>?_⟩,?_,h.blank,λi a ha=>?_⟩
 ·have:=h.tdead.2 d hd;obtain⟨x,hx,_⟩:=L.has_rng hd;omega
 ·have:=(h.tbad b hb).2 d hd;obtain⟨x,hx,_⟩:=L.has_rng hd;omega
 ·rcases h.op with e | e
  ·exact .inl e
  ·exact .inr ⟨e.blk,e.used,e.row,e.mask.any,e.cells⟩
 ·have hs:=h.st i a ha;obtain⟨l,g1,g2⟩:=hs.row;exact⟨⟨l,g1.any,g2⟩,hs.used,hs.below,hs.seq⟩
theorem Inv.went1 {fd:Int} {S:Dv} {k m:Nat} (h:Inv fd S) (hO:S.Ok k m) (hl:S.at1.left=true):Went fd S S.at1 0:=by
 unfold Dv.at1 at hl ⊢;split
 ·exact Went.refl h
 ·rename_i hh;rw[if_neg hh]at hl;have hf:S.left=false:=by simpa using hh
  have:=(Dv.left_spec hl).1;exact(h.opens hO hf (by show¬S.pick<0;have:0<=S.pick:=this;omega)).1
namespace Inv
variable {fd : Int} {S : Dv} {k m : Nat} {l : List En}
theorem full (h:Inv fd S) (hO:S.Ok k m) (hr:S.rows=0):S.left=false/\S.pick<0:=by
 have hg:=hO.gd.ok.bd16;unfold Dv.rows at hr;have h1:S.N.pages*S.t.blanks=0:=by omega
 have h2:S.t.blanks=0:=by
  rcases Nat.mul_eq_zero.1 h1 with e | e
  ·omega
  ·exact e
 refine⟨?_,?_⟩
 ·cases hl:S.left with
  | false=>rfl
  | true=>
   have:=Dv.left_spec hl;rw[if_pos (by omega)]at hr;omega
 ·refine Classical.byContradiction λhp=>?_;have:=Tl.blanks_open hO.t.len (Dv.pick_blank hp);omega
end Inv
namespace Tb
theorem put1_keys2 {α β:Type} (k:Int) (v:α) (v':β):∀(l:List (Int×α)) (l':List (Int×β)),l.map (·.1)=l'.map (·.1)->(put1 l k v).map (·.1)=(put1 l' k v').map (·.1)
 | [],[],_=>rfl
 | [],y::l',h=>by cases h
 | x::l,[],h=>by cases h
 | x::l,y::l',h=>by
  simp only[List.map_cons,List.cons.injEq]at h;simp only[put1];rw[h.1];split
  ·simp only[List.map_cons,h.2]
  ·simp only[List.map_cons,h.1,put1_keys2 k v v' l l' h.2]
end Tb
def K8 (W:List (Int×En)) (l:List En) (n:Nat):List (Int×En):=(List.range n).foldl (λW (i:Nat)=>Tb.put1 W (l.getD i En.zero).lpn (l.getD i En.zero)) W
theorem M4 (W:List (Int×En)) (l:List En) (n:Nat):K8 W l (n+1)=Tb.put1 (K8 W l n) (l.getD n En.zero).lpn (l.getD n En.zero):=by unfold K8;rw[List.range_succ,List.foldl_append];rfl
theorem I7 {W:List (Int×En)} {l:List En}:∀n:Nat,(∀i j,i<j->j<n->(l.getD i En.zero).lpn≠(l.getD j En.zero).lpn)->(∀j,j<n->Tb.look (K8 W l n) (l.getD j En.zero).lpn=some (l.getD j En.zero))/\∀i,(∀j,j<n->(l.getD j En.zero).lpn≠i)->Tb.look (K8 W l n) i=Tb.look W i
 | 0,_=>⟨λj hj=>by omega,λi _=>rfl⟩
 | n+1,h=>by
  obtain⟨i1,i2⟩:=I7 (W:=W) n λi j hij hj=>h i j hij (by omega);rw[M4];refine⟨λj hj=>?_,λi hi=>?_⟩
  ·rw[Tb.look_put1]
   by_cases e:j=n
   ·subst e;rw[if_pos rfl]
   ·rw[if_neg (h j n (by omega) (by omega))];exact i1 j (by omega)
  ·rw[Tb.look_put1,if_neg (λe=>hi n (by omega) e.symm)];exact i2 i λj hj=>hi j (by omega)
structure Hd (S:Dv) (W:List (Int×En)):Prop where
 keys:S.T.at_.map (·.1)=W.map (·.1)
 each:∀i e,Tb.look W i=some e->e.data.length=16/\∃a,Tb.look S.T.at_ i=some a/\R.read S.N a.block a.row a.slot a.mask=({e with seq:=a.seq},0)
namespace Hd
variable {fd : Int} {S Q : Dv} {W : List (Int × En)} {k m : Nat} {l : List En}
theorem went (h:Hd S W) (hi:Inv fd S) {β:Nat} (w:Went fd S Q β):Hd Q W:=by
 refine⟨by rw[w.T];exact h.keys,λi e he=>?_⟩;obtain⟨h1,a,h2,h3⟩:=h.each i e he;exact⟨h1,a,by rw[w.T];exact h2,by rw[w.reads i a (hi.st i a h2)];exact h3⟩
theorem none (h:Hd S W) {i:Int} (hi:Tb.look W i= .none):Tb.look S.T.at_ i= .none:=by
 rw[Tb.look_none]at hi ⊢;rw[h.keys];exact hi
theorem wrote (h:Hd Q W) (hQ:Inv fd Q) (hO:Q.Ok k m) (hl:Last fd Q l) (hf:∀e∈l,FitR e) (hlg:∀e∈l,e.lpn<Q.T.logical) (hnd:(l.map (·.lpn)).Nodup):Hd (s7 Q l) (K8 W l (Q.fit l)):=by
 obtain⟨l1,l2⟩:=hl.look hQ hO hf hlg hnd;have hes:=λj (hj:j<Q.fit l)=>hl.seqs hO hj;have hdis:∀i j,i<j->j<Q.fit l->(l.getD i En.zero).lpn≠(l.getD j En.zero).lpn:=λi j hij hj e=>by
  have g1:=(hes j hj).1;have g2:=(hes i (by omega)).1;have:(l.map (·.lpn))[i]? =(l.map (·.lpn))[j]?:=by
   rw[List.getElem?_map,List.getElem?_map,List.getElem?_eq_getElem g1,List.getElem?_eq_getElem g2];rw[List.getD_eq_getElem?_getD,List.getD_eq_getElem?_getD,List.getElem?_eq_getElem g1,List.getElem?_eq_getElem g2]at e;exact congrArg some e
  have:=(List.getElem?_inj (by rw[List.length_map];exact g2) hnd).1 this;omega
 obtain⟨w1,w2⟩:=I7 (W:=W) (l:=l) (Q.fit l) hdis;refine⟨?_,λi e he=>?_⟩
 ·have key:∀n,n<=Q.fit l->(Dv.puts Q.T Q.op Q.row Q.mask (Q.es l) n).at_.map (·.1)=(K8 W l n).map (·.1):=by
   intro n
   induction n with
   | zero=>intro _;exact h.keys
   | succ n ih=>
    intro hn;have hb:=(hes n (by omega));have hin:=I3 hb.1;have hfe:=hf _ hin;have hl2:Tb.look (Dv.puts Q.T Q.op Q.row Q.mask (Q.es l) n).at_ (l.getD n En.zero).lpn=Tb.look Q.T.at_ (l.getD n En.zero).lpn:=by
     have hp:=(a0Y (T:=Q.T) (b:=Q.op) (r:=Q.row) (mk:=Q.mask) (es:=Q.es l) n (λj hj=>?_) (λj hj a ha=>?_) (λi j hij hj=>?_)).2
     ·refine hp _ λj hj=>?_;rw[(hes j (by omega)).2.1];exact hdis j n hj (by omega)
     ·rw[(hes j (by omega)).2.1];have hfe:=hf _ (I3 (hes j (by omega)).1);have:=hlg _ (I3 (hes j (by omega)).1);unfold Tb.ok;have e1:decide (({l.getD j En.zero with seq:=Q.next+(j:Int)}:En).lpn<0)=false:=decide_eq_false (by have:=hfe.lpn;show¬(l.getD j En.zero).lpn<0;omega);have e2:decide (({l.getD j En.zero with seq:=Q.next+(j:Int)}:En).lpn>=Q.T.logical)=false:=decide_eq_false (by show¬(l.getD j En.zero).lpn>=Q.T.logical;omega);rw[e1,e2];show(!(false||false||((l.getD j En.zero).role !=1&&(l.getD j En.zero).role !=2&&(l.getD j En.zero).role !=4)))=true;rcases hfe.role with e | ⟨e | e,_⟩<;>rw[e]<;>rfl
     ·rw[(hes j (by omega)).2.1]at ha ⊢;have:=(hQ.st _ a ha).seq;show a.seq<=Q.next+(j:Int);omega
     ·rw[(hes j (by omega)).2.1,(hes i (by omega)).2.1];exact hdis i j hij (by omega)
    have hp:Tb.putB (Dv.puts Q.T Q.op Q.row Q.mask (Q.es l) n) ((Q.es l).getD n En.zero)=true:=by
     have hlog:∀n,(Dv.puts Q.T Q.op Q.row Q.mask (Q.es l) n).logical=Q.T.logical:=by
      intro n
      induction n with
      | zero=>rfl
      | succ n ih=>rw[Dv.puts_succ,Tb.put_logical];exact ih
     rw[hb.2.1];have:=hlg _ hin;have e1:Tb.ok (Dv.puts Q.T Q.op Q.row Q.mask (Q.es l) n) ({l.getD n En.zero with seq:=Q.next+(n:Int)}:En)=true:=by
      unfold Tb.ok;rw[hlog];have e1:decide (({l.getD n En.zero with seq:=Q.next+(n:Int)}:En).lpn<0)=false:=decide_eq_false (by have:=hfe.lpn;show¬(l.getD n En.zero).lpn<0;omega);have e2:decide (({l.getD n En.zero with seq:=Q.next+(n:Int)}:En).lpn>=Q.T.logical)=false:=decide_eq_false (by show¬(l.getD n En.zero).lpn>=Q.T.logical;omega);rw[e1,e2];show(!(false||false||((l.getD n En.zero).role !=1&&(l.getD n En.zero).role !=2&&(l.getD n En.zero).role !=4)))=true;rcases hfe.role with e | ⟨e | e,_⟩<;>rw[e]<;>rfl
     have e2:Tb.elder (Dv.puts Q.T Q.op Q.row Q.mask (Q.es l) n) ({l.getD n En.zero with seq:=Q.next+(n:Int)}:En)=false:=by
      unfold Tb.elder;rw[show({l.getD n En.zero with seq:=Q.next+(n:Int)}:En).lpn=(l.getD n En.zero).lpn from rfl,hl2];cases hh:Tb.look Q.T.at_ (l.getD n En.zero).lpn with
      | none=>rfl
      | some a=>have:=(hQ.st _ a hh).seq;exact decide_eq_false (by show¬(Q.next+(n:Int))<a.seq;omega)
     unfold Tb.putB;rw[e1,e2];rfl
    rw[Dv.puts_succ,M4];unfold Tb.put;rw[if_pos hp];show(Tb.put1 _ _ _).map (·.1)=_;rw[hb.2.1];exact Tb.put1_keys2 _ _ _ _ _ (ih (by omega))
  exact key _ (Nat.le_refl _)
 ·by_cases hex:∃j,j<Q.fit l/\(l.getD j En.zero).lpn=i
  ·obtain⟨j,hj,rfl⟩:=hex;rw[w1 j hj]at he;injection he with he;subst he;refine⟨(hf _ (I3 (hes j hj).1)).len,_,l1 j hj,?_⟩;exact hl.reads hQ hO hj
  ·have hno:∀j,j<Q.fit l->(l.getD j En.zero).lpn≠i:=λj hj e=>hex ⟨j,hj,e⟩;rw[w2 i hno]at he;obtain⟨h1,a,h2,h3⟩:=h.each i e he;refine⟨h1,a,by rw[l2 i hno];exact h2,?_⟩;rw[hl.stay hQ hO hf (hQ.st i a h2)];exact h3
end Hd
theorem a9l (D B P:Nat) (lg:Int):(Dv.new D B P lg).rows=P*B:=by
 unfold Dv.rows;have e1:(Dv.new D B P lg).op= -1:=rfl;have e2:(Dv.new D B P lg).t.blanks=B:=by
  show(List.replicate B Sb.zero).countP _=B;rw[List.countP_replicate];rfl
 have e3:(Dv.new D B P lg).N.pages=P:=rfl;rw[e1,e2,e3,if_neg (by decide)];omega
def FreshP (S:Dv) (b r:Int):Prop:=(b=S.op/\S.row<=r)\/(S.t.has b=true/\(S.t.at_ b).used=false)
namespace Dv
theorem loses_used {S:Dv} {f:Int} (hF:S.t.Fit S.N) (h8:S.t.d<=8) (hs:L.set S.t.dead=true) (b:Int) (hb:S.t.has b=true):((S.loses f).t.at_ b).used=(S.t.at_ b).used/\(S.loses f).t.has b=true:=by
 have h:=loses_sb (f:=f) (List.range S.N.dies) S hF h8 hs;exact⟨(h.2.1 b hb).2.2,(h.1 b).trans hb⟩
end Dv
namespace Inv
variable {fd : Int} {S : Dv} {k m : Nat} {l : List En}
theorem write_op:∀(f:Nat) (S:Dv) (k:Nat),Inv fd S->S.Ok (8*f+k) m->(∀e∈l,FitR e)->S.next+7*(f:Int)<=1099511627775->0<(Dv.write f S l).2.1->
  FreshP S (Dv.write f S l).1.op ((Dv.write f S l).1.row-1)
 | 0,S,k,_,_,_,_,h0=>by exact absurd h0 (by show¬(0:Int)<0;omega)
 | f+1,S,k,h,hO,hf,hnx,h0=>by
  have hd:∀s∈l,s.data.length=16:=λe he=>(hf e he).len;have hg:=hO.gd.ok.bd16;rw[Dv.write_succ]at h0 ⊢
  by_cases hl0:l.length=0
  ·rw[if_pos hl0]at h0;exact absurd h0 (by show¬(0:Int)<0;omega)
  rw[if_neg hl0]at h0 ⊢
  by_cases hns:S.left=false/\S.pick<0
  ·rw[if_pos hns]at h0;exact absurd h0 (by show¬(0:Int)<0;omega)
  rw[if_neg hns]at h0 ⊢;have hl:S.at1.left=true:=Dv.at1_left' hO hns;have w1:=h.went1 hO hl;have hQO:=hO.at1;have hfit:=Dv.fit_le S.at1 l;have hn:¬S.at1.next>1099511627775-(S.at1.fit l:Int)+1:=by rw[(Dv.at1_like S).2.2];omega
  have ht:=w1.inv.turn hQO hl hf hn;rw[if_neg hn]at h0 ⊢
  --where the one that is open stands
  have hat:FreshP S S.at1.op S.at1.row/\∀b,S.t.has b=true->(S.at1.t.at_ b).used=false->(S.t.at_ b).used=false:=by
   unfold Dv.at1;split
   ·exact⟨.inl ⟨rfl,Int.le_refl _⟩,λ_ _ h=>h⟩
   ·rename_i hh;have hlf:S.left=false:=by simpa using hh
    have hp:¬S.pick<0:=λe=>hns ⟨hlf,e⟩;rcases S.pick_spec with e | ⟨p1,p2,_,_⟩
    ·omega
    ·have hhas:S.t.has S.pick=true:=Tl.has_iff.2 ⟨p1,p2⟩;have hbl:=Dv.pick_blank hp;have hunu:(S.t.at_ S.pick).used=false:=by simp only[Tl.blank,Bool.and_eq_true,Bool.not_eq_true']at hbl;exact hbl.2
     refine⟨.inr ⟨hhas,hunu⟩,λb hb hu=>?_⟩;have hu:((S.t.clean S.pick false).at_ b).used=false:=hu;unfold Tl.clean at hu;rw[Tl.at_set hO.t.len _ hhas hb]at hu;split at hu
     ·cases hu
     ·exact hu
  have hhas1:∀b,S.at1.t.has b=S.t.has b:=has_same hO.t hQO.t w1.like
  by_cases he:(S.at1.wr l).2.1=0
  ·have herr:=ht.err;rw[if_pos he]at herr;rw[if_neg (by rw[herr];decide),if_pos herr];show FreshP S S.at1.op (S.at1.row+1-1);rw[show S.at1.row+1-1=S.at1.row from by omega];exact hat.1
  ·have herr:=ht.err;rw[if_neg he]at herr;rw[if_neg (by rw[herr];decide),if_neg (by rw[herr];decide),if_neg (by rw[herr];decide)]at h0 ⊢;have hQO8:S.at1.Ok (8+(8*f+k)) m:=hQO.less (by omega);obtain⟨b1,_,_,b4,b5,_⟩:=w1.inv.burn hQO8 hl hf hn he;have hWO:=(hQO8.wrote hd (Dv.left_spec hl).2.1 hn).loses (S.at1.wr l).2.1;have hWt:=(hQO8.wrote hd (Dv.left_spec hl).2.1 hn).t;have hus:=λb hb=>Dv.loses_used (S:=S.at1.wrote l) (f:=(S.at1.wr l).2.1) hWt (by have:=hQO.t.d;have:=hQO.gd.ok.bd16;show S.at1.t.d<=8;omega) w1.inv.tdead.1 b hb;have hnx2:=b1.next;have hnx1:=(Dv.at1_like S).2.2;have ih:=write_op f _ k b1.inv hWO hf (by rw[hnx1]at hnx2;omega) h0;rcases ih with⟨e1,e2⟩ | ⟨e1,e2⟩
   ·rw[b5]at e1;rw[b4]at e2;rw[e1];rcases hat.1 with⟨x1,x2⟩ | x
    ·exact .inl ⟨x1,by omega⟩
    ·exact .inr x
   ·right;have hh:S.t.has (Dv.write f ((S.at1.wrote l).loses (S.at1.wr l).2.1) l).1.op=true:=by
     rw[<- hhas1];have:=Dv.loses_sb (f:=(S.at1.wr l).2.1) (List.range (S.at1.wrote l).N.dies) (S.at1.wrote l) hWt (by have:=hQO.t.d;have:=hQO.gd.ok.bd16;show S.at1.t.d<=8;omega) w1.inv.tdead.1;have e1:(((List.range (S.at1.wrote l).N.dies).foldl (Dv.lose (S.at1.wr l).2.1) (S.at1.wrote l)).t).has _=true:=e1;rw[this.1]at e1;exact e1
    refine⟨hh,hat.2 _ hh ?_⟩;have:=(hus _ (show(S.at1.wrote l).t.has _=true by show S.at1.t.has _=true;rw[hhas1];exact hh)).1;rw[e2]at this;exact this.symm
end Inv
def WOk (W:List (Int×En)):Prop:=∀i e,Tb.look W i=some e->e.lpn=i/\FitR e
namespace Hd
variable {S : Dv} {W : List (Int × En)}
theorem rd (h:Hd S W) (hW:WOk W) {i:Int} {e:En} (he:Tb.look W i=some e):∃sq,S.rd i=({e with seq:=sq},0):=by
 obtain⟨_,a,h2,h3⟩:=h.each i e he;refine⟨a.seq,?_⟩;unfold Dv.rd;rw[h2];dsimp only;rw[Option.getD_some,h3];dsimp only;rw[if_neg (by decide),if_neg];rintro(x | x | x)
 ·exact x rfl
 ·exact x (hW i e he).1
 ·exact x rfl
theorem rds (h:Hd S W) (hW:WOk W):∀L:List Int,(∀i∈L,(Tb.look W i).isSome=true)->∃E:List En,S.rds L=(E,0)/\E.length=L.length/\E.map (·.lpn)=L/\(∀e∈E,FitR e)/\∀j,j<L.length->∃e sq,Tb.look W (E.getD j En.zero).lpn=some e/\E.getD j En.zero={e with seq:=sq}
 | [],_=>⟨[],rfl,rfl,rfl,λ_ h=>(by cases h),λj hj=>by simp at hj⟩
 | i::L,hL=>by
  obtain⟨E,e1,e2,e3,e4,e5⟩:=rds h hW L λx hx=>hL x (by simp[hx]);obtain⟨e,he⟩:=Option.isSome_iff_exists.1 (hL i (by simp));obtain⟨sq,hr⟩:=h.rd hW he;have hw:=hW i e he;refine⟨{e with seq:=sq}::E,?_,by simp[e2],by simp[e3,hw.1],λx hx=>?_,λj hj=>?_⟩
  ·rw[Dv.rds,hr,if_neg (by simp),e1]
  ·rcases List.mem_cons.1 hx with rfl | hx
   ·exact⟨hw.2.lpn,hw.2.role,hw.2.len⟩
   ·exact e4 x hx
  ·cases j with
   | zero=>exact⟨e,sq,by show Tb.look W e.lpn=_;rw[hw.1];exact he,rfl⟩
   | succ j=>exact e5 j (by simpa using hj)
theorem swap {E:List En} {n:Nat} (h:Hd S (K8 W E n)) (hE:∀j,j<n->∃e sq,Tb.look W (E.getD j En.zero).lpn=some e/\E.getD j En.zero={e with seq:=sq}) (hd:∀i j,i<j->j<n->(E.getD i En.zero).lpn≠(E.getD j En.zero).lpn):Hd S W:=by
 obtain⟨w1,w2⟩:=I7 (W:=W) (l:=E) n hd;refine⟨?_,λi e he=>?_⟩
 ·rw[h.keys];clear h w1 w2
  induction n with
  | zero=>rfl
  | succ n ih=>
   rw[M4];have hk:=(I7 (W:=W) (l:=E) n λi j hij hj=>hd i j hij (by omega)).2 (E.getD n En.zero).lpn λj hj=>hd j n hj (by omega);obtain⟨e,sq,h1,_⟩:=hE n (by omega);rw[<- ih (λj hj=>hE j (by omega)) (λi j hij hj=>hd i j hij (by omega))];refine Tb.put1_keys (by rw[hk,h1];simp)
 ·by_cases hex:∃j,j<n/\(E.getD j En.zero).lpn=i
  ·obtain⟨j,hj,rfl⟩:=hex;obtain⟨e',sq,h1,h2⟩:=hE j hj;rw[he]at h1;injection h1 with h1;obtain⟨g1,a,g2,g3⟩:=h.each _ _ (w1 j hj);rw[h2]at g1 g3;subst h1;exact⟨g1,a,g2,g3⟩
  ·exact h.each i e (by rw[w2 i λj hj hh=>hex ⟨j,hj,hh⟩];exact he)
end Hd
inductive Hot2 (fd:Int) (S:Dv):Nat->Prop
 | calm:NoF S->Hot2 fd S 0
 | cold:L.has S.t.dead fd=true->L.has S.mask fd=false->Hot2 fd S 0
 | once:L.has S.t.dead fd=true->Hot2 fd S 1
theorem Hot2.hot {fd:Int} {S:Dv} {β:Nat} (h:Hot2 fd S β):Hot fd S β:=by
 cases h with
 | calm h=>exact .calm h
 | cold h1 h2=>exact .cold h1 h2
 | once h=>exact .once h
theorem Hot2.nof {S:Dv} {β:Nat} (h:Hot2 (-1) S β):NoF S:=by
 cases h with
 | calm h=>exact h
 | cold h _=>have:=L.has_lt _ _ h;omega
 | once h=>have:=L.has_lt _ _ h;omega
structure Pnd (fd:Int) (S:Dv) (E:List En) (V:Dv) (n γ:Nat):Prop where
 inv:Inv fd V
 n1:n<=E.length
 n2:min E.length (S.N.dies-2)<=n
 n3:1<=n
 rows:V.rows+1+γ=S.rows
 pos:∀j,j<n->∃a,Tb.look V.T.at_ (E.getD j En.zero).lpn=some a/\FreshP S a.block a.row/\∀d:Nat,S.N.dead.getD d false=true->L.has a.mask (d:Nat)=false
 rest:∀i,(∀j,j<n->(E.getD j En.zero).lpn≠i)->Tb.look V.T.at_ i=Tb.look S.T.at_ i
 logical:V.T.logical=S.T.logical
 next:S.next<=V.next/\V.next<=S.next+14
 dead:V.N.dead=S.N.dead
 broken:V.N.broken=S.N.broken
 like:S.N.Like V.N
 plan:∀a∈V.N.plan,a∈S.N.plan
 flags:∀i j,(V.N.blk i j).met=(S.N.blk i j).met/\(V.N.blk i j).fails=(S.N.blk i j).fails
 has:∀b,V.t.has b=S.t.has b
 sb:∀b,S.t.has b=true->(V.t.at_ b).held=(S.t.at_ b).held/\((S.t.at_ b).used=true->(V.t.at_ b).used=true)
 td:∀d:Int,L.has S.t.dead d=true->L.has V.t.dead d=true
 fresh:FreshP S V.op (V.row-1)
 hot:∀β,Hot2 fd S β->γ<=β/\Hot2 fd V (β-γ)
 mask:L.has S.t.dead fd=true->L.has S.mask fd=false->L.has V.mask fd=false
theorem Inv.pen_step {fd:Int} {S:Dv} {k m β:Nat} {E:List En} {W:List (Int×En)} (h:Inv fd S) (hO:S.Ok (8*Dv.fuel+k) m) (hH:Hot2 fd S β) (hr:β<S.rows) (hf:∀e∈E,FitR e) (hl0:E.length≠0) (hnd:(E.map (·.lpn)).Nodup) (hlg:∀e∈E,e.lpn<S.T.logical) (hnx:S.next<=1099511627775-1200) (hW:Hd S W):
  ∃(V:Dv) (n γ:Nat),S.pen E=(V,(n:Int),(0:Int))/\Pnd fd S E V n γ/\V.Ok k m/\Hd V (K8 W E n):=by
 have hβ:β<=1:=by cases hH<;>omega
 have hg:=hO.gd.ok.bd16;obtain⟨γ,Q,w1,w2,w3,w4,w5,w6,w7,w8,_⟩:=h.write_go (l:=E) β (159-β) S k (m:=m) (by rw[show 159-β+β+1=Dv.fuel from by unfold Dv.fuel;omega];exact hO) hH.hot hr hf hl0 (by omega);rw[show 159-β+β+1=Dv.fuel from by unfold Dv.fuel;omega]at w5;have hpen:S.pen E=(s7 Q E,(Q.fit E:Int),(0:Int)):=w5;have hok:=(Dv.pen_keep hO λe he=>(hf e he).len).1;rw[hpen]at hok;have hqo:=w4.opn w2.inv;have hms:=hqo.mask.pos (show 3<=Q.N.dies/\Q.N.dies<=6 by rw[w2.like.dies];exact hg.1);have hdQ:Q.N.dies=S.N.dies:=w2.like.dies;rw[hdQ]at hms;have hfit:min E.length (S.N.dies-2)<=Q.fit E/\Q.fit E<=E.length/\1<=Q.fit E/\Q.fit E<=7:=by
  have:=Dv.fit_le Q E;unfold Dv.fit at this ⊢;omega
 have hfr:=h.write_op (l:=E) Dv.fuel S k hO hf (by unfold Dv.fuel;omega) (by show 0<(S.pen E).2.1;rw[hpen];show(0:Int)<(Q.fit E:Int);omega);have hfr:FreshP S (S.pen E).1.op ((S.pen E).1.row-1):=hfr;rw[hpen]at hfr;obtain⟨l1,l2⟩:=w4.look w2.inv w3 hf (λe he=>by rw[w2.T];exact hlg e he) hnd;have hHd:=(hW.went h w2).wrote w2.inv w3 w4 hf (λe he=>by rw[w2.T];exact hlg e he) hnd;have hrows:=w4.rows w2.inv;have hrw:=w2.rows;have hnext:=w2.next;have ht:=w4.turn;have hmk:∀d:Nat,S.N.dead.getD d false=true->L.has Q.mask (d:Nat)=false:=λd hd=>by
  cases hh:L.has Q.mask (d:Nat)with
  | false=>rfl
  | true=>
   have h1:=ht.fail d hh;rw[w4.err,L.has_zero]at h1;unfold Nand.failB at h1;rw[Int.toNat_natCast,w2.dead,hd,Bool.true_or]at h1;cases h1
 have hlogW:(s7 Q E).T.logical=S.T.logical:=by
  have:=(Dv.pen_keep hO λe he=>(hf e he).len).2.2;rw[hpen]at this;exact this
 refine⟨s7 Q E,Q.fit E,γ,hpen,⟨w4.inv w2.inv w3,hfit.2.1,hfit.1,hfit.2.2.1,by omega,λj hj=>⟨_,l1 j hj,?_,hmk⟩,λi hi=>?_,hlogW,?_,?_,?_,?_,λa ha=>w2.plan a (ht.plan a ha),λi j=>?_,λb=>?_,λb hb=>⟨(w2.sb b hb).2.1,(w2.sb b hb).2.2⟩,w2.td,hfr,λβ2 hb2=>?_,λh1 h2=>w8 fd h1 h2⟩,hok,hHd⟩
 ·have:(s7 Q E).row-1=Q.row:=by show Q.row+1-1=Q.row;omega
  rw[this]at hfr;exact hfr
 ·rw[l2 i hi,w2.T]
 ·show S.next<=Q.next+(Q.fit E:Int)/\Q.next+(Q.fit E:Int)<=S.next+14;omega
 ·exact ht.dead.trans w2.dead
 ·exact ht.broken.trans w2.broken
 ·exact w2.like.trans ht.like
 ·have a1:=ht.flags i j;have a2:=w2.flags i j;exact⟨a1.1.trans a2.1,a1.2.1.trans a2.2.1⟩
 ·exact Inv.has_same hO.t w3.t w2.like b
 ·cases hb2 with
  | calm hno=>
   obtain⟨e1,e2⟩:=w6 hno;subst e2;exact⟨by omega, .calm ((hno.went w2).wrote w4)⟩
  | cold h1 h2=>
   have hq:=w8 fd h1 h2;have hγ:γ=0:=by
    obtain⟨γ2,Q2,z1,z2,z3,z4,z5,_⟩:=h.write_go (l:=E) 0 159 S k (m:=m) hO (.cold h1 h2) (by omega) hf hl0 (by omega);have z5:S.pen E=(s7 Q2 E,(Q2.fit E:Int),(0:Int)):=z5;rw[hpen]at z5;have:=congrArg (λx=>x.1) z5;have z6:s7 Q E=s7 Q2 E:=this;have z7:=z4.rows z2.inv;have z8:=z2.rows;rw[<- z6]at z7;omega
   subst hγ;exact⟨Nat.le_refl _, .cold (w2.td fd h1) hq⟩
  | once h1=>
   rcases Nat.eq_zero_or_pos γ with e | e
   ·subst e;exact⟨by omega, .once (w2.td fd h1)⟩
   ·refine⟨by omega,?_⟩;rw[show 1-γ=0 from by omega];exact .cold (w2.td fd h1) (w7 e h1)
theorem FreshP.mono {S:Dv} {b r r':Int} (h:FreshP S b r) (hr:r<=r'):FreshP S b r':=by
 rcases h with⟨h1,h2⟩ | h
 ·exact .inl ⟨h1,by omega⟩
 ·exact .inr h
theorem FreshP.back {S V:Dv} {b r:Int} (h:FreshP V b r) (hf:FreshP S V.op (V.row-1)) (hh:∀b,V.t.has b=S.t.has b) (hu:∀b,S.t.has b=true->(S.t.at_ b).used=true->(V.t.at_ b).used=true):FreshP S b r:=by
 rcases h with⟨h1,h2⟩ | ⟨h1,h2⟩
 ·rw[h1];exact hf.mono (by omega)
 ·rw[hh]at h1;right;refine⟨h1,?_⟩;cases hx:(S.t.at_ b).used with
  | false=>rfl
  | true=>rw[hu b h1 hx]at h2;cases h2
structure Crd (fd:Int) (S:Dv) (I:List Int) (V:Dv):Prop where
 inv:Inv fd V
 pos:∀i∈I,∃a,Tb.look V.T.at_ i=some a/\FreshP S a.block a.row/\∀d:Nat,S.N.dead.getD d false=true->L.has a.mask (d:Nat)=false
 rest:∀i,i∉I->Tb.look V.T.at_ i=Tb.look S.T.at_ i
 logical:V.T.logical=S.T.logical
 next:S.next<=V.next/\V.next<=S.next+14*(I.length:Int)
 dead:V.N.dead=S.N.dead
 broken:V.N.broken=S.N.broken
 like:S.N.Like V.N
 plan:∀a∈V.N.plan,a∈S.N.plan
 flags:∀i j,(V.N.blk i j).met=(S.N.blk i j).met/\(V.N.blk i j).fails=(S.N.blk i j).fails
 has:∀b,V.t.has b=S.t.has b
 sb:∀b,S.t.has b=true->(V.t.at_ b).held=(S.t.at_ b).held/\((S.t.at_ b).used=true->(V.t.at_ b).used=true)
 td:∀d:Int,L.has S.t.dead d=true->L.has V.t.dead d=true
 rowsle:V.rows<=S.rows
 back:∀b r,FreshP V b r->FreshP S b r
 fresh:I≠[]->FreshP S V.op (V.row-1)
theorem Crd.nil {fd:Int} {S:Dv} (h:Inv fd S):Crd fd S [] S:=
 ⟨h,λi hi=>(by cases hi),λ_ _=>rfl,rfl,by simp,rfl,rfl,Nand.Like.refl _,λ_ h=>h,λ_ _=>⟨rfl,rfl⟩,λ_=>rfl,λ_ _=>⟨rfl,λh=>h⟩,λ_ h=>h,Nat.le_refl _,λ_ _ h=>h,λh=>absurd rfl h⟩
namespace Inv
variable {fd : Int} {m : Nat}
theorem slots_pos {S:Dv} {k:Nat} (h:Inv fd S) (hO:S.Ok k m) (hr:0<S.rows):(S.N.dies:Int)-2<=S.slots/\1<=S.slots:=by
 have hg:=hO.gd.ok.bd16;unfold Dv.slots;rcases h.rows_pos hO hr with hl | hp
 ·rw[if_pos hl];have:=(h.opn hl).mask.pos hg.1;omega
 ·split
  ·rename_i hl;have:=(h.opn hl).mask.pos hg.1;omega
  ·rcases S.pick_spec with e | ⟨p1,p2,_,_⟩
   ·omega
   ·have:=(h.msk hO (Tl.has_iff.2 ⟨p1,p2⟩)).pos hg.1;omega
theorem carry_go:∀(f:Nat) (S:Dv) (I:List Int) (done:Int) (W:List (Int×En)) (β ρ k:Nat),Inv fd S->S.Ok (Dv.cost*f+k) m->I.length<=f->Hd S W->WOk W->(∀i∈I,(Tb.look W i).isSome=true)->I.Nodup->Hot2 fd S β->I.length<=(S.N.dies-2)*ρ->ρ+β<=S.rows->S.next+14*(f:Int)<=1099511627775-1300->
  ∃(V:Dv) (β':Nat),Dv.carryGo f S I done=(V,done+(I.length:Int),(0:Int))/\Crd fd S I V/\Hd V W/\Hot2 fd V β'/\β'<=β/\S.rows+β'<=V.rows+ρ+β/\V.Ok k m
 | 0,S,I,done,W,β,ρ,k,h,hO,hL,hH,hW,hin,hnd,hot,hlen,hrw,hnx=>by
  have:I=[]:=List.eq_nil_of_length_eq_zero (by omega);subst this;exact⟨S,β,by show(S,done,(0:Int))=_;simp,Crd.nil h,hH,hot,Nat.le_refl _,by omega,hO.less (by omega)⟩
 | f+1,S,I,done,W,β,ρ,k,h,hO,hL,hH,hW,hin,hnd,hot,hlen,hrw,hnx=>by
  by_cases hl0:I.length=0
  ·have:I=[]:=List.eq_nil_of_length_eq_zero hl0;subst this;exact⟨S,β,by rw[Dv.carryGo,if_pos (show([]:List Int).length=0 from rfl)];simp,Crd.nil h,hH,hot,Nat.le_refl _,by omega,hO.less (by omega)⟩
  ·have hg:=hO.gd.ok.bd16;have hρ:1<=ρ:=by
    rcases Nat.eq_zero_or_pos ρ with e | e
    ·subst e;omega
    ·exact e
   have hβr:β<S.rows:=by omega
   obtain⟨s1,s2⟩:=h.slots_pos hO (by omega);obtain⟨c,hc⟩:∃c,(max S.slots 1).toNat=c:=⟨_,rfl⟩;have hc2:S.N.dies-2<=c/\1<=c:=by omega
   obtain⟨E,e1,e2,e3,e4,e5⟩:=hH.rds hW (I.take c) λi hi=>hin i (List.mem_of_mem_take hi);have hEl:E.length=min c I.length:=by rw[e2,List.length_take]
   have hnd2:(E.map (·.lpn)).Nodup:=by rw[e3];exact hnd.sublist (List.take_sublist _ _)
   have hget:∀j,j<E.length->(E.getD j En.zero).lpn=I.getD j 0:=λj hj=>by
    have h1:(E.map (·.lpn))[j]? =(I.take c)[j]?:=by rw[e3]
    rw[List.getElem?_map,List.getElem?_take,if_pos (by omega),List.getElem?_eq_getElem hj]at h1;rw[List.getD_eq_getElem?_getD,List.getD_eq_getElem?_getD,List.getElem?_eq_getElem hj,<- h1];rfl
   have hlgE:∀e∈E,e.lpn<S.T.logical:=λe he=>by
    have:e.lpn∈I.take c:=by rw[<- e3];exact List.mem_map_of_mem he
    have h1:=hin _ (List.mem_of_mem_take this);obtain⟨w,hw⟩:=Option.isSome_iff_exists.1 h1;obtain⟨_,a,ha,_⟩:=hH.each _ _ hw;exact(hO.T.rng _ (Tb.look_mem ha)).2
   obtain⟨V,n,γ,p1,p2,p3,p4⟩:=h.pen_step (β:=β) (k:=Dv.cost*f+k) (by have:Dv.cost*(f+1)=Dv.cost*f+Dv.cost:=Nat.mul_succ _ _;exact hO.less (by unfold Dv.cost at this ⊢;omega)) hot hβr e4 (by omega) hnd2 hlgE (by omega) hH;have hn1:=p2.n1;have hn2:=p2.n2;have hn3:=p2.n3;have hdisj:∀i j,i<j->j<n->(E.getD i En.zero).lpn≠(E.getD j En.zero).lpn:=λi j hij hj e=>by
    rw[hget i (by omega),hget j (by omega)]at e;have g1:i<I.length:=by omega
    have g2:j<I.length:=by omega
    rw[List.getD_eq_getElem?_getD,List.getD_eq_getElem?_getD,List.getElem?_eq_getElem g1,List.getElem?_eq_getElem g2]at e;have h3:I[i]? =I[j]?:=by rw[List.getElem?_eq_getElem g1,List.getElem?_eq_getElem g2];simpa using e
    have:=(List.getElem?_inj g1 hnd).1 h3;omega
   have hHV:Hd V W:=p4.swap (λj hj=>e5 j (by rw[<- e2];omega)) hdisj;obtain⟨hγ,hot2⟩:=p2.hot β hot;have hdl:(I.drop n).length=I.length-n:=List.length_drop;have hmul:(S.N.dies-2)*ρ=(S.N.dies-2)*(ρ-1)+(S.N.dies-2):=by
    obtain⟨z,rfl⟩:∃z,ρ=z+1:=⟨ρ-1,by omega⟩;rw[Nat.mul_succ];rfl
   have hpr:=p2.rows;have hnxV:=p2.next;obtain⟨V2,β',r1,r2,r3,r4,r5,r6,r7⟩:=carry_go f V (I.drop n) (done+(n:Int)) W (β-γ) (ρ-1) k p2.inv p3 (by omega) hHV hW (λi hi=>hin i (List.mem_of_mem_drop hi)) (hnd.sublist (List.drop_sublist _ _)) hot2 (by rw[p2.like.dies];omega) (by omega) (by omega);have hnext2:=r2.next;have hback:∀b r,FreshP V b r->FreshP S b r:=λb r hb=>hb.back p2.fresh p2.has λb hb=>(p2.sb b hb).2;have hfr:FreshP S V2.op (V2.row-1):=by
    rcases r2.back V2.op V2.row (.inl ⟨rfl,Int.le_refl _⟩)with⟨x1,x2⟩ | ⟨x1,x2⟩
    ·rcases p2.fresh with⟨y1,y2⟩ | y
     ·exact .inl ⟨x1.trans y1,by omega⟩
     ·rw[x1];exact .inr y
    ·rw[p2.has]at x1;right;refine⟨x1,?_⟩;cases hx:(S.t.at_ V2.op).used with
     | false=>rfl
     | true=>rw[(p2.sb _ x1).2 hx]at x2;cases x2
   refine⟨V2,β',?_,⟨r2.inv,λi hi=>?_,λi hi=>?_,r2.logical.trans p2.logical,⟨by omega,by omega⟩,r2.dead.trans p2.dead,r2.broken.trans p2.broken,p2.like.trans r2.like,λa ha=>p2.plan a (r2.plan a ha),λi j=>?_,λb=>(r2.has b).trans (p2.has b),λb hb=>?_,λd hd=>r2.td d (p2.td d hd),by have:=r2.rowsle;omega,λb r hb=>hback b r (r2.back b r hb),λ_=>hfr⟩,r3,r4,by omega,by omega,r7⟩
   ·rw[Dv.carryGo,if_neg hl0,hc];dsimp only;rw[e1];dsimp only;rw[if_neg (by decide),p1];dsimp only;rw[if_neg (by decide),Int.toNat_natCast,r1,hdl];have:done+(n:Int)+((I.length-n:Nat):Int)=done+(I.length:Int):=by omega
    rw[this]
   ·by_cases hd:i∈I.drop n
    ·obtain⟨a,a1,a2,a3⟩:=r2.pos i hd;exact⟨a,a1,hback _ _ a2,λd hd=>a3 d (by rw[p2.dead];exact hd)⟩
    ·have hmem:i∈I.take n:=by
      rw[<- List.take_append_drop n I]at hi;rcases List.mem_append.1 hi with h1 | h1
      ·exact h1
      ·exact absurd h1 hd
     obtain⟨j,hj,hji⟩:=List.mem_iff_getElem.1 hmem;rw[List.length_take]at hj;have hjE:(E.getD j En.zero).lpn=i:=by
      rw[hget j (by omega),List.getD_eq_getElem?_getD,List.getElem?_eq_getElem (by omega),Option.getD_some,<- hji,List.getElem_take]
     obtain⟨a,a1,a2,a3⟩:=p2.pos j (by omega);rw[hjE]at a1;exact⟨a,by rw[r2.rest i hd];exact a1,a2,a3⟩
   ·have h1:i∉I.drop n:=λhd=>hi (List.mem_of_mem_drop hd);rw[r2.rest i h1];refine p2.rest i λj hj e=>hi ?_;rw[<- e,hget j (by omega),List.getD_eq_getElem?_getD,List.getElem?_eq_getElem (by omega)];exact List.getElem_mem _
   ·have a1:=r2.flags i j;have a2:=p2.flags i j;exact⟨a1.1.trans a2.1,a1.2.trans a2.2⟩
   ·have a1:=p2.sb b hb;have a2:=r2.sb b (by rw[p2.has];exact hb);exact⟨a2.1.trans a1.1,λhu=>a2.2 (a1.2 hu)⟩
end Inv
end Go.Proofs.YtpohajhbfllbbaaGreat
