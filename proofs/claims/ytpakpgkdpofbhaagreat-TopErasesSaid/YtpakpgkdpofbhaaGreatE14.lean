/- Helpers. No condition. -/
import Derived.Test.YtpakpgkdpofbhaaGreatE00
import Derived.Test.YtpakpgkdpofbhaaGreatE03
import Derived.Test.YtpakpgkdpofbhaaGreatE04
import Derived.Test.YtpakpgkdpofbhaaGreatE06
import Derived.Test.YtpakpgkdpofbhaaGreatE07
import Derived.Test.YtpakpgkdpofbhaaGreatE08
import Derived.Test.YtpakpgkdpofbhaaGreatE09
import Derived.Test.YtpakpgkdpofbhaaGreatE10
import Derived.Test.YtpakpgkdpofbhaaGreatE11
import Derived.Test.YtpakpgkdpofbhaaGreatE12
import Derived.Test.YtpakpgkdpofbhaaGreatE13
import Derived.Test.YtpakpgkdpofbhaaGreatRows
import Derived.ProofKit
import Derived.OpenShut
import Derived.ChangeOld
import Derived.Below
import Derived.Deep.Slices
import Derived.Deep.Strs
import Derived.Lib.SmallJoins
set_option maxRecDepth 20000
set_option linter.all false
namespace Go.Proofs.YtpakpgkdpofbhaaGreat
open Go Go.RowKit
theorem b4z:FP 122 [] [] (Ps (.bool true) []):=by
 refine FE [] Tryz.func122 λX F hX=>?_;refine J.qp (b4y) [] λ_=>?_;exact J.qx []
open B16
theorem b4u:FP 75 [] [] (Ps (.bool true) []):=by
 refine FE [] Tryz.func75 λX F hX=>?_;refine J.qc (a7n 3 8 2 rfl) [] λ_=>?_;rintro v As ⟨q,rfl,rfl⟩;refine⟨_,rfl,trivial,?_⟩;refine J.qF λ_=>?_;refine J.q λbx=>?_;refine J.ca hX (by kernel_rfl) (a6z q N0 (.pt (bx 0) 113 (p9 [e1,B9.pad])) 1 0 7 (some ⟨bx 0,0,none⟩) 2 2 0 [e1,B9.pad] (a2O _ _ _ _ _ rfl) rfl (by decide) (G0.less (by decide) (j7 _))) [1,2] 0 rfl rfl rfl rfl rfl rfl (λ_=>rfl) ?_;refine cpq ⟨_,rfl,trivial,?_⟩;refine J.q λby_=>?_;refine J.ca hX (by kernel_rfl) (a6z q N1 (.pt (by_ 0) 113 (p9 [e2,e3])) 2 0 7 (some ⟨by_ 0,0,none⟩) 2 2 0 [e2,e3] (a2O _ _ _ _ _ rfl) rfl (by decide) (G1.less (by decide) (j7 _))) [1,3] 0 rfl rfl rfl rfl rfl rfl (λ_=>rfl) ?_;refine cpq ⟨_,rfl,trivial,?_⟩;refine J.qc (b5w q N2 G2.ok G2.room off2 3) [1] λ_=>?_;rintro v As ⟨r,a1,c1,a2,c2,rfl,rfl⟩;refine⟨_,rfl,trivial,?_⟩;rw[h_scan];refine J.qF λ_=>?_;refine J.qp (a5k r T 2) [4] λ_=>?_;rw[show Tb.look T.at_ 2=some ⟨1,0,0,7,5,1⟩from rfl,j6,a1T];refine J.qc (b9X) [] λ_=>?_;rintro v As ⟨d,rfl,rfl⟩;refine⟨_,rfl,trivial,?_⟩;refine J.qp (b3y d [] (by decide) w1) [9] λ_=>?_;rw[show a2l [] w1=[w1]from rfl];refine J.qp (b3y d [w1] (by decide) w2) [9] λ_=>?_;rw[show a2l [w1] w2=[w1,w2]from rfl];refine J.qp (b3y d [w1,w2] (by decide) w3) [9] λ_=>?_;rw[show a2l [w1,w2] w3=[w2,w3]from rfl];refine J.qc (b3A d [w2,w3] (by decide) 5) [9] λ_=>?_;rintro v As ⟨a3,c3,rfl,rfl⟩;refine⟨_,rfl,trivial,?_⟩;rw[show dkN [w2,w3] 5=2 from rfl,show[w2,w3].take 2=[w2,w3]from rfl];refine J.know (λh' s=>C7 (c:=(a3,c3)) (by decide) (s.get (i:=10) rfl)) λhg=>?_;obtain⟨ga,rfl⟩:=hg;refine J.know (λh' s=>a0v (show a0B _ _ (some ga) 2 c3 _ _ from s.get (i:=10) rfl)) λhcap=>?_;refine J.qp (b9Y d [w2,w3] (by decide) 4) [9] λ_=>?_;rw[show a2m [w2,w3] 4=(w3,true)from rfl];refine J.qp (b4z) [] λ_=>?_;refine J.qp (b4x) [] λ_=>?_;refine J.qp (b5J r T) [4] λ_=>?_;refine J.q λ_=>?_;refine J.v (iI 5) rfl rfl (λhg a w he hw=>H5 tk rfl rfl he hg rfl rfl (hw.get (i:=10) rfl) rfl) ?_;refine J.q λ_=>?_;have hRd:Rd (n9 113 19 (some ga) 2 c3 (p9 [w2,w3])) (some ⟨ga,0,none⟩) 19 1 (p9 [w2]):=(X1 113 19 (some ga) 2 c3 (p9 [w2,w3])).take 1 (by decide);refine J.qp (b7F d [w2,w3] (by decide) (n9 113 19 (some ga) 2 c3 (p9 [w2,w3])) (some ⟨ga,0,none⟩) 1 c3 [w2] hRd rfl (by decide)) [9,10] λ_=>?_;rw[show Z6 [w2,w3] [w2]=[w3]from rfl];refine J.qp (b3z d [w3]) [9] λ_=>?_;exact J.qx []
end Go.Proofs.YtpakpgkdpofbhaaGreat
namespace Go.Proofs.YtpakpgkdpofbhaaGreat
open Go Go.RowKit
section
variable {P : Program} {T : Tab} {E : Env} {n : Nat} {ac : Act} {w : World}
end
theorem a3o {α:Type} (f:α->List Value) (w:Nat) (hw:∀x,(f x).length=w):∀(l:List α) (k:Nat) (x:α),l[k]? =some x->((l.flatMap f).drop (k*w)).take w=f x
 | [],k,x,h=>by simp at h
 | y::l,0,x,h=>by
  simp at h;subst h;rw[u0,O2,a0Y,D1 (hw y)]
 | y::l,k+1,x,h=>by
  have ih:=a3o f w hw l k x (by simpa using h);rw[u0,show(k+1)*w=(f y).length+k*w from by rw[hw y,Nat.add_mul,Nat.one_mul,a1f],<- A9,R7 rfl];exact ih
end Go.Proofs.YtpakpgkdpofbhaaGreat
namespace Go.Proofs.YtpakpgkdpofbhaaGreat
open Go Go.RowKit
open Go.ChangeShapes Go.WideShapes
def frz (W:World):Atom:= .hp ⟨Hle (hl W),λ_ _ l s=>s.trans l⟩
theorem c0N {W:World} {a:Option Addr} {size n:Nat} {xs:List Value} (h:rdP a size n xs (hl W)):Rd (frz W) a size n xs:=λ_ s=>h.up s
theorem Fn.whole {P:Program} {f:FuncId} {args:List Value} {r:Value} {W:World} (h:Fn P f args [frz W] (λv As=>v=r/\As=[frz W])):Calls P f args.toArray W λe w'=>e= .returned r/\Below W.heap.size W w':=by
 have hs:Sep (.hp ⟨λ_=>True,λ_ _ _ s=>s⟩::[frz W]) (hl W):=by
  refine⟨λ_=>1,λi A hA=>?_⟩
  match i,hA with
  | 0,hA=>simp at hA;subst hA;trivial
  | 1,hA=>
   simp at hA;subst hA;intro b o hb;exact res_some.2 ⟨rfl,hb⟩
  | i+2,hA=>simp at hA
 refine(h _ W hs).mono λe w' ⟨v,As,e1,⟨e2,e3⟩,s,x⟩=>?_;subst e2 e3;have hle:Hle (hl W) (hl w'):=s.get (i:=1) rfl;refine⟨e1,x.os,x.tape,x.output,x.size,λk hk=>?_⟩;have:W.heap[k]? =some W.heap[k]:=L5 hk;rw[this];exact hle k _ this
theorem b8E {size:Nat} {h:Hl}:rdP none size 0 [] h:=⟨by simp,λh=>absurd h (by omega)⟩
theorem b8D {α:Type} {W:World} {base size n:Nat} {a:Addr} (f:α->List Value) (hsz:0<size)
  (h:∀i,i<n->∃x,W.cells? base (a.add (i*size)) size=some (f x)):∃l:List α,l.length=n/\rdP (some a) size n (l.flatMap f) (hl W):=by
 have h1:∀m,m<=n->∃l:List α,l.length=m/\(l.flatMap f).length=m*size/\∀i,i<m*size->W.cell? (a.add i)=(l.flatMap f)[i]?:=by
  intro m
  induction m with
  | zero=>exactλ_=>⟨[],rfl,by simp,λi hi=>by omega⟩
  | succ m ih=>
   intro hm;obtain⟨l,e1,e2,e3⟩:=ih (by omega);obtain⟨x,hx⟩:=h m (by omega);obtain⟨_,q1,q2⟩:=World.cells?_some hx;have hlen:((l++[x]).flatMap f).length=(m+1)*size:=by simp[I9,e2,q1,O3]
   refine⟨l++[x],by simp[e1],hlen,λi hi=>?_⟩;rw[I9,J3,e2];split
   ·exact e3 i (by assumption)
   ·rename_i hge;have:=q2 (i-m*size) (by rw[O3]at hi;omega);rw[Deep.add_add,show m*size+(i-m*size)=i by omega]at this;rw[this];simp
 obtain⟨l,e1,e2,e3⟩:=h1 n (j7 n);refine⟨l,e1,e2,λhn=>?_⟩;obtain⟨b,o,sp⟩:=a;have hpos:0<n*size:=Nat.mul_pos hn hsz;have h0:=e3 0 hpos;have hv:(l.flatMap f)[0]? =some ((l.flatMap f)[0]'(by omega)):=d6 _;rw[hv]at h0;have hsp:sp=none:=by simpa[Addr.add]using World.cell?_spot h0
 subst hsp;have hcell:∀i,W.cell? ⟨b,o+i,none⟩=W.cell? ((⟨b,o,none⟩:Addr).add i):=λi=>by rw[Addr.add_none]
 have hblk:∃cs ty fr,W.heap[b]? =some (.cells cs ty fr):=by
  unfold World.cell? at h0;cases hh:W.heap[b]? with
  | none=>simp[Addr.add,hh]at h0
  | some ob=>
   cases ob with
   | cells cs ty fr=>exact⟨cs,ty,fr,rfl⟩
   | _=>simp[Addr.add,hh]at h0
 obtain⟨cs,ty,fr,hh⟩:=hblk;refine⟨b,o,cs,ty,fr,rfl,hh,?_⟩;apply t6;intro i;rw[C4];split
 ·rename_i hi;rw[<- e3 i hi,<- hcell,cell_of_row W b (o+i) cs ty fr hh];simp
 ·rename_i hi;exact(j9 (by omega)).symm
section
variable {H : Type} {enc : TypeId × Value → H} {w : World} {base : Nat} {spare : Nat → Bool} {held : Bool}
theorem a9W {t:TypeId} (ht:Tryz.prog.underlying t=some (.int .i64)) {fuel:Nat} {cs:List Value} {y:DataW H×List MemPlace} (h:DataW.trod enc Tryz.prog w base spare held fuel t cs=some y):∃n,cs=[.int .i64 n]:=by
 obtain⟨n,rfl,_,_⟩:=DataW.trod_int ht h;exact⟨n,rfl⟩
end
end Go.Proofs.YtpakpgkdpofbhaaGreat
namespace Go.Proofs.YtpakpgkdpofbhaaGreat
open Go Go.RowKit
open Go.ChangeShapes Go.WideShapes Go.ChangeAt
section
variable {H : Type} {enc : TypeId × Value → H} {w : World} {base : Nat} {spare : Nat → Bool} {held : Bool}
theorem b4g {α:Type} {held':Bool} {fuel:Nat} {st et:TypeId} {size:Nat} (f:α->List Value) (good:α->Prop) (hu:Tryz.prog.underlying st=some (.slice et)) (hc:Tryz.prog.cellsOf et=size) (hsz:0<size)
  (hof:∀{fuel:Nat} {held:Bool} {cs:List Value} {y:DataW H×List MemPlace},DataW.trod enc Tryz.prog w base spare held fuel et cs=some y->∃x:α,good x/\cs=f x)
  {a:Option Addr} {len cap:Nat} {x:DataW H×List MemPlace} (h:DataW.trod enc Tryz.prog w base spare held' fuel st [.slice a len cap]=some x):
  ∃l:List α,l.length=len/\(∀e∈l,good e)/\rdP a size len (l.flatMap f) (hl w):=by
 rcases Deep.open_slice hu h with⟨hcs,_⟩ | ⟨a',len',cap',m,n,D,Pl,hcs,hb,hlc,hm,hmm,rfl,hx⟩
 ·simp at hcs;obtain⟨rfl,rfl,rfl⟩:=hcs;exact⟨[],rfl,λ_ h=>by simp at h,b8E⟩
 ·simp at hcs;obtain⟨rfl,rfl,rfl⟩:=hcs;rw[hc]at hx;obtain⟨l,e1,e2⟩:=b8D (W:=w) (base:=base) (size:=size) (n:=len) (a:=a') (λe:{e:α//good e}=>f e.1) hsz (λi hi=>by
   obtain⟨cs,q1,q2⟩:=hx i (by rw[hmm];split<;>omega);obtain⟨e,he,rfl⟩:=hof q2;exact⟨⟨e,he⟩,q1⟩)
  refine⟨l.map (·.1),by simpa using e1,λe he=>?_,?_⟩
  ·obtain⟨x,_,rfl⟩:=List.mem_map.1 he;exact x.2
  ·rw[List.flatMap_map];exact e2
end
end Go.Proofs.YtpakpgkdpofbhaaGreat
namespace Go.Proofs.YtpakpgkdpofbhaaGreat
open Go Go.RowKit
open Go.ChangeShapes Go.WideShapes Go.ChangeAt
section
variable {H : Type} {enc : TypeId × Value → H} {w : World} {base : Nat} {spare : Nat → Bool} {held : Bool}
theorem c0I {fuel:Nat} {cs:List Value} {y:DataW H×List MemPlace} (h:DataW.trod enc Tryz.prog w base spare held fuel 3 cs=some y):∃x:Int,(-9223372036854775808<=x/\x<=9223372036854775807)/\cs=[.int .i64 x]:=by
 obtain⟨n,rfl,_,hw⟩:=DataW.trod_int Tryz.underlying3 h;refine⟨n,?_,rfl⟩;simpa[Lit.wf,IntKind.min,IntKind.max,IntKind.signed,IntKind.bits]using hw
theorem b4h {held':Bool} {fuel:Nat} {a:Option Addr} {len cap:Nat} {x:DataW H×List MemPlace} (h:DataW.trod enc Tryz.prog w base spare held' fuel 35 [.slice a len cap]=some x):
  ∃l:List Int,l.length=len/\(∀e∈l,-9223372036854775808<=e/\e<=9223372036854775807)/\rdP a 1 len (l.flatMap λx=>[.int .i64 x]) (hl w):=
 b4g (λx:Int=>[.int .i64 x]) (λx=> -9223372036854775808<=x/\x<=9223372036854775807) Tryz.underlying35 (by kernel_rfl) (by decide) c0I h
end
end Go.Proofs.YtpakpgkdpofbhaaGreat
namespace Go.Proofs.YtpakpgkdpofbhaaGreat
open Go Go.RowKit
def rdA (a:Option Addr) (size n:Nat) (xs:List Value):Atom:= .hp ⟨rdP a size n xs,λ_ _ l s=>s.up l⟩
theorem a9P (a:Option Addr) (size n:Nat) (xs:List Value):Rd (rdA a size n xs) a size n xs:=λ_ s=>s
def Q9:Option (Nat×Nat)->Option Addr
 | some x=>some ⟨x.1,x.2,none⟩
 | none=>none
def a2n (a:Option (Nat×Nat)) (size h c:Nat):Option (Nat×Nat):=match a with
 | some y=>if c=h then some y else some (y.1,y.2+h*size)
 | none=>none
section
variable {P : Program} {T : Tab} {E : Env} {n : Nat} {ac : Act} {w : World}
theorem a2H (hT:TabOK P T) {o:Oper} {t e size:Nat} {x y:Operand} {k1 k2 t1 t2:Nat} {g1 g2:G} {a:Option (Nat×Nat)} {m c h:Nat} {kk:IntKind} {hI:Int} {s1 b1 b2:Nat} {z1 z2:List Value} {td:TD} (hop:o.op= .slice t x (some y) none none) (hx:ev E x=some ⟨k1, .slice (Q9 a) m c,t1,g1⟩) (hy:ev E y=some ⟨k2, .int kk hI,t2,g2⟩) (he:EnvOK n E ac) (v1:g1.on=true) (v2:g2.on=true)
  (ht:T.get t=some ⟨.slice e size,s1,z1,b1⟩) (hte:T.get e=some ⟨td,size,z2,b2⟩) (hhI:hI=(h:Int)) (hh:h<=m):
  (execOp ac.eval o).run P w= .ok (.value (.slice (Q9 (a2n a size h c)) (m-h) (c-h))) w:=by
 subst hhI;have e1:=B4 he hx;have e2:=B4 he hy;simp only[Slot.val,v1,v2]at e1 e2;obtain⟨d,f,zv,ok⟩:=A8 (hT.get ht);obtain⟨fe,rfl,g1,g2⟩:=ok.slice rfl;cases a with
 | none=>
  simp only[execOp,hop,B6,L8,e1,e2,Instr.sliceAt,Instr.slice,Instr.sliceBounds,Instr.sliceBound,asIntOf,Sem.run_bind,Sem.run_pure,Result.andThen_ok,s6 ok.hd,H9 g1,g2];simp[hh,Q9,a2n]
 | some ad=>
  by_cases hne:c=h
  ·simp only[execOp,hop,B6,L8,e1,e2,Instr.sliceAt,Instr.slice,Instr.sliceBounds,Instr.sliceBound,asIntOf,Sem.run_bind,Sem.run_pure,Result.andThen_ok,s6 ok.hd,H9 g1,g2];simp[hh,hne,Addr.add_none,Q9,a2n]
  ·simp only[execOp,hop,B6,L8,e1,e2,Instr.sliceAt,Instr.slice,Instr.sliceBounds,Instr.sliceBound,asIntOf,Sem.run_bind,Sem.run_pure,Result.andThen_ok,s6 ok.hd,H9 g1,g2];simp[hh,hne,Addr.add_none,Q9,a2n]
end
section
variable {X : Cx} {P : Program} {K : List KI} {E : Env} {L : List Atom} {N : Nat} {F : HP} {Post : Value → List Atom → Prop} {rs : List ResultVar} {T : Tab}
theorem J.appendRO (hX:IsCx X P rs N F Post) (hT:TabOK P T) {ops:Array Oper} {C:Cl} {lt:Bool} {i:Nat} {t:PT} {o:Oper} {x y:Operand} {st e size by_:Nat} {ks tgs:Nat} {gs:G} {a:Option Nat} {n cap:Nat} {xs:List Value} {ky tgy:Nat} {gy:G} {ay:Option (Nat×Nat)} {m cy:Nat} {cs:List Value} {s1 b1:Nat} {z1:List Value} {E':Value->Env} {Ay:Atom} (is iy:Nat) (hc0:ay=none->cy=0)
  (ho:I2 ops.toList i=some o) (hg:gd ops.toList E o=some .tt) (hop:o.op= .call ⟨.builtin .append,#[x,y],#[st,st]⟩)
  (hx:ev E x=some ⟨ks,slv a n cap,tgs,gs⟩) (hvx:gs.on=true) (hy:ev E y=some ⟨ky, .slice (Q9 ay) m cy,tgy,gy⟩) (hvy:gy.on=true)
  (hLs:I2 L is=some (n9 e size a n cap xs)) (hLy:I2 L iy=some Ay) (hrd:Rd Ay (Q9 ay) size m cs) (hst:T.get st=some ⟨.slice e size,s1,z1,b1⟩) {td:TD} {z:List Value} (he:T.get e=some ⟨td,size,z,by_⟩) (hz:Nat.beq z.length size=true)
  (hsz:Nat.blt 0 size=true) (h1:∀u∈cs,u.oneCell'=true) (h63:n+m<=maxLen) (hbytes:(n+m)*by_<=140737488355328)
  (hd:∀v,V3 N o.dst v 0 .tt E=some (E' v))
  (hJ:∀a' cap',∃L',S8 L is (n9 e size a' (n+m) cap' (xs++cs))=some L'/\Conj (K5 lt C L')/\J X (.reg ops C t::K) (E' (slv a' (n+m) cap')) L'):J X (.reg ops C (.alt lt i t .non)::K) E L:=by
 cases ay with
 | some b=>exact J.appendR hX hT (oo:=b.2) is iy 0 ho hg rfl hop hx hvx hy hvy hLs hLy hrd hst he hz hsz h1 h63 hbytes hd hJ
 | none=>
  obtain rfl:=hc0 rfl;rw[I1]at hLs hLy;refine J.know (p:=cs.length=m*size/\m=0) (λh s=>⟨(hrd _ (s.get hLy)).1,by
   rcases L7 m with h0 | h0
   ·exact h0
   ·obtain⟨_,_,_,_,_,e,_⟩:=(hrd _ (s.get hLy)).2 h0;cases e⟩) λhk=>?_
  obtain⟨q1,rfl⟩:=hk;have hcs:cs=[]:=l9 (by rw[q1,O2]);subst hcs;obtain⟨L',e1,e2,e3⟩:=hJ a cap;rw[Q3,y9]at e1;rw[Q3]at e3;have hL:L'=L:=by
   rw[R8 e1];apply t6;intro j;rw[s9];split
   ·rename_i e;subst e;split
    ·exact hLs.symm
    ·rename_i e4;rw[j9 (by omega)]
   ·rfl
  subst hL;exact J.val hX (slv a n cap) 0 ho hg (λ_ ac w hen hs=>a2T hT hop hx hvx hy hvy hen hst he (show a0B e size a n cap xs (hl w)from hs.get hLs)) (hd _) e2 e3
end
theorem a7i {e size:Nat} {a:Option Nat} {n cap:Nat} {xs:List Value} {h:Hl} (s:a0B e size a n cap xs h):a=none->cap=0:=λe=>by subst e;exact s.2.2
theorem a9O {a:Option (Nat×Nat)} {size n c h:Nat} {xs:List Value} {hh:Hl} (s:rdP (Q9 a) size n xs hh) (hn:h<=n) (hc:n<=c):rdP (Q9 (a2n a size h c)) size (n-h) (xs.drop (h*size)) hh:=by
 cases a with
 | none=>
  refine⟨by rw[B2,s.1,Nat.sub_mul],λh0=>?_⟩;obtain⟨b,o,_,_,_,e,_⟩:=s.2 (by omega);cases e
 | some y=>
  by_cases e:c=h
  ·refine⟨by rw[B2,s.1,Nat.sub_mul],λh0=>by omega⟩
  ·unfold a2n;simp only[g7 e];exact(a9P (some ⟨y.1,y.2,none⟩) size n xs).drop h hn _ s
theorem b4j {a:Option (Nat×Nat)} {size n:Nat} {xs:List Value} {h:Hl} (s:rdP (Q9 a) size n xs h) (hn:0<n):∃y,a=some y:=by
 cases a with
 | none=>obtain⟨_,_,_,_,_,e,_⟩:=s.2 hn;cases e
 | some y=>exact⟨y,rfl⟩
theorem b1P (L:List En):∀k,(p9 L).drop (k*19)=p9 (L.drop k):=by
 induction L with
 | nil=>intro k;simp[p9]
 | cons x l ih=>
  intro k;cases k with
  | zero=>simp
  | succ k=>
   have e1:p9 (x::l)=enL x++p9 l:=by simp[p9]
   rw[e1,a1l,<- ih k,show(k+1)*19=(enL x).length+k*19 from by show _=19+k*19;omega,<- A9,R7 rfl]
theorem b3c {a:Option (Nat×Nat)} {n c h:Nat} {L:List En} {hh:Hl} (s:rdP (Q9 a) 19 n (p9 L) hh) (hl:L.length=n) (hn:h<=n) (hc:n<=c):rdP (Q9 (a2n a 19 h c)) 19 (L.drop h).length (p9 (L.drop h)) hh:=by
 have:=a9O s hn hc
 rwa [b1P,<- hl,<- B2]at this
theorem a3H {a:Option (Nat×Nat)} {size h c:Nat} (hz:a=none->c=0):a2n a size h c=none->c-h=0:=by
 cases a with
 | none=>intro _;rw[hz rfl];omega
 | some y=>intro e;unfold a2n at e;simp only at e;split at e<;>cases e
theorem b1N (xs:List Int):(xs.flatMap λx=>[Value.int .i64 x])=y7 xs:=by
 induction xs with
 | nil=>rfl
 | cons x xs ih=>simp only[u0,ih];rfl
theorem a9X (n t l p:Nat) (S:Dv) (k mm:Nat) (A:Atom) (a:Option (Nat×Nat)) (m c:Nat) (es:List En) (hA:Rd A (Q9 a) 19 m (p9 es)) (hl:es.length=m) (hm:m<=1000000) (hc:m<=c) (ha:a=none->c=0) (hd:∀s∈es,s.data.length=16) (hO:S.Ok (Dv.costT*m+k) mm) (hmm:mm<=1000):
  FP 91 [pp n,pp t,pp l,pp p, .slice (Q9 a) m c] (DvP p n t l S++[A])
  (Ps (iI (S.torn es).2) (DvP p n t l (S.torn es).1++[A])):=by
 subst hl;refine FE [3,4,5,2,0] Tryz.func91 λX F hX=>?_;refine J.q λ_=>?_;refine J.l (α:=(Nat×Dv×List En×Option (Nat×Nat)×Nat)) (λz=>z.2.2.1.length<=z.1/\z.2.2.1.length<=z.2.2.2.2/\z.2.2.1.length<=1000000/\(z.2.2.2.1=none->z.2.2.2.2=0)/\Rd A (Q9 z.2.2.2.1) 19 z.2.2.1.length (p9 z.2.2.1)/\(∀s∈z.2.2.1,s.data.length=16)/\z.2.1.Ok (Dv.costT*z.1+k) mm/\Dv.tornGo z.1 z.2.1 z.2.2.1=S.torn es) (λz=>[sv 4 (.slice (Q9 z.2.2.2.1) z.2.2.1.length z.2.2.2.2),⟨0,pp n,3, .tt⟩,⟨1,pp t,4, .tt⟩,⟨2,pp l,5, .tt⟩,⟨3,pp p,2, .tt⟩]) [1,2,3,4] (λz=>DvP p n t l z.2.1) (λz=>z.1) ((es.length,S,es,a,c)) (⟨j7 _,hc,hm,ha,hA,hd,hO,rfl⟩) λz hI=>?_;obtain⟨j,Q,L,a',c'⟩:=z;dsimp only at hI ⊢;obtain⟨hj,hLc,hLm,ha',hAr,hLd,hQ,hw⟩:=hI;refine J.qd (λ_ h1=>?_) λ_ h1=>?_
 ·simp only[d7]at h1;have hL0:L.length≠0:=by omega
  obtain⟨j,rfl⟩:∃i,j=i+1:=⟨j-1,by omega⟩;rw[Dv.tornGo,g7 hL0]at hw;dsimp only at hw;have hQ1:Q.Ok (Dv.costM+(8*Dv.fuel+(Dv.costT*j+k))) mm:=hQ.less (by unfold Dv.costT Dv.cost;rw[E9];omega);have hr:=Dv.room_keep hQ1;refine J.qp (a4t n t l p Q _ mm hQ1 hmm) [1,2,3,4] λ_=>?_;generalize Q.room=W at hw hr ⊢;obtain⟨P,er⟩:=W;dsimp only at hw hr ⊢;refine J.qd (λ_ h2=>?_) λ_ h2=>?_
  ·simp only[D4,H3]at h2;rw[i3 h2]at hw;refine J.qr [1,2,3,4,5] λ_=>?_;rw[<- hw];exact⟨rfl,rfl⟩
  simp only[x8]at h2;rw[g7 (by rw[h2];decide)]at hw;have htook:=λh0=>Dv.pen_took hr.1 hLd h0 hL0;have hkeep:=Dv.pen_keep hr.1 hLd;refine J.qp (a3i p n t l P _ mm hr.1 A (Q9 a') L.length c' L hAr rfl hLm hLd) [1,2,3,4,5] λ_=>?_;have hpb:0<=(P.pen L).2.1/\(P.pen L).2.1<=7:=a4k _ _ _;generalize P.pen L=W at hw htook hkeep hpb ⊢;obtain⟨P',nn,er2⟩:=W;dsimp only at hw htook hkeep hpb ⊢;refine J.qd (λ_ h3=>?_) λ_ h3=>?_
  ·simp only[D4,H3]at h3;rw[i3 h3]at hw;refine J.qr [1,2,3,4,5] λ_=>?_;rw[<- hw];exact⟨rfl,rfl⟩
  simp only[x8]at h3;rw[g7 (by rw[h3];decide)]at hw;have htk:=htook h3;obtain⟨v,rfl⟩:=i6 hpb.1;have hvL:v<=L.length:=by have:=htk.2.1;omega
  rw[j4]at hw;refine J.qn 4 λ_=>?_;refine J.v (.slice (Q9 (a2n a' 19 v c')) (L.length-v) (c'-v)) rfl rfl (λhg aa w he hw=>a2H tk rfl rfl rfl he rfl rfl rfl rfl rfl hvL) ?_;rw[show L.length-v=(L.drop v).length from by rw[B2]];refine J.q λ_=>?_;refine J.n ((j,P',L.drop v,a2n a' 19 v c',c'-v)) (⟨by dsimp only;rw[B2];omega,by dsimp only;rw[B2];omega,by dsimp only;rw[B2];omega,a3H ha',λh s=>b3c (hAr h s) rfl hvL hLc,λs hs=>hLd s (O1 hs),hkeep.1,hw⟩) (by dsimp only;omega) [0,1,2,3,4,5]
 ·simp only[c9]at h1;have hL0:L.length=0:=by omega
  have hz:Dv.tornGo j Q L=(Q,0):=by
   cases j with
   | zero=>rfl
   | succ j=>rw[Dv.tornGo,i3 hL0]
  refine J.qr [1,2,3,4,5] λ_=>?_;rw[<- hw,hz];exact⟨rfl,rfl⟩
theorem a5h (x:Int):Value.int .u8 (IntKind.u8.wrap x)=bv (u8 x):=by
 have h:IntKind.u8.wrap x=x % 256:=by simp[IntKind.wrap,IntKind.bits,IntKind.signed]
 rw[h,bv,u8];congr 1;have h1:0<=x % 256/\x % 256<256:=⟨a1K _ (by decide),a0s _ (by decide)⟩;have h2:(UInt8.ofNat (x % 256).toNat).toNat=(x % 256).toNat:=by
  rw[a4X];omega
 rw[h2];omega
def e18 (k s:Int):En:=⟨k,s,1,[u8 k,u8 s,u8 (s/256),7,0,0,0,0,0,0,0,0,0,0,0,0]⟩
theorem a2h (k s:Int):FP 212 [iI k,iI s] [] (Ps (enV (e18 k s)) []):=by
 refine FE [0,0] Tryz.func212 λX F hX=>?_;refine J.qn 9 λ_=>?_;refine J.v (bv (u8 k)) rfl rfl (λhg a w he hs=>by rw[<- a5h k];exact X6 tk rfl rfl he rfl rfl rfl) ?_;refine J.qn 1 λ_=>?_;refine J.v (bv (u8 s)) rfl rfl (λhg a w he hs=>by rw[<- a5h s];exact X6 tk rfl rfl he rfl rfl rfl) ?_;refine J.qn 2 λ_=>?_;rw[show s.fdiv (2^min (Int.toNat 8) IntKind.i64.bits)=s/256 from Int.fdiv_eq_ediv_of_nonneg s (by decide:(0:Int)<=256)];refine J.v (bv (u8 (s/256))) rfl rfl (λhg a w he hs=>by rw[<- a5h (s/256)];exact X6 tk rfl rfl he rfl rfl rfl) ?_;exact J.qx []
def Dv.new (d b p:Nat) (lg:Int):Dv:=⟨Nand.new d b p,Tl.new d b p,Tb.new lg,-1,0,0,1⟩
theorem c0M (d b p:Nat) (h:M7 d b p=true) (k:Nat) (hk:k<=1000000000000000):(Nand.new d b p).Gd k 0:=by
 have h0:=Nand.Gd.new d b p h 0 (by omega);refine⟨h0.ok,?_,?_,h0.nodup,h0.few⟩
 ·show(0:Int)+(k:Int)<_;omega
 ·show(0:Int)+(k:Int)<_;omega
theorem Dv.Ok.new (d b p:Nat) (lg:Int) (h:M7 d b p=true) (k:Nat) (hk:k<=1000000000000000):(Dv.new d b p lg).Ok k 0:=
 ⟨c0M d b p h k hk,⟨rfl,rfl,rfl,by show(List.replicate b Sb.zero).length=b;simp⟩,Tb.Ok.new lg,λx hx=>by simp[Dv.new,Tb.new]at hx,by show(0:Int)<=0/\(0:Int)<=8;omega,by show(1:Int)<=1/\(1:Int)<=1099511627776;omega⟩
theorem b4r (d b p:Nat) (h:M7 d b p=true) (lg:Int):FP 211 [.agg #[iI d,iI b,iI p],iI lg] []
  (λv As=>∃n t l q,v= .tuple #[pp n,pp t,pp l,pp q]/\As=DvP q n t l (Dv.new d b p lg)):=by
 refine FE [0,0] Tryz.func211 λX F hX=>?_;refine J.qc (a7n d b p h) [] λ_=>?_;rintro v As ⟨n,rfl,rfl⟩;refine⟨_,rfl,trivial,?_⟩;refine J.qc (b2a d b p h) [] λ_=>?_;rintro v As ⟨t,rfl,rfl⟩;refine⟨_,rfl,trivial,?_⟩;refine J.qc (b2c lg) [] λ_=>?_;rintro v As ⟨l,rfl,rfl⟩;refine⟨_,rfl,trivial,?_⟩;refine J.qc (b6h n t l 1 (by decide) (Nand.new d b p) (Tl.new d b p) (Tb.new lg)) [] λ_=>?_;rintro v As ⟨q,rfl,rfl⟩;refine⟨_,rfl,trivial,?_⟩;refine J.qr [5,2,3,4] λ_=>?_;exact⟨n,t,l,q,rfl,rfl⟩
namespace Inv
variable {fd : Int} {S : Dv} {k m : Nat}
theorem free_iff (h:Inv fd S) (hO:S.Ok k m) {b:Int} (hb:S.t.has b=true):R3 S.t S.T b=S.t.blank b/\(S.t.blank b=true->(b !=S.op)=true):=by
 have hu:=h.usable hO hb;unfold R3;rw[hu,s7];have hop:S.t.blank b=true->(b !=S.op)=true:=λhbl=>by
  simp only[Tl.blank,i4,i7]at hbl;rw[D4];intro e;rcases h.op with e2 | e2
  ·have:=(Tl.has_iff.1 hb).1;omega
  ·have:=e2.used;rw[<- e,hbl.2]at this;cases this
 refine⟨?_,hop⟩;cases hbl:S.t.blank b with
 | false=>rfl
 | true=>
  rw[s7,y6];simp only[Tl.blank,i4,i7]at hbl;rw[hO.T.cnt];unfold Tb.cntB;have:(S.T.at_.countP λx=>x.2.block==b)=0:=by
   rw[a4i];intro x hx hxb;simp only[y6]at hxb;have hlk:Tb.look S.T.at_ x.1=some x.2:=a4C hO.T hx;have:=(h.st _ _ hlk).used;rw[hxb,hbl.2]at this;cases this
  rw[this];rfl
end Inv
theorem b2k (N:Nand) (d b r:Int):N.pageAt d b r=N.pageAt (d.toNat:Int) b r:=by unfold Nand.pageAt;rw[j4]
theorem Inv.went1 {fd:Int} {S:Dv} {k m:Nat} (h:Inv fd S) (hO:S.Ok k m) (hl:S.at1.left=true):Went fd S S.at1 0:=by
 unfold Dv.at1 at hl ⊢;split
 ·exact Went.refl h
 ·rename_i hh;rw[g7 hh]at hl;have hf:S.left=false:=by simpa using hh
  have:=(Dv.left_spec hl).1;exact(h.opens hO hf (by show¬S.pick<0;have:0<=S.pick:=this;omega)).1
namespace Inv
variable {fd : Int} {S : Dv} {k m : Nat} {l : List En}
theorem full (h:Inv fd S) (hO:S.Ok k m) (hr:S.rows=0):S.left=false/\S.pick<0:=by
 have hg:=hO.gd.ok.bd16;unfold Dv.rows at hr;have h1:S.N.pages*S.t.blanks=0:=by omega
 have h2:S.t.blanks=0:=by
  rcases Nat.mul_eq_zero.1 h1 with e | e
  ·omega
  ·exact e
 refine⟨?_,?_⟩
 ·cases hl:S.left with
  | false=>rfl
  | true=>
   have:=Dv.left_spec hl;rw[i3 (by omega)]at hr;omega
 ·refine H4 λhp=>?_;have:=Tl.blanks_open hO.t.len (Dv.pick_blank hp);omega
end Inv
namespace Tb
theorem put1_keys2 {α β:Type} (k:Int) (v:α) (v':β):∀(l:List (Int×α)) (l':List (Int×β)),l.map (·.1)=l'.map (·.1)->(put1 l k v).map (·.1)=(put1 l' k v').map (·.1)
 | [],[],_=>rfl
 | [],y::l',h=>by cases h
 | x::l,[],h=>by cases h
 | x::l,y::l',h=>by
  simp only[o0,X9]at h;simp only[put1];rw[h.1];split
  ·simp only[o0,h.2]
  ·simp only[o0,h.1,put1_keys2 k v v' l l' h.2]
end Tb
def a0Z (W:List (Int×En)) (l:List En) (n:Nat):List (Int×En):=(List.range n).foldl (λW (i:Nat)=>Tb.put1 W (l.getD i En.zero).lpn (l.getD i En.zero)) W
theorem a1j (W:List (Int×En)) (l:List En) (n:Nat):a0Z W l (n+1)=Tb.put1 (a0Z W l n) (l.getD n En.zero).lpn (l.getD n En.zero):=by unfold a0Z;rw[x6,A7];rfl
theorem a0A {W:List (Int×En)} {l:List En}:∀n:Nat,(∀i j,i<j->j<n->(l.getD i En.zero).lpn≠(l.getD j En.zero).lpn)->(∀j,j<n->Tb.look (a0Z W l n) (l.getD j En.zero).lpn=some (l.getD j En.zero))/\∀i,(∀j,j<n->(l.getD j En.zero).lpn≠i)->Tb.look (a0Z W l n) i=Tb.look W i
 | 0,_=>⟨λj hj=>by omega,λi _=>rfl⟩
 | n+1,h=>by
  obtain⟨i1,i2⟩:=a0A (W:=W) n λi j hij hj=>h i j hij (by omega);rw[a1j];refine⟨λj hj=>?_,λi hi=>?_⟩
  ·rw[Tb.look_put1]
   by_cases e:j=n
   ·subst e;rw[i3 rfl]
   ·rw[g7 (h j n (by omega) (by omega))];exact i1 j (by omega)
  ·rw[Tb.look_put1,g7 (λe=>hi n (by omega) e.symm)];exact i2 i λj hj=>hi j (by omega)
structure Hd (S:Dv) (W:List (Int×En)):Prop where
 keys:S.T.at_.map (·.1)=W.map (·.1)
 each:∀i e,Tb.look W i=some e->e.data.length=16/\∃a,Tb.look S.T.at_ i=some a/\R.read S.N a.block a.row a.slot a.mask=({e with seq:=a.seq},0)
namespace Hd
variable {fd : Int} {S Q : Dv} {W : List (Int × En)} {k m : Nat} {l : List En}
theorem went (h:Hd S W) (hi:Inv fd S) {β:Nat} (w:Went fd S Q β):Hd Q W:=by
 refine⟨by rw[w.T];exact h.keys,λi e he=>?_⟩;obtain⟨h1,a,h2,h3⟩:=h.each i e he;exact⟨h1,a,by rw[w.T];exact h2,by rw[w.reads i a (hi.st i a h2)];exact h3⟩
theorem none (h:Hd S W) {i:Int} (hi:Tb.look W i= .none):Tb.look S.T.at_ i= .none:=by
 rw[Tb.look_none]at hi ⊢;rw[h.keys];exact hi
theorem wrote (h:Hd Q W) (hQ:Inv fd Q) (hO:Q.Ok k m) (hl:Last fd Q l) (hf:∀e∈l,FitR e) (hlg:∀e∈l,e.lpn<Q.T.logical) (hnd:(l.map (·.lpn)).Nodup):Hd (M6 Q l) (a0Z W l (Q.fit l)):=by
 obtain⟨l1,l2⟩:=hl.look hQ hO hf hlg hnd;have hes:=λj (hj:j<Q.fit l)=>hl.seqs hO hj;have hdis:∀i j,i<j->j<Q.fit l->(l.getD i En.zero).lpn≠(l.getD j En.zero).lpn:=λi j hij hj e=>by
  have g1:=(hes j hj).1;have g2:=(hes i (by omega)).1;have:(l.map (·.lpn))[i]? =(l.map (·.lpn))[j]?:=by
   rw[j5,j5,d6 g1,d6 g2];rw[f9,f9,d6 g1,d6 g2]at e;exact congrArg some e
  have:=(R5 (by rw[n5];exact g2) hnd).1 this;omega
 obtain⟨w1,w2⟩:=a0A (W:=W) (l:=l) (Q.fit l) hdis;refine⟨?_,λi e he=>?_⟩
 ·have key:∀n,n<=Q.fit l->(Dv.puts Q.T Q.op Q.row Q.mask (Q.es l) n).at_.map (·.1)=(a0Z W l n).map (·.1):=by
   intro n
   induction n with
   | zero=>intro _;exact h.keys
   | succ n ih=>
    intro hn;have hb:=(hes n (by omega));have hin:=X3 hb.1;have hfe:=hf _ hin;have hl2:Tb.look (Dv.puts Q.T Q.op Q.row Q.mask (Q.es l) n).at_ (l.getD n En.zero).lpn=Tb.look Q.T.at_ (l.getD n En.zero).lpn:=by
     have hp:=(a5n (T:=Q.T) (b:=Q.op) (r:=Q.row) (mk:=Q.mask) (es:=Q.es l) n (λj hj=>?_) (λj hj a ha=>?_) (λi j hij hj=>?_)).2
     ·refine hp _ λj hj=>?_;rw[(hes j (by omega)).2.1];exact hdis j n hj (by omega)
     ·rw[(hes j (by omega)).2.1];have hfe:=hf _ (X3 (hes j (by omega)).1);have:=hlg _ (X3 (hes j (by omega)).1);unfold Tb.ok;have e1:decide (({l.getD j En.zero with seq:=Q.next+(j:Int)}:En).lpn<0)=false:=s8 (by have:=hfe.lpn;show¬(l.getD j En.zero).lpn<0;omega);have e2:decide (({l.getD j En.zero with seq:=Q.next+(j:Int)}:En).lpn>=Q.T.logical)=false:=s8 (by show¬(l.getD j En.zero).lpn>=Q.T.logical;omega);rw[e1,e2];show(!(false||false||((l.getD j En.zero).role !=1&&(l.getD j En.zero).role !=2&&(l.getD j En.zero).role !=4)))=true;rcases hfe.role with e | ⟨e | e,_⟩<;>rw[e]<;>rfl
     ·rw[(hes j (by omega)).2.1]at ha ⊢;have:=(hQ.st _ a ha).seq;show a.seq<=Q.next+(j:Int);omega
     ·rw[(hes j (by omega)).2.1,(hes i (by omega)).2.1];exact hdis i j hij (by omega)
    have hp:Tb.putB (Dv.puts Q.T Q.op Q.row Q.mask (Q.es l) n) ((Q.es l).getD n En.zero)=true:=by
     have hlog:∀n,(Dv.puts Q.T Q.op Q.row Q.mask (Q.es l) n).logical=Q.T.logical:=by
      intro n
      induction n with
      | zero=>rfl
      | succ n ih=>rw[Dv.puts_succ,Tb.put_logical];exact ih
     rw[hb.2.1];have:=hlg _ hin;have e1:Tb.ok (Dv.puts Q.T Q.op Q.row Q.mask (Q.es l) n) ({l.getD n En.zero with seq:=Q.next+(n:Int)}:En)=true:=by
      unfold Tb.ok;rw[hlog];have e1:decide (({l.getD n En.zero with seq:=Q.next+(n:Int)}:En).lpn<0)=false:=s8 (by have:=hfe.lpn;show¬(l.getD n En.zero).lpn<0;omega);have e2:decide (({l.getD n En.zero with seq:=Q.next+(n:Int)}:En).lpn>=Q.T.logical)=false:=s8 (by show¬(l.getD n En.zero).lpn>=Q.T.logical;omega);rw[e1,e2];show(!(false||false||((l.getD n En.zero).role !=1&&(l.getD n En.zero).role !=2&&(l.getD n En.zero).role !=4)))=true;rcases hfe.role with e | ⟨e | e,_⟩<;>rw[e]<;>rfl
     have e2:Tb.elder (Dv.puts Q.T Q.op Q.row Q.mask (Q.es l) n) ({l.getD n En.zero with seq:=Q.next+(n:Int)}:En)=false:=by
      unfold Tb.elder;rw[show({l.getD n En.zero with seq:=Q.next+(n:Int)}:En).lpn=(l.getD n En.zero).lpn from rfl,hl2];cases hh:Tb.look Q.T.at_ (l.getD n En.zero).lpn with
      | none=>rfl
      | some a=>have:=(hQ.st _ a hh).seq;exact s8 (by show¬(Q.next+(n:Int))<a.seq;omega)
     unfold Tb.putB;rw[e1,e2];rfl
    rw[Dv.puts_succ,a1j];unfold Tb.put;rw[i3 hp];show(Tb.put1 _ _ _).map (·.1)=_;rw[hb.2.1];exact Tb.put1_keys2 _ _ _ _ _ (ih (by omega))
  exact key _ (j7 _)
 ·by_cases hex:∃j,j<Q.fit l/\(l.getD j En.zero).lpn=i
  ·obtain⟨j,hj,rfl⟩:=hex;rw[w1 j hj]at he;injection he with he;subst he;refine⟨(hf _ (X3 (hes j hj).1)).len,_,l1 j hj,?_⟩;exact hl.reads hQ hO hj
  ·have hno:∀j,j<Q.fit l->(l.getD j En.zero).lpn≠i:=λj hj e=>hex ⟨j,hj,e⟩;rw[w2 i hno]at he;obtain⟨h1,a,h2,h3⟩:=h.each i e he;refine⟨h1,a,by rw[l2 i hno];exact h2,?_⟩;rw[hl.stay hQ hO hf (hQ.st i a h2)];exact h3
end Hd
theorem b3X (D B P:Nat) (lg:Int):(Dv.new D B P lg).rows=P*B:=by
 unfold Dv.rows;have e1:(Dv.new D B P lg).op= -1:=rfl;have e2:(Dv.new D B P lg).t.blanks=B:=by
  show(List.replicate B Sb.zero).countP _=B;rw[List.countP_replicate];rfl
 have e3:(Dv.new D B P lg).N.pages=P:=rfl;rw[e1,e2,e3,g7 (by decide)];omega
def FreshP (S:Dv) (b r:Int):Prop:=(b=S.op/\S.row<=r)\/(S.t.has b=true/\(S.t.at_ b).used=false)
namespace Dv
theorem loses_used {S:Dv} {f:Int} (hF:S.t.Fit S.N) (h8:S.t.d<=8) (hs:L.set S.t.dead=true) (b:Int) (hb:S.t.has b=true):((S.loses f).t.at_ b).used=(S.t.at_ b).used/\(S.loses f).t.has b=true:=by
 have h:=loses_sb (f:=f) (List.range S.N.dies) S hF h8 hs;exact⟨(h.2.1 b hb).2.2,(h.1 b).trans hb⟩
end Dv
namespace Inv
variable {fd : Int} {S : Dv} {k m : Nat} {l : List En}
theorem write_op:∀(f:Nat) (S:Dv) (k:Nat),Inv fd S->S.Ok (8*f+k) m->(∀e∈l,FitR e)->S.next+7*(f:Int)<=1099511627775->0<(Dv.write f S l).2.1->
  FreshP S (Dv.write f S l).1.op ((Dv.write f S l).1.row-1)
 | 0,S,k,_,_,_,_,h0=>by exact absurd h0 (by show¬(0:Int)<0;omega)
 | f+1,S,k,h,hO,hf,hnx,h0=>by
  have hd:∀s∈l,s.data.length=16:=λe he=>(hf e he).len;have hg:=hO.gd.ok.bd16;rw[Dv.write_succ]at h0 ⊢
  by_cases hl0:l.length=0
  ·rw[i3 hl0]at h0;exact absurd h0 (by show¬(0:Int)<0;omega)
  rw[g7 hl0]at h0 ⊢
  by_cases hns:S.left=false/\S.pick<0
  ·rw[i3 hns]at h0;exact absurd h0 (by show¬(0:Int)<0;omega)
  rw[g7 hns]at h0 ⊢;have hl:S.at1.left=true:=Dv.at1_left' hO hns;have w1:=h.went1 hO hl;have hQO:=hO.at1;have hfit:=Dv.fit_le S.at1 l;have hn:¬S.at1.next>1099511627775-(S.at1.fit l:Int)+1:=by rw[(Dv.at1_like S).2.2];omega
  have ht:=w1.inv.turn hQO hl hf hn;rw[g7 hn]at h0 ⊢
  --where the one that is open stands
  have hat:FreshP S S.at1.op S.at1.row/\∀b,S.t.has b=true->(S.at1.t.at_ b).used=false->(S.t.at_ b).used=false:=by
   unfold Dv.at1;split
   ·exact⟨.inl ⟨rfl,V6 _⟩,λ_ _ h=>h⟩
   ·rename_i hh;have hlf:S.left=false:=by simpa using hh
    have hp:¬S.pick<0:=λe=>hns ⟨hlf,e⟩;rcases S.pick_spec with e | ⟨p1,p2,_,_⟩
    ·omega
    ·have hhas:S.t.has S.pick=true:=Tl.has_iff.2 ⟨p1,p2⟩;have hbl:=Dv.pick_blank hp;have hunu:(S.t.at_ S.pick).used=false:=by simp only[Tl.blank,i4,i7]at hbl;exact hbl.2
     refine⟨.inr ⟨hhas,hunu⟩,λb hb hu=>?_⟩;have hu:((S.t.clean S.pick false).at_ b).used=false:=hu;unfold Tl.clean at hu;rw[Tl.at_set hO.t.len _ hhas hb]at hu;split at hu
     ·cases hu
     ·exact hu
  have hhas1:∀b,S.at1.t.has b=S.t.has b:=has_same hO.t hQO.t w1.like
  by_cases he:(S.at1.wr l).2.1=0
  ·have herr:=ht.err;rw[i3 he]at herr;rw[g7 (by rw[herr];decide),i3 herr];show FreshP S S.at1.op (S.at1.row+1-1);rw[show S.at1.row+1-1=S.at1.row from by omega];exact hat.1
  ·have herr:=ht.err;rw[g7 he]at herr;rw[g7 (by rw[herr];decide),g7 (by rw[herr];decide),g7 (by rw[herr];decide)]at h0 ⊢;have hQO8:S.at1.Ok (8+(8*f+k)) m:=hQO.less (by omega);obtain⟨b1,_,_,b4,b5,_⟩:=w1.inv.burn hQO8 hl hf hn he;have hWO:=(hQO8.wrote hd (Dv.left_spec hl).2.1 hn).loses (S.at1.wr l).2.1;have hWt:=(hQO8.wrote hd (Dv.left_spec hl).2.1 hn).t;have hus:=λb hb=>Dv.loses_used (S:=S.at1.wrote l) (f:=(S.at1.wr l).2.1) hWt (by have:=hQO.t.d;have:=hQO.gd.ok.bd16;show S.at1.t.d<=8;omega) w1.inv.tdead.1 b hb;have hnx2:=b1.next;have hnx1:=(Dv.at1_like S).2.2;have ih:=write_op f _ k b1.inv hWO hf (by rw[hnx1]at hnx2;omega) h0;rcases ih with⟨e1,e2⟩ | ⟨e1,e2⟩
   ·rw[b5]at e1;rw[b4]at e2;rw[e1];rcases hat.1 with⟨x1,x2⟩ | x
    ·exact .inl ⟨x1,by omega⟩
    ·exact .inr x
   ·right;have hh:S.t.has (Dv.write f ((S.at1.wrote l).loses (S.at1.wr l).2.1) l).1.op=true:=by
     rw[<- hhas1];have:=Dv.loses_sb (f:=(S.at1.wr l).2.1) (List.range (S.at1.wrote l).N.dies) (S.at1.wrote l) hWt (by have:=hQO.t.d;have:=hQO.gd.ok.bd16;show S.at1.t.d<=8;omega) w1.inv.tdead.1;have e1:(((List.range (S.at1.wrote l).N.dies).foldl (Dv.lose (S.at1.wr l).2.1) (S.at1.wrote l)).t).has _=true:=e1;rw[this.1]at e1;exact e1
    refine⟨hh,hat.2 _ hh ?_⟩;have:=(hus _ (show(S.at1.wrote l).t.has _=true by show S.at1.t.has _=true;rw[hhas1];exact hh)).1;rw[e2]at this;exact this.symm
end Inv
def WOk (W:List (Int×En)):Prop:=∀i e,Tb.look W i=some e->e.lpn=i/\FitR e
namespace Hd
variable {S : Dv} {W : List (Int × En)}
theorem rd (h:Hd S W) (hW:WOk W) {i:Int} {e:En} (he:Tb.look W i=some e):∃sq,S.rd i=({e with seq:=sq},0):=by
 obtain⟨_,a,h2,h3⟩:=h.each i e he;refine⟨a.seq,?_⟩;unfold Dv.rd;rw[h2];dsimp only;rw[j6,h3];dsimp only;rw[g7 (by decide),g7];rintro(x | x | x)
 ·exact x rfl
 ·exact x (hW i e he).1
 ·exact x rfl
theorem rds (h:Hd S W) (hW:WOk W):∀L:List Int,(∀i∈L,(Tb.look W i).isSome=true)->∃E:List En,S.rds L=(E,0)/\E.length=L.length/\E.map (·.lpn)=L/\(∀e∈E,FitR e)/\∀j,j<L.length->∃e sq,Tb.look W (E.getD j En.zero).lpn=some e/\E.getD j En.zero={e with seq:=sq}
 | [],_=>⟨[],rfl,rfl,rfl,λ_ h=>(by cases h),λj hj=>by simp at hj⟩
 | i::L,hL=>by
  obtain⟨E,e1,e2,e3,e4,e5⟩:=rds h hW L λx hx=>hL x (by simp[hx]);obtain⟨e,he⟩:=Option.isSome_iff_exists.1 (hL i (by simp));obtain⟨sq,hr⟩:=h.rd hW he;have hw:=hW i e he;refine⟨{e with seq:=sq}::E,?_,by simp[e2],by simp[e3,hw.1],λx hx=>?_,λj hj=>?_⟩
  ·rw[Dv.rds,hr,g7 (by simp),e1]
  ·rcases List.mem_cons.1 hx with rfl | hx
   ·exact⟨hw.2.lpn,hw.2.role,hw.2.len⟩
   ·exact e4 x hx
  ·cases j with
   | zero=>exact⟨e,sq,by show Tb.look W e.lpn=_;rw[hw.1];exact he,rfl⟩
   | succ j=>exact e5 j (by simpa using hj)
theorem swap {E:List En} {n:Nat} (h:Hd S (a0Z W E n)) (hE:∀j,j<n->∃e sq,Tb.look W (E.getD j En.zero).lpn=some e/\E.getD j En.zero={e with seq:=sq}) (hd:∀i j,i<j->j<n->(E.getD i En.zero).lpn≠(E.getD j En.zero).lpn):Hd S W:=by
 obtain⟨w1,w2⟩:=a0A (W:=W) (l:=E) n hd;refine⟨?_,λi e he=>?_⟩
 ·rw[h.keys];clear h w1 w2
  induction n with
  | zero=>rfl
  | succ n ih=>
   rw[a1j];have hk:=(a0A (W:=W) (l:=E) n λi j hij hj=>hd i j hij (by omega)).2 (E.getD n En.zero).lpn λj hj=>hd j n hj (by omega);obtain⟨e,sq,h1,_⟩:=hE n (by omega);rw[<- ih (λj hj=>hE j (by omega)) (λi j hij hj=>hd i j hij (by omega))];refine Tb.put1_keys (by rw[hk,h1];simp)
 ·by_cases hex:∃j,j<n/\(E.getD j En.zero).lpn=i
  ·obtain⟨j,hj,rfl⟩:=hex;obtain⟨e',sq,h1,h2⟩:=hE j hj;rw[he]at h1;injection h1 with h1;obtain⟨g1,a,g2,g3⟩:=h.each _ _ (w1 j hj);rw[h2]at g1 g3;subst h1;exact⟨g1,a,g2,g3⟩
  ·exact h.each i e (by rw[w2 i λj hj hh=>hex ⟨j,hj,hh⟩];exact he)
end Hd
inductive Hot2 (fd:Int) (S:Dv):Nat->Prop
 | calm:NoF S->Hot2 fd S 0
 | cold:L.has S.t.dead fd=true->L.has S.mask fd=false->Hot2 fd S 0
 | once:L.has S.t.dead fd=true->Hot2 fd S 1
 | brn {β:Nat}:Brn fd S β->Hot2 fd S β
 | dead:0<=fd->S.N.dead.getD fd.toNat false=true->Hot2 fd S 1
 | ers:Ers fd S->Hot2 fd S 0
theorem Hot2.hot {fd:Int} {S:Dv} {β:Nat} (h:Hot2 fd S β):Hot fd S β:=by
 cases h with
 | calm h=>exact .calm h
 | cold h1 h2=>exact .cold h1 h2
 | once h=>exact .once h
 | brn h=>exact .brn h
 | dead _ h=>exact .dead h
 | ers h=>exact .ers h
structure Pnd (fd:Int) (S:Dv) (E:List En) (V:Dv) (n γ:Nat):Prop where
 inv:Inv fd V
 n1:n<=E.length
 n2:min E.length (S.N.dies-2)<=n
 n3:1<=n
 rows:V.rows+1+γ=S.rows
 pos:∀j,j<n->∃a,Tb.look V.T.at_ (E.getD j En.zero).lpn=some a/\FreshP S a.block a.row/\∀d:Nat,S.N.dead.getD d false=true->L.has a.mask (d:Nat)=false
 rest:∀i,(∀j,j<n->(E.getD j En.zero).lpn≠i)->Tb.look V.T.at_ i=Tb.look S.T.at_ i
 logical:V.T.logical=S.T.logical
 next:S.next<=V.next/\V.next<=S.next+21
 dead:V.N.dead=S.N.dead
 broken:V.N.broken=S.N.broken
 like:S.N.Like V.N
 plan:∀a∈V.N.plan,a∈S.N.plan
 flags:∀i j,(V.N.blk i j).met=(S.N.blk i j).met/\(V.N.blk i j).fails=(S.N.blk i j).fails
 has:∀b,V.t.has b=S.t.has b
 sb:∀b,S.t.has b=true->(V.t.at_ b).held=(S.t.at_ b).held/\((S.t.at_ b).used=true->(V.t.at_ b).used=true)
 td:∀d:Int,L.has S.t.dead d=true->L.has V.t.dead d=true
 fresh:FreshP S V.op (V.row-1)
 hot:∀β,Hot2 fd S β->γ<=β/\Hot2 fd V (β-γ)
 mask:L.has S.t.dead fd=true->L.has S.mask fd=false->L.has V.mask fd=false
theorem Inv.pen_step {fd:Int} {S:Dv} {k m β:Nat} {E:List En} {W:List (Int×En)} (h:Inv fd S) (hO:S.Ok (8*Dv.fuel+k) m) (hH:Hot2 fd S β) (hr:β<S.rows) (hf:∀e∈E,FitR e) (hl0:E.length≠0) (hnd:(E.map (·.lpn)).Nodup) (hlg:∀e∈E,e.lpn<S.T.logical) (hnx:S.next<=1099511627775-1200) (hW:Hd S W):
  ∃(V:Dv) (n γ:Nat),S.pen E=(V,(n:Int),(0:Int))/\Pnd fd S E V n γ/\V.Ok k m/\Hd V (a0Z W E n):=by
 obtain⟨β0,hβ0,hβ,hH0⟩:∃β0,β0<=β/\β0<=2/\Hot fd S β0:=by
  cases hH with
  | calm h=>exact⟨0,j7 _,by omega, .calm h⟩
  | cold h1 h2=>exact⟨0,j7 _,by omega, .cold h1 h2⟩
  | once h=>exact⟨1,j7 _,by omega, .once h⟩
  | dead _ h=>exact⟨1,j7 _,by omega, .dead h⟩
  | ers h=>exact⟨0,j7 _,by omega, .ers h⟩
  | brn h=>
   by_cases h2:β<=2
   ·exact⟨β,j7 _,h2, .brn h⟩
   ·exact⟨2,by omega,j7 _, .any⟩
 have hg:=hO.gd.ok.bd16;obtain⟨γ,Q,w1,w2,w3,w4,w5,w6,w7,w8,w9,w10,w11⟩:=h.write_go (l:=E) β0 (159-β0) S k (m:=m) (by rw[show 159-β0+β0+1=Dv.fuel from by unfold Dv.fuel;omega];exact hO) hH0 (by omega) hf hl0 (by omega);rw[show 159-β0+β0+1=Dv.fuel from by unfold Dv.fuel;omega]at w5;have hpen:S.pen E=(M6 Q E,(Q.fit E:Int),(0:Int)):=w5;have hok:=(Dv.pen_keep hO λe he=>(hf e he).len).1;rw[hpen]at hok;have hqo:=w4.opn w2.inv;have hms:=hqo.mask.pos (show 3<=Q.N.dies/\Q.N.dies<=6 by rw[w2.like.dies];exact hg.1);have hdQ:Q.N.dies=S.N.dies:=w2.like.dies;rw[hdQ]at hms;have hfit:min E.length (S.N.dies-2)<=Q.fit E/\Q.fit E<=E.length/\1<=Q.fit E/\Q.fit E<=7:=by
  have:=Dv.fit_le Q E;unfold Dv.fit at this ⊢;omega
 have hfr:=h.write_op (l:=E) Dv.fuel S k hO hf (by unfold Dv.fuel;omega) (by show 0<(S.pen E).2.1;rw[hpen];show(0:Int)<(Q.fit E:Int);omega);have hfr:FreshP S (S.pen E).1.op ((S.pen E).1.row-1):=hfr;rw[hpen]at hfr;obtain⟨l1,l2⟩:=w4.look w2.inv w3 hf (λe he=>by rw[w2.T];exact hlg e he) hnd;have hHd:=(hW.went h w2).wrote w2.inv w3 w4 hf (λe he=>by rw[w2.T];exact hlg e he) hnd;have hrows:=w4.rows w2.inv;have hrw:=w2.rows;have hnext:=w2.next;have ht:=w4.turn;have hmk:∀d:Nat,S.N.dead.getD d false=true->L.has Q.mask (d:Nat)=false:=λd hd=>by
  cases hh:L.has Q.mask (d:Nat)with
  | false=>rfl
  | true=>
   have h1:=ht.fail d hh;rw[w4.err,L.has_zero]at h1;unfold Nand.failB at h1;rw[j4,w2.dead,hd,Bool.true_or]at h1;cases h1
 have hlogW:(M6 Q E).T.logical=S.T.logical:=by
  have:=(Dv.pen_keep hO λe he=>(hf e he).len).2.2;rw[hpen]at this;exact this
 have hdet:∀βx,βx<=1->Hot fd S βx->γ<=βx:=λβx hx1 hx=>by
  refine H4 λhlt=>?_;obtain⟨γ2,Q2,z1,z2,z3,z4,z5,_⟩:=h.write_go (l:=E) βx (159-βx) S k (m:=m) (by rw[show 159-βx+βx+1=Dv.fuel from by unfold Dv.fuel;omega];exact hO) hx (by omega) hf hl0 (by omega);rw[show 159-βx+βx+1=Dv.fuel from by unfold Dv.fuel;omega]at z5;have z5:S.pen E=(M6 Q2 E,(Q2.fit E:Int),(0:Int)):=z5;rw[hpen]at z5;have:=congrArg (λx=>x.1) z5;have z6:M6 Q E=M6 Q2 E:=this;have z7:=z4.rows z2.inv;have z8:=z2.rows;rw[<- z6]at z7;omega
 refine⟨M6 Q E,Q.fit E,γ,hpen,⟨w4.inv w2.inv w3,hfit.2.1,hfit.1,hfit.2.2.1,by omega,λj hj=>⟨_,l1 j hj,?_,hmk⟩,λi hi=>?_,hlogW,?_,?_,?_,?_,λa ha=>w2.plan a (ht.plan a ha),λi j=>?_,λb=>?_,λb hb=>⟨(w2.sb b hb).2.1,(w2.sb b hb).2.2⟩,w2.td,hfr,λβ2 hb2=>?_,λh1 h2=>w8 fd h1 h2⟩,hok,hHd⟩
 ·have:(M6 Q E).row-1=Q.row:=by show Q.row+1-1=Q.row;omega
  rw[this]at hfr;exact hfr
 ·rw[l2 i hi,w2.T]
 ·show S.next<=Q.next+(Q.fit E:Int)/\Q.next+(Q.fit E:Int)<=S.next+21;omega
 ·exact ht.dead.trans w2.dead
 ·exact ht.broken.trans w2.broken
 ·exact w2.like.trans ht.like
 ·have a1:=ht.flags i j;have a2:=w2.flags i j;exact⟨a1.1.trans a2.1,a1.2.1.trans a2.2.1⟩
 ·exact Inv.has_same hO.t w3.t w2.like b
 ·cases hb2 with
  | calm hno=>
   obtain⟨e1,e2⟩:=w6 hno;subst e2;exact⟨by omega, .calm ((hno.went w2).wrote w4)⟩
  | cold h1 h2=>
   have hq:=w8 fd h1 h2;have hγ:γ=0:=by have:=hdet 0 (by decide) (.cold h1 h2);omega
   subst hγ;exact⟨j7 _, .cold (w2.td fd h1) hq⟩
  | once h1=>
   rcases L7 γ with e | e
   ·subst e;exact⟨by omega, .once (w2.td fd h1)⟩
   ·have hγ1:=hdet 1 (by decide) (.once h1);refine⟨hγ1,?_⟩;rw[show 1-γ=0 from by omega];exact .cold (w2.td fd h1) (w7 e h1)
  | dead h0 h1=>
   have hγ1:=hdet 1 (by decide) (.dead h1);refine⟨hγ1,?_⟩;rcases L7 γ with e | e
   ·subst e;refine .dead h0 ?_;show(Q.wrote E).N.dead.getD fd.toNat false=true;rw[ht.dead,w2.dead];exact h1
   ·rw[show 1-γ=0 from by omega];obtain⟨z1,z2⟩:=w11 e h1;exact .cold z1 z2
  | brn hb=>
   obtain⟨x1,x2⟩:=w10 _ hb;exact⟨x1, .brn ((x2.wrote w2.inv w3 w4.left hf w4.bd).tab _)⟩
  | ers hE=>
   have hγ:γ=0:=by have:=hdet 0 (by decide) (.ers hE);omega
   subst hγ;have hns:¬(S.left=false/\S.pick<0):=λe=>by
    rcases h.rows_pos hO (by omega)with e2 | e2
    ·rw[e.1]at e2;cases e2
    ·exact e2 e.2
   have hEQ:Ers fd Q:=by rw[w9 rfl];exact hE.at1 h hO hns
   exact⟨j7 _, .ers ((hEQ.wrote w2.inv w4.left (w2.inv.rowIs w3 w4.left hf w4.bd)).tab _)⟩
theorem FreshP.mono {S:Dv} {b r r':Int} (h:FreshP S b r) (hr:r<=r'):FreshP S b r':=by
 rcases h with⟨h1,h2⟩ | h
 ·exact .inl ⟨h1,by omega⟩
 ·exact .inr h
theorem FreshP.back {S V:Dv} {b r:Int} (h:FreshP V b r) (hf:FreshP S V.op (V.row-1)) (hh:∀b,V.t.has b=S.t.has b) (hu:∀b,S.t.has b=true->(S.t.at_ b).used=true->(V.t.at_ b).used=true):FreshP S b r:=by
 rcases h with⟨h1,h2⟩ | ⟨h1,h2⟩
 ·rw[h1];exact hf.mono (by omega)
 ·rw[hh]at h1;right;refine⟨h1,?_⟩;cases hx:(S.t.at_ b).used with
  | false=>rfl
  | true=>rw[hu b h1 hx]at h2;cases h2
structure Crd (fd:Int) (S:Dv) (I:List Int) (V:Dv):Prop where
 inv:Inv fd V
 pos:∀i∈I,∃a,Tb.look V.T.at_ i=some a/\FreshP S a.block a.row/\∀d:Nat,S.N.dead.getD d false=true->L.has a.mask (d:Nat)=false
 rest:∀i,i∉I->Tb.look V.T.at_ i=Tb.look S.T.at_ i
 logical:V.T.logical=S.T.logical
 next:S.next<=V.next/\V.next<=S.next+21*(I.length:Int)
 dead:V.N.dead=S.N.dead
 broken:V.N.broken=S.N.broken
 like:S.N.Like V.N
 plan:∀a∈V.N.plan,a∈S.N.plan
 flags:∀i j,(V.N.blk i j).met=(S.N.blk i j).met/\(V.N.blk i j).fails=(S.N.blk i j).fails
 has:∀b,V.t.has b=S.t.has b
 sb:∀b,S.t.has b=true->(V.t.at_ b).held=(S.t.at_ b).held/\((S.t.at_ b).used=true->(V.t.at_ b).used=true)
 td:∀d:Int,L.has S.t.dead d=true->L.has V.t.dead d=true
 rowsle:V.rows<=S.rows
 back:∀b r,FreshP V b r->FreshP S b r
 fresh:I≠[]->FreshP S V.op (V.row-1)
theorem Crd.nil {fd:Int} {S:Dv} (h:Inv fd S):Crd fd S [] S:=
 ⟨h,λi hi=>(by cases hi),λ_ _=>rfl,rfl,by simp,rfl,rfl,Nand.Like.refl _,λ_ h=>h,λ_ _=>⟨rfl,rfl⟩,λ_=>rfl,λ_ _=>⟨rfl,λh=>h⟩,λ_ h=>h,j7 _,λ_ _ h=>h,λh=>absurd rfl h⟩
namespace Inv
variable {fd : Int} {m : Nat}
theorem slots_pos {S:Dv} {k:Nat} (h:Inv fd S) (hO:S.Ok k m) (hr:0<S.rows):(S.N.dies:Int)-2<=S.slots/\1<=S.slots:=by
 have hg:=hO.gd.ok.bd16;unfold Dv.slots;rcases h.rows_pos hO hr with hl | hp
 ·rw[i3 hl];have:=(h.opn hl).mask.pos hg.1;omega
 ·split
  ·rename_i hl;have:=(h.opn hl).mask.pos hg.1;omega
  ·rcases S.pick_spec with e | ⟨p1,p2,_,_⟩
   ·omega
   ·have:=(h.msk hO (Tl.has_iff.2 ⟨p1,p2⟩)).pos hg.1;omega
theorem carry_go:∀(f:Nat) (S:Dv) (I:List Int) (done:Int) (W:List (Int×En)) (β ρ k:Nat),Inv fd S->S.Ok (Dv.cost*f+k) m->I.length<=f->Hd S W->WOk W->(∀i∈I,(Tb.look W i).isSome=true)->I.Nodup->Hot2 fd S β->I.length<=(S.N.dies-2)*ρ->ρ+β<=S.rows->S.next+21*(f:Int)<=1099511627775-1300->
  ∃(V:Dv) (β':Nat),Dv.carryGo f S I done=(V,done+(I.length:Int),(0:Int))/\Crd fd S I V/\Hd V W/\Hot2 fd V β'/\β'<=β/\S.rows+β'<=V.rows+ρ+β/\V.Ok k m
 | 0,S,I,done,W,β,ρ,k,h,hO,hL,hH,hW,hin,hnd,hot,hlen,hrw,hnx=>by
  have:I=[]:=l9 (by omega);subst this;exact⟨S,β,by show(S,done,(0:Int))=_;simp,Crd.nil h,hH,hot,j7 _,by omega,hO.less (by omega)⟩
 | f+1,S,I,done,W,β,ρ,k,h,hO,hL,hH,hW,hin,hnd,hot,hlen,hrw,hnx=>by
  by_cases hl0:I.length=0
  ·have:I=[]:=l9 hl0;subst this;exact⟨S,β,by rw[Dv.carryGo,i3 (show([]:List Int).length=0 from rfl)];simp,Crd.nil h,hH,hot,j7 _,by omega,hO.less (by omega)⟩
  ·have hg:=hO.gd.ok.bd16;have hρ:1<=ρ:=by
    rcases L7 ρ with e | e
    ·subst e;omega
    ·exact e
   have hβr:β<S.rows:=by omega
   obtain⟨s1,s2⟩:=h.slots_pos hO (by omega);obtain⟨c,hc⟩:∃c,(max S.slots 1).toNat=c:=⟨_,rfl⟩;have hc2:S.N.dies-2<=c/\1<=c:=by omega
   obtain⟨E,e1,e2,e3,e4,e5⟩:=hH.rds hW (I.take c) λi hi=>hin i (D7 hi);have hEl:E.length=min c I.length:=by rw[e2,m9]
   have hnd2:(E.map (·.lpn)).Nodup:=by rw[e3];exact hnd.sublist (a2s _ _)
   have hget:∀j,j<E.length->(E.getD j En.zero).lpn=I.getD j 0:=λj hj=>by
    have h1:(E.map (·.lpn))[j]? =(I.take c)[j]?:=by rw[e3]
    rw[j5,C4,i3 (by omega),d6 hj]at h1;rw[f9,f9,d6 hj,<- h1];rfl
   have hlgE:∀e∈E,e.lpn<S.T.logical:=λe he=>by
    have:e.lpn∈I.take c:=by rw[<- e3];exact M4 he
    have h1:=hin _ (D7 this);obtain⟨w,hw⟩:=Option.isSome_iff_exists.1 h1;obtain⟨_,a,ha,_⟩:=hH.each _ _ hw;exact(hO.T.rng _ (Tb.look_mem ha)).2
   obtain⟨V,n,γ,p1,p2,p3,p4⟩:=h.pen_step (β:=β) (k:=Dv.cost*f+k) (by have:Dv.cost*(f+1)=Dv.cost*f+Dv.cost:=E9 _ _;exact hO.less (by unfold Dv.cost at this ⊢;omega)) hot hβr e4 (by omega) hnd2 hlgE (by omega) hH;have hn1:=p2.n1;have hn2:=p2.n2;have hn3:=p2.n3;have hdisj:∀i j,i<j->j<n->(E.getD i En.zero).lpn≠(E.getD j En.zero).lpn:=λi j hij hj e=>by
    rw[hget i (by omega),hget j (by omega)]at e;have g1:i<I.length:=by omega
    have g2:j<I.length:=by omega
    rw[f9,f9,d6 g1,d6 g2]at e;have h3:I[i]? =I[j]?:=by rw[d6 g1,d6 g2];simpa using e
    have:=(R5 g1 hnd).1 h3;omega
   have hHV:Hd V W:=p4.swap (λj hj=>e5 j (by rw[<- e2];omega)) hdisj;obtain⟨hγ,hot2⟩:=p2.hot β hot;have hdl:(I.drop n).length=I.length-n:=B2;have hmul:(S.N.dies-2)*ρ=(S.N.dies-2)*(ρ-1)+(S.N.dies-2):=by
    obtain⟨z,rfl⟩:∃z,ρ=z+1:=⟨ρ-1,by omega⟩;rw[E9];rfl
   have hpr:=p2.rows;have hnxV:=p2.next;obtain⟨V2,β',r1,r2,r3,r4,r5,r6,r7⟩:=carry_go f V (I.drop n) (done+(n:Int)) W (β-γ) (ρ-1) k p2.inv p3 (by omega) hHV hW (λi hi=>hin i (O1 hi)) (hnd.sublist (a6r _ _)) hot2 (by rw[p2.like.dies];omega) (by omega) (by omega);have hnext2:=r2.next;have hback:∀b r,FreshP V b r->FreshP S b r:=λb r hb=>hb.back p2.fresh p2.has λb hb=>(p2.sb b hb).2;have hfr:FreshP S V2.op (V2.row-1):=by
    rcases r2.back V2.op V2.row (.inl ⟨rfl,V6 _⟩)with⟨x1,x2⟩ | ⟨x1,x2⟩
    ·rcases p2.fresh with⟨y1,y2⟩ | y
     ·exact .inl ⟨x1.trans y1,by omega⟩
     ·rw[x1];exact .inr y
    ·rw[p2.has]at x1;right;refine⟨x1,?_⟩;cases hx:(S.t.at_ V2.op).used with
     | false=>rfl
     | true=>rw[(p2.sb _ x1).2 hx]at x2;cases x2
   refine⟨V2,β',?_,⟨r2.inv,λi hi=>?_,λi hi=>?_,r2.logical.trans p2.logical,⟨by omega,by omega⟩,r2.dead.trans p2.dead,r2.broken.trans p2.broken,p2.like.trans r2.like,λa ha=>p2.plan a (r2.plan a ha),λi j=>?_,λb=>(r2.has b).trans (p2.has b),λb hb=>?_,λd hd=>r2.td d (p2.td d hd),by have:=r2.rowsle;omega,λb r hb=>hback b r (r2.back b r hb),λ_=>hfr⟩,r3,r4,by omega,by omega,r7⟩
   ·rw[Dv.carryGo,g7 hl0,hc];dsimp only;rw[e1];dsimp only;rw[g7 (by decide),p1];dsimp only;rw[g7 (by decide),j4,r1,hdl];have:done+(n:Int)+((I.length-n:Nat):Int)=done+(I.length:Int):=by omega
    rw[this]
   ·by_cases hd:i∈I.drop n
    ·obtain⟨a,a1,a2,a3⟩:=r2.pos i hd;exact⟨a,a1,hback _ _ a2,λd hd=>a3 d (by rw[p2.dead];exact hd)⟩
    ·have hmem:i∈I.take n:=by
      rw[<- C5 n I]at hi;rcases List.mem_append.1 hi with h1 | h1
      ·exact h1
      ·exact absurd h1 hd
     obtain⟨j,hj,hji⟩:=List.mem_iff_getElem.1 hmem;rw[m9]at hj;have hjE:(E.getD j En.zero).lpn=i:=by
      rw[hget j (by omega),f9,d6 (by omega),j6,<- hji,Y6]
     obtain⟨a,a1,a2,a3⟩:=p2.pos j (by omega);rw[hjE]at a1;exact⟨a,by rw[r2.rest i hd];exact a1,a2,a3⟩
   ·have h1:i∉I.drop n:=λhd=>hi (O1 hd);rw[r2.rest i h1];refine p2.rest i λj hj e=>hi ?_;rw[<- e,hget j (by omega),f9,d6 (by omega)];exact E6 _
   ·have a1:=r2.flags i j;have a2:=p2.flags i j;exact⟨a1.1.trans a2.1,a1.2.trans a2.2⟩
   ·have a1:=p2.sb b hb;have a2:=r2.sb b (by rw[p2.has];exact hb);exact⟨a2.1.trans a1.1,λhu=>a2.2 (a1.2 hu)⟩
end Inv
namespace Inv
variable {fd : Int} {S : Dv} {k m : Nat}
def Empty (S:Dv) (b:Int):Prop:=∀i a,Tb.look S.T.at_ i=some a->a.block≠b
structure ErN (fd:Int) (N N':Nand) (b:Int):Prop where
 lit:N'.Lit
 like:N.Like N'
 dead:N'.dead=N.dead
 broken:N'.broken=N.broken
 plan:∀a∈N'.plan,a∈N.plan
 rest:∀i j,j≠b.toNat->N'.blk i j=N.blk i j
 flags:∀i j:Nat,(i:Int)≠fd->(N'.blk i j).met=(N.blk i j).met/\(N'.blk i j).fails=(N.blk i j).fails
 nof:(∀i j,(N.blk i j).fails=false)->∀i j,(N'.blk i j).met=(N.blk i j).met/\(N'.blk i j).fails=false
theorem ErN.refl (fd:Int) {N:Nand} (h:N.Lit) (b:Int):ErN fd N N b:=⟨h,Nand.Like.refl _,rfl,rfl,λ_ h=>h,λ_ _ _=>rfl,λ_ _ _=>⟨rfl,rfl⟩,λh i j=>⟨rfl,h i j⟩⟩
theorem ErN.trans {fd:Int} {A B C:Nand} {b:Int} (h:ErN fd A B b) (g:ErN fd B C b):ErN fd A C b:=
 ⟨g.lit,h.like.trans g.like,g.dead.trans h.dead,g.broken.trans h.broken,λa ha=>h.plan a (g.plan a ha),λi j hj=>(g.rest i j hj).trans (h.rest i j hj),λi j hi=>⟨(g.flags i j hi).1.trans (h.flags i j hi).1,(g.flags i j hi).2.trans (h.flags i j hi).2⟩,λhf i j=>⟨(g.nof (λi j=>(h.nof hf i j).2) i j).1.trans (h.nof hf i j).1,(g.nof (λi j=>(h.nof hf i j).2) i j).2⟩⟩
theorem er_one {N:Nand} (hl:N.Lit) {d:Nat} {b:Int} (hd:d<N.dies) (hb:0<=b/\b<N.blocks) (hp:0<N.pages) (hfl:(d:Int)≠fd->N.dead.getD d false=false/\(N.blk d b.toNat).fails=false):
  ErN fd N (N.eraseN d b) b/\(N.eraseE d b=0\/(N.eraseE d b=8\/N.eraseE d b=7)/\(d:Int)=fd)/\(N.eraseE d b=0->((N.eraseN d b).blk d b.toNat).cells=[])/\(∀i:Nat,i≠d->(N.eraseN d b).blk i b.toNat=N.blk i b.toNat)/\((N.dead.getD d false=false/\(N.blk d b.toNat).fails=false)->N.eraseE d b=0/\((N.eraseN d b).blk d b.toNat).worn=(N.blk d b.toNat).worn+1/\(N.eraseN d b).ops=N.ops+1):=by
 have hr:N.refuses d b 0=if N.dead.getD d false then 8 else 0:=by
  have:=hl.refuses (x:=(d:Int)) (y:=b) (z:=0) (by omega) hb (by omega)
  rwa [j4]at this
 cases hdd:N.dead.getD d false with
 | true=>
  rw[hdd,i3 rfl]at hr;have e1:N.eraseE d b=8:=by unfold Nand.eraseE;rw[hr];rfl
  have e2:N.eraseN d b=N:=by unfold Nand.eraseN;dsimp only;rw[i3 (by rw[hr];decide)]
  have hfd:(d:Int)=fd:=by
   by_cases e:(d:Int)=fd
   ·exact e
   ·have:=(hfl e).1;rw[hdd]at this;cases this
  rw[e1,e2];exact⟨ErN.refl fd hl b, .inr ⟨.inl rfl,hfd⟩,λh=>(by cases h),λ_ _=>rfl,λh=>(by cases h.1)⟩
 | false=>
  rw[hdd,g7 m6]at hr;have hcb:=hl.cutB;cases hf:(N.blk d b.toNat).fails with
  | true=>
   have e1:N.eraseE d b=7:=by unfold Nand.eraseE;rw[hr,hcb,j4,hf];rfl
   have hfd:(d:Int)=fd:=by
    by_cases e:(d:Int)=fd
    ·exact e
    ·have:=(hfl e).2;rw[hf]at this;cases this
   have e2:N.eraseN d b=N.cutN.setBlk d b.toNat {N.blk d b.toNat with met:=true}:=by
    unfold Nand.eraseN;dsimp only;rw[g7 (by rw[hr];decide),g7 (by rw[hcb];decide),j4,i3 hf]
   have hb:∀i j,(N.eraseN d b).blk i j=if i=d/\j=b.toNat then {N.blk d b.toNat with met:=true}else N.blk i j:=λi j=>by rw[e2];rfl
   refine⟨⟨hl.erase _ _,Nand.like_erase _ _ _,by rw[e2];rfl,by rw[e2];rfl,λa ha=>by rw[e2]at ha;exact ha,λi j hj=>by rw[hb,g7 (by omega)],λi j hi=>?_,λhall=>(by have:=hall d b.toNat;rw[hf]at this;cases this)⟩, .inr ⟨.inr e1,hfd⟩,λh=>(by rw[e1]at h;cases h),λi hi=>by rw[hb,g7 (by omega)],λh=>(by cases h.2)⟩;rw[hb,g7 (by omega)];exact⟨rfl,rfl⟩
  | false=>
   have e1:N.eraseE d b=0:=by unfold Nand.eraseE;rw[hr,hcb,j4,hf];rfl
   have e2:N.eraseN d b={N.cutN.setBlk d b.toNat {N.blk d b.toNat with cells:=[],worn:=(N.blk d b.toNat).worn+1}with plan:=N.plan.filter λa=>!(decide (a.1=(d:Int))&&decide (a.2.1=b))}:=by
    unfold Nand.eraseN;dsimp only;rw[g7 (by rw[hr];decide),g7 (by rw[hcb];decide),j4,g7 (by rw[hf];decide)]
   have hb:∀i j,(N.eraseN d b).blk i j=if i=d/\j=b.toNat then {N.blk d b.toNat with cells:=[],worn:=(N.blk d b.toNat).worn+1}else N.blk i j:=λi j=>by rw[e2];rfl
   refine⟨⟨hl.erase _ _,Nand.like_erase _ _ _,by rw[e2];rfl,by rw[e2];rfl,λa ha=>by rw[e2]at ha;exact(List.mem_filter.1 ha).1,λi j hj=>by rw[hb,g7 (by omega)],λi j hi=>?_,λhall i j=>?_⟩, .inl e1,λ_=>by rw[hb,i3 ⟨rfl,rfl⟩],λi hi=>by rw[hb,g7 (by omega)],λ_=>⟨e1,by rw[hb,i3 ⟨rfl,rfl⟩],by rw[e2];rfl⟩⟩
   ·rw[hb];split
    ·rename_i e;rw[e.1,e.2];exact⟨rfl,rfl⟩
    ·exact⟨rfl,rfl⟩
   ·rw[hb];split
    ·rename_i e;rw[e.1,e.2];exact⟨rfl,hall d b.toNat⟩
    ·exact⟨rfl,hall i j⟩
theorem put_er (h:Inv fd S) (hF:S.t.Fit S.N) {N':Nand} {t':Tl} {b:Int} (hE:ErN fd S.N N' b) (hT:TlMore fd S.t t') (hb:S.t.has b=true) (hne:b≠S.op) (hemp:Empty S b) (hu:(S.t.at_ b).used=true):Inv fd {S with N:=N',t:=t'}/\∀i a,Std fd S i a->a.block≠b->Std fd {S with N:=N',t:=t'} i a/\R.read N' a.block a.row a.slot a.mask=R.read S.N a.block a.row a.slot a.mask:=by
 have hst:∀i a,Std fd S i a->a.block≠b->Std fd {S with N:=N',t:=t'} i a/\R.read N' a.block a.row a.slot a.mask=R.read S.N a.block a.row a.slot a.mask:=λi a ha hab=>by
  obtain⟨lr,g1,g2,g3,g4,g5,g6⟩:=ha.row;have hblk:=g1.is.blk;have hbr:=(Tl.has_iff.1 hb).1;have hk:Full fd N' a.block a.row a.mask lr:=g1.keep hE.like λx hx=>by
   unfold Nand.pageAt;rw[hE.rest _ _ (by omega)]
  have hhas:S.t.has a.block=true:=Tl.has_iff.2 (by have:=hF.b;omega);refine⟨⟨⟨lr,hk,g2,g3,g4,g5,g6⟩,by show(t'.at_ a.block).used=true;rw[hT.used _ hhas];exact ha.used,ha.below,ha.seq⟩,?_⟩;have r1:=hk.read hE.lit.off (λi hi=>by rw[hE.dead];exact h.dead i hi) g3;have r2:=g1.read h.lit.off h.dead g3;rw[show((a.slot.toNat:Nat):Int)=a.slot from by omega]at r1 r2;rw[r1,r2]
 refine⟨⟨hE.lit,λi hi=>by show N'.dead.getD i false=false;rw[hE.dead];exact h.dead i hi,λa ha=>h.plan a (hE.plan a ha),λi j hi=>by have:=hE.flags i j hi;show(N'.blk i j).met=false/\(N'.blk i j).fails=false;rw[this.1,this.2];exact h.flags i j hi,hT.tdead,λx hx=>hT.tbad x (by rw[<- hT.has];exact hx),?_,λx hx hxu d hd=>?_,λi a ha=>(hst i a (h.st i a ha) (hemp i a ha)).1⟩,λi a ha hab=>hst i a ha hab⟩
 ·rcases h.op with e | e
  ·exact .inl e
  ·right;have hhas:S.t.has S.op=true:=Tl.has_iff.2 (by have:=e.blk;have:=hF.b;omega);refine⟨by show 0<=S.op/\S.op<N'.blocks;rw[hE.like.blocks];exact e.blk,by show(t'.at_ S.op).used=true;rw[hT.used _ hhas];exact e.used,by show 0<=S.row/\S.row<=N'.pages;rw[hE.like.pages];exact e.row,by show Msk N'.dies fd S.mask;rw[hE.like.dies];exact e.mask,λd hd=>?_⟩;show((N'.blk d S.op.toNat).cells.length:Int)<=S.row/\(N'.dead.getD d false=false->((N'.blk d S.op.toNat).cells.length:Int)=S.row);have hbr:=(Tl.has_iff.1 hb).1;rw[hE.rest _ _ (by have:=e.blk;omega),hE.dead];exact e.cells d hd
 ·have hx':S.t.has x=true:=by rw[<- hT.has];exact hx
  have hxu':(S.t.at_ x).used=false:=by rw[<- hT.used x hx'];exact hxu
  have hxb:x≠b:=λe=>by rw[e,hu]at hxu';cases hxu'
  show(N'.blk d x.toNat).cells=[];rw[hE.rest _ _ (by have:=(Tl.has_iff.1 hb).1;have:=(Tl.has_iff.1 hx').1;omega)];exact h.blank x hx' hxu' d (hT.mask x hx' _ hd)
end Inv
def b0y (N:Nand):Prop:=(∀i:Nat,N.dead.getD i false=false)/\∀i j:Nat,(N.blk i j).fails=false
def a8s (m:Int) (q:List Nat):Nat:=(q.filter λd=>L.has m (d:Nat)).length
theorem b3M {fd:Int} {t:Tl} (hl:t.l.length=t.b) (h8:t.d<=8) (h1:L.set t.dead=true/\∀d:Int,L.has t.dead d=true->d=fd) (h2:∀b,t.has b=true->L.set (t.at_ b).bad=true/\∀d:Int,L.has (t.at_ b).bad d=true->d=fd) (k:Int) (s:Sb) (hs:t.has k=true->s.bad=(t.at_ k).bad/\s.used=(t.at_ k).used/\s.held=(t.at_ k).held):TlMore fd t (t.set k s):=by
 cases hop:t.has k with
 | false=>rw[Tl.set_no _ hop];exact TlMore.refl h1 h2
 | true=>
  obtain⟨s1,s2,s3⟩:=hs hop;have hat:∀b,t.has b=true->((t.set k s).at_ b).bad=(t.at_ b).bad/\((t.set k s).at_ b).used=(t.at_ b).used/\((t.set k s).at_ b).held=(t.at_ b).held:=λb hb=>by
   rw[Tl.at_set hl _ hop hb];split
   ·rename_i e;rw[e];exact⟨s1,s2,s3⟩
   ·exact⟨rfl,rfl,rfl⟩
  have hb2:∀b,t.has b=true->L.set ((t.set k s).at_ b).bad=true/\∀d:Int,L.has ((t.set k s).at_ b).bad d=true->d=fd:=λb hb=>by rw[(hat b hb).1];exact h2 b hb
  refine⟨λb=>Tl.has_set _ _ _ _,Tl.set_d _ _ _,λb hb=>(hat b hb).2.1,λb hb=>(hat b hb).2.2,by rw[Tl.set_dead];exact h1,hb2,λb hb e he=>?_,λe he=>by rw[Tl.set_dead];exact he⟩;have hm:=(R4 (t:=t.set k s) (b:=b) (by rw[Tl.set_d];exact h8) (by rw[Tl.has_set];exact hb) (by rw[Tl.set_dead];exact h1.1) (hb2 b hb).1).2 e;rw[hm,Tl.set_d,Tl.set_dead,(hat b hb).1]at he;rw[(R4 h8 hb h1.1 (h2 b hb).1).2];exact he
namespace Inv
variable {fd : Int} {S : Dv} {k m : Nat}
structure Er (fd:Int) (S:Dv) (b:Int):Prop where
 inv:Inv fd S
 fit:S.t.Fit S.N
 has:S.t.has b=true
 ne:b≠S.op
 emp:Empty S b
 used:(S.t.at_ b).used=true
 six:3<=S.N.dies/\S.N.dies<=6
 pages:0<S.N.pages
structure Erd (fd:Int) (S:Dv) (b mk:Int) (q:List Nat) (N':Nand) (t':Tl):Prop where
 er:ErN fd S.N N' b
 more:TlMore fd S.t t'
 fit:t'.Fit S.N
 done:∀d∈q,L.has mk (d:Nat)=true->(N'.blk d b.toNat).cells=[]\/L.has (t'.mask b) (d:Nat)=false
 rest:∀i:Nat,i∉q->N'.blk i b.toNat=S.N.blk i b.toNat
 exact_:b0y S.N->t'=S.t/\b0y N'/\N'.ops=S.N.ops+(a8s mk q:Int)/\∀d∈q,L.has mk (d:Nat)=true->(N'.blk d b.toNat).worn=(S.N.blk d b.toNat).worn+1
theorem Er.put {b:Int} (h:Er fd S b) {N':Nand} {t':Tl} (hE:ErN fd S.N N' b) (hT:TlMore fd S.t t') (hF:t'.Fit S.N):Er fd {S with N:=N',t:=t'} b/\∀i a,Std fd S i a->a.block≠b->Std fd {S with N:=N',t:=t'} i a/\R.read N' a.block a.row a.slot a.mask=R.read S.N a.block a.row a.slot a.mask:=by
 have hp:=h.inv.put_er h.fit hE hT h.has h.ne h.emp h.used;refine⟨⟨hp.1,hF.like hE.like,by show t'.has b=true;rw[hT.has];exact h.has,h.ne,h.emp,by show(t'.at_ b).used=true;rw[hT.used b h.has];exact h.used,by show 3<=N'.dies/\N'.dies<=6;rw[hE.like.dies];exact h.six,by show 0<N'.pages;rw[hE.like.pages];exact h.pages⟩,hp.2⟩
theorem eraseD_spec {b mk:Int} (h:Er fd S b) {d:Nat} (hd:d<S.N.dies):∃N' t',Dv.eraseD b mk (S.N,S.t,0) d=(N',t',0)/\Erd fd S b mk [d] N' t':=by
 have hsix:=h.six;have hblk:0<=b/\b<S.N.blocks:=by have:=Tl.has_iff.1 h.has;have:=h.fit.b;omega
 have h8:S.t.d<=8:=by have:=h.fit.d;omega
 have hdt:d<S.t.d:=by have:=h.fit.d;omega
 unfold Dv.eraseD;rw[g7 (by simp)];cases hh:L.has mk (d:Nat)with
 | false=>
  rw[i3 rfl];refine⟨S.N,S.t,rfl,ErN.refl fd h.inv.lit b,TlMore.refl h.inv.tdead h.inv.tbad,h.fit,λe he hm=>?_,λ_ _=>rfl,λhn=>⟨rfl,hn,?_,λe he hm=>?_⟩⟩
  ·rw[List.mem_singleton.1 he,hh]at hm;cases hm
  ·show _=S.N.ops+(([d].filter λd=>L.has mk (d:Nat)).length:Int);rw[V8,hh];simp
  ·rw[List.mem_singleton.1 he,hh]at hm;cases hm
 | true=>
  rw[g7 (by decide)];dsimp only;obtain⟨e1,e2,e3,e4,e5⟩:=er_one (fd:=fd) h.inv.lit hd hblk h.pages (λhne=>⟨h.inv.dead d hne,(h.inv.flags d b.toNat hne).2⟩);have hcnt:(a8s mk [d]:Int)=1:=by unfold a8s;rw[V8,hh];rfl
  rcases e2 with e2 | ⟨e2,hfd⟩
  ·refine⟨S.N.eraseN d b,S.t,?_,e1,TlMore.refl h.inv.tdead h.inv.tbad,h.fit,λe he _=> .inl (by rw[List.mem_singleton.1 he];exact e3 e2),λi hi=>e4 i (λe=>hi (by rw[e];exact List.mem_singleton.2 rfl)),λhn=>?_⟩
   ·rw[i3 e2,g7 (by rw[e2];decide)]
   ·obtain⟨x1,x2,x3⟩:=e5 ⟨hn.1 d,hn.2 d b.toNat⟩;refine⟨rfl,⟨λi=>by rw[e1.dead];exact hn.1 i,λi j=>(e1.nof hn.2 i j).2⟩,by rw[x3,hcnt],λe he _=>by rw[List.mem_singleton.1 he];exact x2⟩
  ·have hnn:¬b0y S.N:=λhn=>by
    have:=(e5 ⟨hn.1 d,hn.2 d b.toNat⟩).1;omega
   rcases e2 with e2 | e2
   ·obtain⟨m1,m2⟩:=b6B h8 h.inv.tdead h.inv.tbad (d:=d) (by omega) hfd;refine⟨S.N.eraseN d b,S.t.die d,?_,e1,m1,h.fit.die d,λe he _=> .inr (by rw[List.mem_singleton.1 he];have:=m2 hdt b h.has;rwa [<- hfd]at this),λi hi=>e4 i (λe=>hi (by rw[e];exact List.mem_singleton.2 rfl)),λhn=>absurd hn hnn⟩;rw[g7 (by omega),g7 (by omega),i3 e2,g7 (by omega)]
   ·obtain⟨m1,m2⟩:=b1h h.fit.len h8 h.inv.tdead h.inv.tbad (d:=d) (by omega) hfd b;refine⟨S.N.eraseN d b,S.t.bad d b,?_,e1,m1,h.fit.bad d b,λe he _=> .inr (by rw[List.mem_singleton.1 he];have:=m2 hdt h.has;rwa [<- hfd]at this),λi hi=>e4 i (λe=>hi (by rw[e];exact List.mem_singleton.2 rfl)),λhn=>absurd hn hnn⟩;rw[g7 (by omega),g7 (by omega),g7 (by omega),g7 (by omega)]
theorem eraseQ_spec {b mk:Int}:∀(q:List Nat) (S:Dv),Er fd S b->(∀d∈q,d<S.N.dies)->q.Nodup->∃N' t',q.foldl (Dv.eraseD b mk) (S.N,S.t,0)=(N',t',0)/\Erd fd S b mk q N' t'
 | [],S,h,_,_=>⟨S.N,S.t,rfl,ErN.refl fd h.inv.lit b,TlMore.refl h.inv.tdead h.inv.tbad,h.fit,λd hd=>(by cases hd),λ_ _=>rfl,λhn=>⟨rfl,hn,by simp[a8s],λd hd=>(by cases hd)⟩⟩
 | d::q,S,h,hq,hnd=>by
  obtain⟨N1,t1,f1,g1⟩:=eraseD_spec (mk:=mk) h (hq d (by simp));obtain⟨p1,_⟩:=h.put g1.er g1.more g1.fit;have hnd2:=List.nodup_cons.1 hnd;obtain⟨N2,t2,f2,g2⟩:=eraseQ_spec (mk:=mk) q _ p1 (λe he=>by show e<N1.dies;rw[g1.er.like.dies];exact hq e (by simp[he])) hnd2.2;have e2:ErN fd N1 N2 b:=g2.er;have m2:TlMore fd t1 t2:=g2.more;have hF2:t2.Fit S.N:=⟨g2.fit.d.trans g1.er.like.dies,g2.fit.b.trans g1.er.like.blocks,g2.fit.p.trans g1.er.like.pages,g2.fit.len⟩;refine⟨N2,t2,by rw[x9,f1];exact f2,g1.er.trans e2,g1.more.trans m2,hF2,λe he hm=>?_,λi hi=>?_,λhn=>?_⟩
  ·rcases List.mem_cons.1 he with rfl | he
   ·rcases g1.done e (List.mem_singleton.2 rfl) hm with hc | hc
    ·left;have:N2.blk e b.toNat=N1.blk e b.toNat:=g2.rest e hnd2.1;rw[this];exact hc
    ·right;cases hx:L.has (t2.mask b) (e:Nat)with
     | false=>rfl
     | true=>
      have:=m2.mask b (by rw[g1.more.has];exact h.has) _ hx;rw[hc]at this;cases this
   ·exact g2.done e he hm
  ·have h1:N2.blk i b.toNat=N1.blk i b.toNat:=g2.rest i (λe=>hi (by simp[e]));have h2:=g1.rest i (λe=>hi (by rw[List.mem_singleton.1 e];simp));rw[h1,h2]
  ·obtain⟨x1,x2,x3,x4⟩:=g1.exact_ hn;obtain⟨y1,y2,y3,y4⟩:=g2.exact_ x2;have y3:N2.ops=N1.ops+(a8s mk q:Int):=y3;refine⟨y1.trans x1,y2,?_,λe he hm=>?_⟩
   ·have:a8s mk (d::q)=a8s mk [d]+a8s mk q:=by
     unfold a8s;rw[<- i5,<- Q7];rfl
    rw[y3,x3,this];omega
   ·rcases List.mem_cons.1 he with rfl | he
    ·have:N2.blk e b.toNat=N1.blk e b.toNat:=g2.rest e hnd2.1;rw[this];exact x4 e (List.mem_singleton.2 rfl) hm
    ·have hne:e≠d:=λe2=>hnd2.1 (by rw[<- e2];exact he);have:=y4 e he hm;have h3:N1.blk e b.toNat=S.N.blk e b.toNat:=g1.rest e (λe2=>hne (List.mem_singleton.1 e2));have this:(N2.blk e b.toNat).worn=(N1.blk e b.toNat).worn+1:=this;rw[this,h3]
end Inv
namespace Inv
variable {fd : Int} {S : Dv} {k m : Nat}
theorem msk2 (h:Inv fd S) (hF:S.t.Fit S.N) (h6:3<=S.N.dies/\S.N.dies<=6) {b:Int} (hb:S.t.has b=true):Msk S.N.dies fd (S.t.mask b):=by
 have hd:=hF.d;obtain⟨m1,m2⟩:=R4 (by omega) hb h.tdead.1 (h.tbad b hb).1;refine⟨m1,λd hh=>?_,λd hlt hne=>?_⟩
 ·rw[m2]at hh;simp only[i4,d7]at hh;omega
 ·rw[m2,i9 (p:=(0:Int)<=(d:Int)) (by omega),i9 (p:=(d:Int)<S.t.d) (by omega)];have e1:L.has S.t.dead (d:Nat)=false:=by
   cases hh:L.has S.t.dead (d:Nat)with
   | false=>rfl
   | true=>exact absurd (h.tdead.2 _ hh) hne
  have e2:L.has (S.t.at_ b).bad (d:Nat)=false:=by
   cases hh:L.has (S.t.at_ b).bad (d:Nat)with
   | false=>rfl
   | true=>exact absurd ((h.tbad b hb).2 _ hh) hne
  rw[e1,e2];rfl
theorem usable2 (h:Inv fd S) (hF:S.t.Fit S.N) (h6:3<=S.N.dies/\S.N.dies<=6) {b:Int} (hb:S.t.has b=true):S.t.usable b=true:=by
 have:=((h.msk2 hF h6 hb).pos h6).1;unfold Tl.usable;exact i9 (by omega)
theorem wores_more (h:Inv fd S) (hF:S.t.Fit S.N) (h6:S.N.dies<=6) (N':Nand) (b:Int):∀(q:List Nat) (t:Tl),TlMore fd S.t t->t.Fit S.N->TlMore fd S.t (q.foldl (λt (d:Nat)=>t.wore b (N'.wornAt d b)) t)/\(q.foldl (λt (d:Nat)=>t.wore b (N'.wornAt d b)) t).Fit S.N/\(∀x,x≠b->t.has x=true->(q.foldl (λt (d:Nat)=>t.wore b (N'.wornAt d b)) t).at_ x=t.at_ x)/\(q.foldl (λt (d:Nat)=>t.wore b (N'.wornAt d b)) t).blanks=t.blanks
 | [],t,hT,hF2=>⟨hT,hF2,λ_ _ _=>rfl,rfl⟩
 | d::q,t,hT,hF2=>by
  have h1:TlMore fd t (t.wore b (N'.wornAt d b)):=b3M hF2.len (by have:=hF2.d;omega) hT.tdead (λx hx=>hT.tbad x (by rw[<- hT.has];exact hx)) _ _ (λ_=>⟨rfl,rfl,rfl⟩);have ih:=wores_more h hF h6 N' b q (t.wore b (N'.wornAt d b)) (hT.trans h1) (hF2.wore _ _);rw[x9];refine⟨ih.1,ih.2.1,λx hx hhx=>?_,ih.2.2.2.trans (Tl.blanks_same hF2.len _ _ rfl)⟩;rw[ih.2.2.1 x hx (by unfold Tl.wore;rw[Tl.has_set];exact hhx)];unfold Tl.wore;cases hb:t.has b with
  | false=>rw[Tl.set_no _ hb]
  | true=>rw[Tl.at_set hF2.len _ hb hhx,g7 hx]
theorem blanks_more {fd:Int} {t t':Tl} (h:TlMore fd t t') (hl:t.l.length=t.b) (hl':t'.l.length=t'.b) (hb:t'.b=t.b):t'.blanks=t.blanks:=by
 unfold Tl.blanks;have e:t'.l.map (·.used)=t.l.map (·.used):=by
  apply t6;intro i;rw[j5,j5]
  by_cases hi:i<t.l.length
  ·have hhas:t.has (i:Nat)=true:=Tl.has_iff.2 (by omega);have:=h.used (i:Nat) hhas;unfold Tl.at_ at this;rw[j4,f9,f9,d6 hi,d6 (by omega)]at this;rw[d6 hi,d6 (by omega)];exact congrArg some this
  ·rw[j9 (by omega),j9 (by omega)]
 have h1:∀l:List Sb,(l.countP λs=>!s.used)=(l.map (·.used)).countP λu=>!u:=λl=>by rw[List.countP_map];rfl
 rw[h1,h1,e]
structure Erased (fd:Int) (S:Dv) (b:Int) (N':Nand) (t':Tl):Prop where
 inv:Inv fd {S with N:=N',t:=t'}
 fit:t'.Fit N'
 er:ErN fd S.N N' b
 reads:∀i a,Std fd S i a->a.block≠b->Std fd {S with N:=N',t:=t'} i a/\R.read N' a.block a.row a.slot a.mask=R.read S.N a.block a.row a.slot a.mask
 blank:(t'.at_ b).used=false
 rest:∀x,S.t.has x=true->x≠b->(t'.at_ x).used=(S.t.at_ x).used
 held:∀x,S.t.has x=true->(t'.at_ x).held=(S.t.at_ x).held
 blanks:t'.blanks=S.t.blanks+1
 td:∀e:Int,L.has S.t.dead e=true->L.has t'.dead e=true
 exact_:b0y S.N->b0y N'/\N'.ops=S.N.ops+(a8s (S.t.mask b) (List.range S.N.dies):Int)/\(∀d:Nat,d<S.N.dies->L.has (S.t.mask b) (d:Nat)=true->(N'.blk d b.toNat).worn=(S.N.blk d b.toNat).worn+1)/\t'=(Dv.wores N' S.t b).clean b true
theorem erase_spec {b:Int} (h:Er fd S b):∃N' t',Dv.erase S.N S.t b=(N',t',0)/\Erased fd S b N' t':=by
 obtain⟨N1,t1,f1,g1⟩:=eraseQ_spec (mk:=S.t.mask b) (List.range S.N.dies) S h (λd hd=>List.mem_range.1 hd) a2Y;obtain⟨p1,p2⟩:=h.put g1.er g1.more g1.fit;have hF1:t1.Fit N1:=g1.fit.like g1.er.like;have h6:3<=N1.dies/\N1.dies<=6:=p1.six;obtain⟨w1,w2,w3,w4⟩:=wores_more p1.inv hF1 h6.2 N1 b (List.range N1.dies) t1 (TlMore.refl p1.inv.tdead p1.inv.tbad) hF1;have hw:(List.range N1.dies).foldl (λt (d:Nat)=>t.wore b (N1.wornAt d b)) t1=Dv.wores N1 t1 b:=rfl;rw[hw]at w1 w2 w3 w4;obtain⟨T2,hT2⟩:∃T2,Dv.wores N1 t1 b=T2:=⟨_,rfl⟩;rw[hT2]at w1 w2 w3 w4;have w1:TlMore fd t1 T2:=w1;have w2:T2.Fit N1:=w2;have hTm:TlMore fd S.t T2:=g1.more.trans w1;have hF2:T2.Fit S.N:=⟨w2.d.trans g1.er.like.dies,w2.b.trans g1.er.like.blocks,w2.p.trans g1.er.like.pages,w2.len⟩;obtain⟨r1,r2⟩:=h.put g1.er hTm hF2;have hus:T2.usable b=true:=r1.inv.usable2 w2 h6 r1.has;have hhas:T2.has b=true:=r1.has;have hmk:∀j,(T2.clean b true).mask j=T2.mask j:=λj=>Dv.mask_clean w2.len _ _ _;have hat:∀x,T2.has x=true->(T2.clean b true).at_ x=if x=b then {T2.at_ b with used:=false}else T2.at_ x:=λx hx=>Tl.at_set w2.len _ hhas hx
 have hfin:Dv.erase S.N S.t b=(N1,T2.clean b true,0):=by
  unfold Dv.erase Dv.eraseB;rw[f1];dsimp only;rw[g7 (by simp)];unfold Dv.eraseT;rw[hT2,i3 hus]
 have hdd:(T2.clean b true).dead=T2.dead:=Tl.set_dead _ _ _;have hhs:∀x,(T2.clean b true).has x=T2.has x:=λx=>Tl.has_set _ _ _ _;have hstd:∀i a,Std fd {S with N:=N1,t:=T2} i a->a.block≠b->Std fd {S with N:=N1,t:=T2.clean b true} i a:=λi a ha hab=>by
  obtain⟨lr,q1,q2⟩:=ha.row;have hx:T2.has a.block=true:=Tl.has_iff.2 (by
   have h1:=q1.is.blk;have h2:=w2.b;have h1:0<=a.block/\a.block<N1.blocks:=h1;omega)
  exact⟨⟨lr,q1,q2⟩,by show((T2.clean b true).at_ a.block).used=true;rw[hat _ hx,g7 hab];exact ha.used,ha.below,ha.seq⟩
 refine⟨N1,T2.clean b true,hfin,⟨⟨r1.inv.lit,r1.inv.dead,r1.inv.plan,r1.inv.flags,by show L.set (T2.clean b true).dead=true/\_;rw[hdd];exact r1.inv.tdead,λx hx=>?_,?_,λx hx hxu d hd=>?_,λi a ha=>hstd i a (r1.inv.st i a ha) (h.emp i a ha)⟩,w2.clean _ _,g1.er,λi a ha hab=>⟨hstd i a (r2 i a ha hab).1 hab,(r2 i a ha hab).2⟩,?_,λx hx hne=>?_,λx hx=>?_,?_,λe he=>by rw[hdd];exact hTm.td e he,λhn=>?_⟩⟩
 ·have hx':T2.has x=true:=by rw[<- hhs];exact hx
  show L.set ((T2.clean b true).at_ x).bad=true/\∀d:Int,L.has ((T2.clean b true).at_ x).bad d=true->d=fd;rw[hat x hx'];split
  ·exact r1.inv.tbad b hhas
  ·exact r1.inv.tbad x hx'
 ·rcases r1.inv.op with e | e
  ·exact .inl e
  ·right;have hx:T2.has S.op=true:=Tl.has_iff.2 (by
    have h1:=e.blk;have h2:=w2.b;have h1:0<=S.op/\S.op<N1.blocks:=h1;omega)
   exact⟨e.blk,by show((T2.clean b true).at_ S.op).used=true;rw[hat _ hx,g7 (λe2=>h.ne e2.symm)];exact e.used,e.row,e.mask,e.cells⟩
 ·have hx':T2.has x=true:=by rw[<- hhs];exact hx
  have hd2:L.has (T2.mask x) (d:Nat)=true:=by rw[<- hmk];exact hd
  have hxu2:((T2.clean b true).at_ x).used=false:=hxu;rw[hat x hx']at hxu2;split at hxu2
  ·rename_i e;subst e;have hm:=hTm.mask x h.has _ hd2;have hdl:=(h.inv.msk2 h.fit h.six h.has).lt _ hm;rcases g1.done d (List.mem_range.2 (by omega)) hm with hc | hc
   ·exact hc
   ·have:=w1.mask x (by rw[g1.more.has];exact h.has) _ hd2;rw[hc]at this;cases this
  ·exact r1.inv.blank x hx' hxu2 d hd2
 ·rw[hat b hhas,i3 rfl]
 ·have hx':T2.has x=true:=by rw[hTm.has];exact hx
  rw[hat x hx',g7 hne];exact hTm.used x hx
 ·have hx':T2.has x=true:=by rw[hTm.has];exact hx
  rw[hat x hx'];split
  ·rename_i e;rw[e];exact hTm.held b h.has
  ·exact hTm.held x hx
 ·have h1:T2.blanks=S.t.blanks:=blanks_more hTm h.fit.len w2.len (by have:=hF2.b;have:=h.fit.b;omega);have hub:(T2.at_ b).used=true:=by rw[hTm.used b h.has];exact h.used
  have:=Tl.countP_set (λs:Sb=>!s.used) (T2.at_ b) {T2.at_ b with used:=!true} T2.l b.toNat (Tl.get_at w2.len hhas);have e1:(T2.clean b true).blanks=(T2.l.set b.toNat {T2.at_ b with used:=!true}).countP (λs:Sb=>!s.used):=by unfold Tl.clean Tl.set Tl.blanks;rw[i3 hhas]
  have e2:T2.blanks=T2.l.countP (λs:Sb=>!s.used):=rfl;rw[<- e1,<- e2,hub]at this;simp only[a1I,Bool.not_false,H2,V9,Y0]at this;omega
 ·obtain⟨x1,x2,x3,x4⟩:=g1.exact_ hn;exact⟨x2,x3,λd hd hm=>x4 d (List.mem_range.2 hd) hm,by rw[<- hT2,x1]⟩
end Inv
end Go.Proofs.YtpakpgkdpofbhaaGreat
