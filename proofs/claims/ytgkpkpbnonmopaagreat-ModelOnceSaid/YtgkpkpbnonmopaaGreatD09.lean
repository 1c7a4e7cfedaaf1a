/- Helpers. No condition. -/
import Derived.Test.YtgkpkpbnonmopaaGreatD01
import Derived.Test.YtgkpkpbnonmopaaGreatD05
import Derived.Test.YtgkpkpbnonmopaaGreatD06
import Derived.Test.YtgkpkpbnonmopaaGreatD07
import Derived.Test.YtgkpkpbnonmopaaGreatD08
import Derived.Laws.AppendOwn
set_option maxRecDepth 20000
set_option linter.all false
namespace Go.Proofs.YtgkpkpbnonmopaaGreat
open Go Go.RowKit
def b1p (x:Nat):Nat:=([0,1,2,2,3,3,3,3,4,4,4,4,4]:List Nat).getD x 0
theorem b6s:Tryz.prog.underlying 9=some .string:=by kernel_rfl
theorem a5k {P:Program} {E:Env} {w:World} {n0:Nat} {a:Act} {o:Oper} {ty:TypeId} {s:ByteArray} {y:Operand} {k tg:Nat} {g:G} {ik:IntKind} {i:Int} {b:UInt8} (hop:o.op= .index ty (.const (.string s)) y) (hy:ev E y=some ⟨k, .int ik i,tg,g⟩) (he:EnvOK n0 E a) (hg:g.on=true) (hd:P.underlying ty=some .string)
  (h0:0<=i) (hb:s.data.toList[i.toNat]? =some b):(execOp a.eval o).run P w= .ok (.value (.int .u8 b.toNat)) w:=by
 have ey:=i7 he hy;simp only[Slot.val,hg]at ey;have h1:=run_index_string (P:=P) (w:=w) ty s ik i hd;have hlt:i.toNat<s.size:=(List.getElem?_eq_some_iff.1 hb).1;have hv:s[i.toNat]'hlt=b:=by
  have:=(List.getElem?_eq_some_iff.1 hb).2;rw[<- this];rfl
 rw[dif_pos ⟨h0,by omega⟩,hv]at h1;simp only[execOp,hop,ey,Sem.run_bind];have e1:a.eval (.const (.string s))= .string s:=rfl;rw[e1,h1];rfl
theorem b3B {x:Nat} (hx:x<=12):b1p x<=4:=by
 obtain rfl | rfl | rfl | rfl | rfl | rfl | rfl | rfl | rfl | rfl | rfl | rfl | rfl:x=0\/x=1\/x=2\/x=3\/x=4\/x=5\/x=6\/x=7\/x=8\/x=9\/x=10\/x=11\/x=12:=by omega
 all_goals decide
theorem b4e (x:Nat) (hx:x<=12):FP 230 [.int .u64 x] [] (λv As=>(∃k:Nat,k<=8/\v=iI k)/\As=[]):=by
 have h4:=b3B hx;refine FE [0] Tryz.func230 λX F hX=>?_;refine J.qd (λ_ h1=>?_) λ_ h1=>?_
 ·simp only[decide_eq_true_eq]at h1;omega
 refine J.qd (λ_ h2=>?_) λ_ h2=>?_
 ·simp only[decide_eq_true_eq]at h2;omega
 refine J.qd (λ_ h3=>?_) λ_ h3=>?_
 ·simp only[decide_eq_true_eq]at h3;omega
 refine J.q λ_=>?_;refine J.v (.int .u8 (UInt8.ofNat (b1p x)).toNat) rfl rfl (λhg a w he hs=>?_) ?_
 ·refine a5k rfl rfl he rfl b6s (by omega) ?_;obtain rfl | rfl | rfl | rfl | rfl | rfl | rfl | rfl | rfl | rfl | rfl | rfl | rfl:x=0\/x=1\/x=2\/x=3\/x=4\/x=5\/x=6\/x=7\/x=8\/x=9\/x=10\/x=11\/x=12:=by omega
  all_goals rfl
 have h5:(UInt8.ofNat (b1p x)).toNat=b1p x:=by rw[UInt8.toNat_ofNat'];omega
 rw[h5];refine J.qr [] λ_=>?_;exact⟨⟨b1p x,by omega,by simp⟩,rfl⟩
theorem b4v (x:Nat) (hx:x<=12):FP 170 [.int .u64 x] [] (λv As=>(∃k:Nat,k<=8/\v=iI k)/\As=[]):=by
 refine FE [0] Tryz.func170 λX F hX=>?_;refine J.qF λ_=>?_;refine J.qc (b4e x hx) [] λ_=>?_;rintro v As ⟨⟨k,hk,rfl⟩,rfl⟩;refine⟨_,rfl,trivial,?_⟩;refine J.qr [] λ_=>?_;exact⟨⟨k,hk,rfl⟩,rfl⟩
theorem b4O (c:Nat) (f:A3->A3->Int) (hcal:m5 Tryz.prog c=true) (hf:∀x y,Fn Tryz.prog c [I2 x,I2 y] [] (Ps (iI (f x y)) []))
  (g n cap:Nat) (l:List A3) (hl:l.length=n) (hn:n<=12) (r:List Value) (k:Nat):FP 289 [.slice (some ⟨g,0,none⟩) n cap,iI 0,iI n,iI k,fnV c] [.pt g 52 (j6 l++r)]
  (Ps (.tuple #[]) [.pt g 52 (j6 (P8 f l)++r)]):=by
 refine FE [2,0,0,0,0] Tryz.func289 λX F hX=>?_;refine J.q λ_=>?_;refine J.l (α:=Nat) (λy=>True) (λy=>[⟨0, .slice (some ⟨g,0,none⟩) n cap,2, .tt⟩,si 1 0,si 2 n,si 3 k,⟨4,fnV c,0, .tt⟩]) [1] (λy=>[.pt g 52 (j6 l++r)]) (λy=>0) (0) (trivial) λy hI=>?_;refine J.qd (λ_ h1=>?_) λ_ h1=>?_
 ·refine J.q λ_=>?_;rw[show(n:Int)-0=n from by omega]at*;refine J.qp (b5c c f hcal hf g n cap l hl (by omega) r) [1] λ_=>?_;exact J.qx [1]
 ·simp only[decide_eq_false_iff_not]at h1;omega
theorem b3m (c:Nat) (d:Value) (k:Nat):FP 289 [d,iI 0,iI 0,iI k,fnV c] [] (Ps (.tuple #[]) []):=by
 have h0:FP 292 [d,iI 0,iI 0,fnV c] [] (Ps (.tuple #[]) []):=by
  refine FE [0,0,0,0] Tryz.func292 λX F hX=>?_;refine J.q λ_=>?_;refine J.l (α:=Nat) (λy=>True) (λy=>[si 8 (0+1),sv 0 d,si 1 0,si 2 0,⟨3,fnV c,0, .tt⟩]) [] (λy=>[]) (λy=>0) (0) (trivial) λy hI=>?_;refine J.qd (λ_ h1=>?_) λ_ h1=>?_
  ·simp at h1
  ·refine J.q λ_=>?_;refine J.f [] ?_;exact⟨rfl,rfl⟩
 refine FE [0,0,0,0,0] Tryz.func289 λX F hX=>?_;refine J.q λ_=>?_;refine J.l (α:=Nat) (λy=>True) (λy=>[sv 0 d,si 1 0,si 2 0,si 3 k,⟨4,fnV c,0, .tt⟩]) [] (λy=>[]) (λy=>0) (0) (trivial) λy hI=>?_;refine J.qd (λ_ h1=>?_) λ_ h1=>?_
 ·refine J.qp (h0) [] λ_=>?_;exact J.qx []
 ·simp at h1
theorem a2k (c:Nat) (f:A3->A3->Int) (hcal:m5 Tryz.prog c=true) (hf:∀x y,Fn Tryz.prog c [I2 x,I2 y] [] (Ps (iI (f x y)) []))
  (a:Option Nat) (n cap:Nat) (l:List A3) (hl:l.length=n) (hn:n<=12):FP 283 [slv a n cap,fnV c] [c8 52 3 a n cap (j6 l)]
  (Ps (.tuple #[]) [c8 52 3 a n cap (j6 (P8 f l))]):=by
 refine FE [0,0] Tryz.func283 λX F hX=>?_;refine J.qc (b4v n hn) [] λ_=>?_;rintro v As ⟨⟨k,hk,rfl⟩,rfl⟩;refine⟨_,rfl,trivial,?_⟩;refine J.q λ_=>?_;cases a with
 | none=>
  refine J.know (λh' s=>(s.get (i:=1) rfl).2.1) λhn0=>?_;subst hn0;have:l=[]:=List.eq_nil_of_length_eq_zero hl;subst this;refine J.qp (b3m c (slv none 0 cap) k) [] λ_=>?_;refine J.q λ_=>?_;refine J.f [1] ?_;exact⟨rfl,rfl⟩
 | some g=>
  refine J.openOwn 1 rfl rfl (λ_=>rfl) λr q1 q2 q3 q4=>?_;refine J.qp (b4O c f hcal hf g n cap l hl hn r k) [1] λ_=>?_;refine J.closeOwn (e:=52) (size:=3) (n:=n) (cap:=cap) (xs:=j6 (P8 f l)) 1 rfl rfl (by rw[p5,(C1 f l).length_eq,hl]) q2 q3 (by rw[List.length_append,p5,(C1 f l).length_eq];rw[p5]at q4;exact q4) (by rw[List.take_left' (by rw[p5,(C1 f l).length_eq,hl])]) rfl ?_;refine J.q λ_=>?_;refine J.f [1] ?_;exact⟨rfl,rfl⟩
theorem V3:∀(n:Nat) (is:List Nat),is.Nodup->(∀i∈is,i<n)->is.length<=n
 | 0,is,_,h=>by
  cases is with
  | nil=>simp
  | cons x r=>have:=h x (by simp);omega
 | n+1,is,hn,h=>by
  have h1:=V3 n (is.erase n) (hn.erase n) (λi hi=>by
   rw[hn.mem_erase_iff]at hi;have:=h i hi.2;omega)
  rw[List.length_erase]at h1;split at h1<;>omega
def A4 (l:List A3) (is:List Nat):List A3:=is.map λi=>l.getD i d3
theorem a2s {l:List A3} {is:List Nat} (h:is.Perm (List.range l.length)):(A4 l is).Perm l:=by
 have h1:=h.map λi=>l.getD i d3;have h2:(List.range l.length).map (λi=>l.getD i d3)=l:=by
  apply List.ext_getElem?;intro k;rw[List.getElem?_map]
  by_cases hk:k<l.length
  ·rw[List.getElem?_range hk];simp[hk]
  ·rw[List.getElem?_eq_none (by simpa using hk),List.getElem?_eq_none (by simpa using hk)];rfl
 rwa [h2]at h1
theorem a7r {l:List A3} {is:List Nat} {j:Nat} {y:A3×Value} (hy:(x9 l)[j]? =some y):j6 (A4 l is)++[iI y.1.1,iI y.1.2.1,iI y.1.2.2]=j6 (A4 l (is++[j])):=by
 rw[x9,List.getElem?_map]at hy;cases h:l[j]? with
 | none=>rw[h]at hy;cases hy
 | some x=>
  rw[h]at hy;simp at hy;subst hy;simp[j6,A4,h]
theorem b5X (q:Nat) (l:List A3) (hl:l.length<=12):FP 267 [pp q] [I3 q l]
  (λv As=>∃a cap l',l'.Perm l/\v=slv a l'.length cap/\As=[I3 q l,c8 52 3 a l'.length cap (j6 l')]):=by
 refine FE [2] Tryz.func267 λX F hX=>?_;refine J.o (α:=Nat) 1 λmr=>?_;refine J.qF λ_=>?_;refine J.q λ_=>?_;refine J.rangeMap hX 2 b2P rfl rfl rfl rfl rfl rfl rfl (λ_=>rfl) (λ_=>rfl) λr=>⟨trivial,?_⟩;refine J.turn1 [] rfl (As:=[c8 52 3 none 0 0 (j6 (A4 l []))]) (λh s=>Sep.one ⟨rfl,rfl,rfl⟩) rfl ?_;refine J.q λ_=>?_;refine J.l (α:=(List Nat×Option Nat×Nat)) (λx=>True) (λx=>[sp 11 r,sv 3 (slv x.2.1 x.1.length x.2.2)]) [2,3] (λx=>[itA mr r a3v (x9 l) x.1,c8 52 3 x.2.1 x.1.length x.2.2 (j6 (A4 l x.1))]) (λx=>l.length-x.1.length) (([],none,0)) (trivial) λx hI=>?_;obtain⟨is,a,cap⟩:=x;dsimp only;refine J.q λ_=>?_;refine J.know (p:=is.Nodup/\∀i∈is,i<l.length) (λh s=>?_) λhk=>?_
 ·obtain⟨_,_,_,_,_,_,_,_,h1,h2,_⟩:=s.get (i:=2) rfl;exact⟨h1,λi hi=>by have:=h2 i hi;simpa[x9]using this⟩
 have hle:=V3 _ _ hk.1 hk.2;refine J.rangeNext hX 2 rfl rfl rfl rfl rfl rfl rfl (λ_=>rfl) (λ_=>rfl) (λhp=>⟨trivial,?_⟩) (λj y hj hy=>⟨trivial,?_⟩)
 ·rw[show(x9 l).length=l.length from by simp[x9]]at hp;refine J.qF λ_=>?_;refine J.qp (a2k 284 a4S (by kernel_rfl) a8e a is.length cap (A4 l is) (by simp[A4]) (by omega)) [3] λ_=>?_;refine J.turn1 [2] rfl (As:=[u4 mr a3v (x9 l)]) (λh s=>b1H s) rfl ?_;refine J.cl (λmr:Nat=>[.pt q 177 [.map (some mr)],u4 mr a3v (x9 l)]) mr [1,2] ?_;refine J.qr [1,3] λ_=>?_;have hlen:is.length=(P8 a4S (A4 l is)).length:=by rw[(C1 _ _).length_eq];simp[A4]
  refine⟨a,cap,P8 a4S (A4 l is),(C1 _ _).trans (a2s hp),?_,?_⟩
  ·rw[<- hlen]
  ·rw[<- hlen];rfl
 ·have hjl:j<l.length:=by have:=(List.getElem?_eq_some_iff.1 hy).1;simpa[x9]using this
  refine J.qT λ_=>?_;refine J.q λ_=>?_;have hlt:(is++[j]).length<=l.length:=V3 _ _ (by
   rw[List.nodup_append];exact⟨hk.1,by simp,λa ha b hb=>by simp at hb;subst hb;rintro rfl;exact hj ha⟩) (λi hi=>by
   rw[List.mem_append]at hi;rcases hi with hi | hi
   ·exact hk.2 i hi
   ·simp at hi;subst hi;exact hjl)
  rw[List.length_append,List.length_singleton]at hlt;refine J.rangeEntry hX 2 rfl rfl rfl rfl rfl rfl rfl hy rfl ⟨trivial,?_⟩;refine J.q λ_=>?_;refine J.append hX tk 3 5 0 rfl rfl rfl rfl rfl rfl rfl rfl rfl rfl rfl rfl rfl rfl rfl rfl ?_ ?_ (λ_=>rfl) λa' cap'=>⟨_,(congrArg (λz=>n5 _ 3 (c8 _ _ _ _ _ z)) (a7r hy)).trans rfl,trivial,?_⟩
  ·simp only[maxLen];omega
  ·omega
  refine J.q λ_=>?_;rw[show is.length+1=(is++[j]).length from by simp];refine J.q λ_=>?_;refine J.n ((is++[j],a',cap')) (trivial) (by dsimp only;rw[List.length_append,List.length_singleton];omega) [0,1,2,3]
theorem Sep.pack {A:Atom} {Pre:List Atom} {h:Hl} (s:Sep (A::Pre) h):Sep [A, .hp (HP.of Pre)] h:=by
 obtain⟨own,hw⟩:=s;refine⟨λb=>min (own b) 1,λi B hB=>?_⟩
 match i,hB with
 | 0,hB=>
  simp at hB;subst hB;refine Atom.up (λb o hb=>?_) (hw 0 A rfl);rw[res_some]at hb ⊢;exact⟨by rw[hb.1];rfl,hb.2⟩
 | 1,hB=>
  simp at hB;subst hB;refine⟨λb=>own b-1,λj B hB=>?_⟩;refine Atom.up (λb o hb=>?_) (hw (j+1) B (by simpa using hB));rw[res_some]at hb ⊢;refine⟨by rw[hb.1];rfl,?_⟩;rw[res_some];exact⟨by rw[hb.1];omega,hb.2⟩
 | k+2,hB=>simp at hB
theorem Sep.unpack {A:Atom} {Pre:List Atom} {h:Hl} (s:Sep [A, .hp (HP.of Pre)] h):Sep (A::Pre) h:=by
 obtain⟨own,hw⟩:=s;obtain⟨own2,hw2⟩:Sep Pre (res h own 1):=hw 1 _ rfl;refine⟨λb=>if own b=1 then own2 b+1 else 0,λi B hB=>?_⟩;cases i with
 | zero=>
  simp at hB;subst hB;refine Atom.up (λb o hb=>?_) (hw 0 A rfl);rw[res_some]at hb ⊢;exact⟨by rw[if_neg (by omega)],hb.2⟩
 | succ j=>
  refine Atom.up (λb o hb=>?_) (hw2 j B (by simpa using hB));rw[res_some]at hb ⊢;have h1:=res_some.1 hb.2;exact⟨by rw[if_pos h1.1,hb.1],h1.2⟩
theorem Fn.pack {P:Program} {f:FuncId} {args:List Value} {Pre:List Atom} {q:Value->Prop} (c:Fn P f args Pre (λv As=>q v/\As=Pre)):Fn P f args [.hp (HP.of Pre)] (λv As=>q v/\As=[.hp (HP.of Pre)]):=by
 intro F w s;refine Calls.mono (c F w (Sep.unpack s)) λe w' ⟨v,As,h1,h2,h3,h4⟩=>?_;obtain⟨h5,rfl⟩:=h2;exact⟨v,_,h1,⟨h5,rfl⟩,Sep.pack h3,h4⟩
section
variable {X : Cx} {P : Program} {T : Tab} {K : List KI} {E : Env} {L : List Atom} {N : Nat} {F : HP} {Post : Value → List Atom → Prop} {rs : List ResultVar}
theorem J.clear (hX:IsCx X P rs N F Post) (hT:TabOK P T) {ops:Array Oper} {C:Cl} {lt:Bool} {i:Nat} {t:PT} {o:Oper} {g:G} {x:Operand} {k1 t1 b off n c st e ty size s1 b1 by_:Nat} {g1:G} {z z1:List Value} {td:TD} {cs:List Value} {E':Value->Env} {L2:List Value->List Atom} (is:Nat)
  (ho:m6 ops.toList i=some o) (hg:gd ops.toList E o=some g) (hgo:g.on=true) (hop:o.op= .call ⟨.builtin .clear,#[x],#[st]⟩) (hx:ev E x=some ⟨k1, .slice (some ⟨b,off,none⟩) n c,t1,g1⟩) (v1:g1.on=true)
  (hst:T.get st=some ⟨.slice e size,s1,z1,b1⟩) (he:T.get e=some ⟨td,size,z,by_⟩) (hz:Nat.beq z.length size=true) (hz1:z.all (·.oneCell')=true) (hL:m6 L is=some (.pt b ty cs)) (hlt:off+n*size<=cs.length)
  (hL2:∀cs',n5 L is (.pt b ty cs')=some (L2 cs')) (hd:∀v,y9 N o.dst v 0 .tt E=some (E' v))
  (hJ:∀cs',cs'.length=cs.length->cs'.take off=cs.take off->Conj (p4 lt C (L2 cs'))/\J X (.reg ops C t::K) (E' (.tuple #[])) (L2 cs')):J X (.reg ops C (.alt lt i t .non)::K) E L:=by
 refine J.op hX (S:=λv' L'=>∃cs',cs'.length=cs.length/\cs'.take off=cs.take off/\v'= .tuple #[]/\L'=L.set is (.pt b ty cs')) 0 ho hg hgo (λa0 w hen hs=>?_) hd (λv L' ⟨cs',q1,q2,e1,e2⟩=>by subst e1;subst e2;rw[<- u5 (hL2 cs')];exact hJ cs' q1 q2);rw[l9]at hL;have ex:=i7 hen hx;simp only[Slot.val,v1]at ex;obtain⟨d,f,zv,ok⟩:=d8 (hT.get hst);obtain⟨fe,rfl,g1',g2'⟩:=ok.slice rfl;obtain⟨d',f',zv',ok'⟩:=d8 (hT.get he);have hzl:zv'.cells.toList=z:=ok'.hzero.symm;have hzn:zv'.cells.size=size:=by rw[<- Array.length_toList,hzl];exact Nat.eq_of_beq_eq_true hz
 have hblk:Blk w b ty cs.toArray:=hs.pt hL;cases n with
 | zero=>
  refine⟨_,L.set is (.pt b ty cs), .value (.tuple #[]),w,⟨cs,rfl,rfl,rfl,rfl⟩,?_, .inl rfl,?_,Ext.refl _⟩
  ·simp[execOp,hop,ex,resolve,invoke,builtin,Builtin.clear_,d4 ok.hd]
  ·have e:L.set is (.pt b ty cs)=L:=by
    apply List.ext_getElem?;intro j;rw[List.getElem?_set];split
    ·rename_i e;subst e;rw[if_pos (List.getElem?_eq_some_iff.1 hL).1,hL]
    ·rfl
   rw[e];exact hs
 | succ n=>
  have hlen:(Builtin.zeroCells zv'.cells (n+1)).toList.length=(n+1)*size:=by rw[Array.length_toList,size_zeroCells,hzn]
  have hall:(Builtin.zeroCells zv'.cells (n+1)).toList.all (·.oneCell')=true:=by
   rw[List.all_eq_true];intro u hu;simp only[Builtin.zeroCells,Array.toList_map,List.mem_map]at hu;obtain⟨k,hk,rfl⟩:=hu;have hk':k<(n+1)*zv'.cells.size:=by simpa using hk
   have hpos:0<zv'.cells.size:=by
    rcases Nat.eq_zero_or_pos zv'.cells.size with h0 | h0
    ·rw[h0]at hk';omega
    ·exact h0
   have hm:=Nat.mod_lt k hpos;rw[getElem!_pos zv'.cells (k % zv'.cells.size) hm];rw[List.all_eq_true]at hz1;apply hz1;rw[<- hzl];simp
  obtain⟨w',r1,r2,r3⟩:=y3 (P:=P) (o:=off) (Builtin.zeroCells zv'.cells (n+1)).toList 0 w cs _ hblk (by rw[Nat.add_zero];exact a2J cs off _ (by rw[hlen];exact hlt)) hall;have hr:(execOp a0.eval o).run P w= .ok (.value (.tuple #[])) w':=by
   simp[execOp,hop,ex,resolve,invoke,builtin,Builtin.clear_,d4 ok.hd,U5 ok'.hf ok'.hz,r1]
  clear r1;generalize Builtin.zeroCells zv'.cells (n+1)=Z at hlen r2;have k1:(cs.take off++Z.toList++cs.drop (off+Z.toList.length)).length=cs.length:=by
   simp only[List.length_append,List.length_take,List.length_drop,hlen];omega
  have k2:(cs.take off++Z.toList++cs.drop (off+Z.toList.length)).take off=cs.take off:=by
   rw[List.append_assoc,List.take_append_of_le_length (by simp;omega),List.take_take,Nat.min_self]
  refine⟨_,L.set is (.pt b ty (cs.take off++Z.toList++cs.drop (off+Z.toList.length))), .value (.tuple #[]),w',⟨_,k1,k2,rfl,rfl⟩,?_, .inl rfl,?_,r3⟩
  ·exact hr
  ·rw[r2];exact hs.setPt _ hL
end
def fnC (c:Nat) (cs:List Value):Value:= .func (.func c) #[] cs.toArray
def b3H (p:A3->Bool) (l:List A3):Int:=match l.findIdx? p with
 | some k=>k
 | none=> -1
theorem a3e {l:List A3} {k:Nat} {x:A3} (h:l[k]? =some x):((j6 l).drop (k*3)).take 3=[iI x.1,iI x.2.1,iI x.2.2]:=by
 have:=z8 l [] k x h
 rwa [List.append_nil]at this
theorem b1J {p:A3->Bool} {l:List A3} {k:Nat} {x:A3} (h:l[k]? =some x) (h0:∀i<k,p (l.getD i d3)=false) (hp:p x=true):l.findIdx? p=some k:=by
 rw[List.findIdx?_eq_some_iff_getElem];obtain⟨h1,h2⟩:=List.getElem?_eq_some_iff.1 h;refine⟨h1,by rw[h2];exact hp,λj hj=>?_⟩;have:=h0 j hj;rw[List.getD_eq_getElem?_getD,List.getElem?_eq_getElem (by omega),Option.getD_some]at this;simp[this]
theorem b1K {p:A3->Bool} {l:List A3} (h0:∀i<l.length,p (l.getD i d3)=false):l.findIdx? p=none:=by
 rw[List.findIdx?_eq_none_iff];intro x hx;obtain⟨i,hi,rfl⟩:=List.mem_iff_getElem.1 hx;have:=h0 i hi
 rwa [List.getD_eq_getElem?_getD,List.getElem?_eq_getElem hi,Option.getD_some]at this
theorem b2H (c:Nat) (cs:List Value) (p:A3->Bool) (A:Atom) (hcal:m5 Tryz.prog c=true) (hf:∀x,Fn Tryz.prog c (I2 x::cs) [A] (λv As=>v= .bool (p x)/\As=[A]))
  (a:Option Nat) (n cap:Nat) (l:List A3) (hl:l.length=n) (hn:n<=4611686018427387904):FP 282 [slv a n cap,fnC c cs] [c8 52 3 a n cap (j6 l),A]
  (λv As=>v=iI (b3H p l)/\As=[c8 52 3 a n cap (j6 l),A]):=by
 refine FE [0,0] Tryz.func282 λX F hX=>?_;refine J.q λ_=>?_;refine J.l (α:=Nat) (λk=>k<=n/\∀i<k,p (l.getD i d3)=false) (λk=>[si 8 k,si 7 n,sv 0 (slv a n cap),⟨1,fnC c cs,0, .tt⟩]) [] (λk=>[]) (λk=>n-k) (0) (⟨by omega,by omega⟩) λk hI=>?_;refine J.qd (λ_ h1=>?_) λ_ h1=>?_
 ·simp only[decide_eq_true_eq,Int.ofNat_lt]at h1;cases a with
  | none=>
   refine J.know (λh' s=>(s.get (i:=1) rfl).2.1) λhn0=>?_;omega
  | some g=>
   have hk:l[k]? =some (l.getD k d3):=by rw[List.getD_eq_getElem?_getD,List.getElem?_eq_getElem (by omega),Option.getD_some]
   refine J.q λ_=>?_;refine J.v (I2 (l.getD k d3)) rfl rfl (λhg a w he hs=>?_) ?_
   ·exact n3 tk rfl rfl he rfl rfl rfl (hs.get (i:=1) rfl) (by rw[show 0+(k:Int).toNat*3=k*3 from by omega];exact a3e hk) rfl
   refine J.q λ_=>?_;refine J.call hX hcal (hf (l.getD k d3)) [2] 0 rfl rfl rfl rfl (by(repeat' (first | exact Conj.nil | refine Conj.cons ?_ ?_ | omega | exact hq0 | (simpa using hq0) | (exactλh=>h) | exact rfl | (intro hq;have hq0:=hq;try simp only[Bool.and_eq_true,Bool.or_eq_true,decide_eq_true_eq,Bool.not_eq_true',decide_eq_false_iff_not]at hq) | (simp;done) | (simp;omega) | decide))) rfl rfl (λ_=>rfl) ?_;refine cpq ⟨_,rfl,trivial,?_⟩;refine J.qd (λ_ h2=>?_) λ_ h2=>?_
   ·refine J.qr [1,2] λ_=>?_;exact⟨by rw[b3H,b1J hk hI.2 h2],rfl⟩
   ·refine J.q λ_=>?_;refine J.nx (k+1) (⟨by omega,λi hi=>by
     rcases Nat.lt_succ_iff_lt_or_eq.1 hi with h3 | h3
     ·exact hI.2 i h3
     ·rw[h3];exact h2⟩) (by omega) (λ_ s=>s)
 ·simp only[decide_eq_false_iff_not,Int.ofNat_lt]at h1;refine J.qr [1,2] λ_=>?_;exact⟨by rw[b3H,b1K (λi hi=>hI.2 i (by omega))],rfl⟩
def DelI (p:A3->Bool) (l m:List A3) (i j:Nat):Prop:=m.length=l.length/\i<j/\j<=l.length/\m.drop j=l.drop j/\m.take i++(l.drop j).filter (λx=>!p x)=l.filter (λx=>!p x)
theorem DelI.start {p:A3->Bool} {l:List A3} {k:Nat} (h:l.findIdx? p=some k):DelI p l l k (k+1):=by
 rw[List.findIdx?_eq_some_iff_getElem]at h;obtain⟨h1,h2,h3⟩:=h;refine⟨rfl,by omega,by omega,rfl,?_⟩;have e:l=l.take k++l[k]::l.drop (k+1):=by rw[<- List.drop_eq_getElem_cons h1,List.take_append_drop]
 have e2:(l.take k).filter (λx=>!p x)=l.take k:=by
  rw[List.filter_eq_self];intro x hx;obtain⟨i,hi,rfl⟩:=List.mem_iff_getElem.1 hx;rw[List.getElem_take];have:=h3 i (by simp at hi;omega);simpa using this
 conv=>rhs;rw[e]
 rw[List.filter_append,e2,List.filter_cons_of_neg (by simp[h2])]
theorem DelI.skip {p:A3->Bool} {l m:List A3} {i j:Nat} (h:DelI p l m i j) (hj:j<l.length) (hp:p (m.getD j d3)=true):DelI p l m i (j+1):=by
 obtain⟨h1,h2,h3,h4,h5⟩:=h;have e1:m[j]? =l[j]?:=by have:=congrArg (λz=>z[0]?) h4;simpa using this
 have hx:l[j]=m.getD j d3:=by rw[List.getD_eq_getElem?_getD,e1,List.getElem?_eq_getElem hj,Option.getD_some]
 refine⟨h1,by omega,by omega,?_,?_⟩
 ·have:=congrArg (List.drop 1) h4;simpa[List.drop_drop]using this
 ·rw[<- h5,List.drop_eq_getElem_cons hj,List.filter_cons_of_neg (by rw[hx,hp];simp)]
theorem DelI.keep {p:A3->Bool} {l m:List A3} {i j:Nat} (h:DelI p l m i j) (hj:j<l.length) (hp:p (m.getD j d3)=false):DelI p l (m.set i (m.getD j d3)) (i+1) (j+1):=by
 obtain⟨h1,h2,h3,h4,h5⟩:=h;have e1:m[j]? =l[j]?:=by have:=congrArg (λz=>z[0]?) h4;simpa using this
 have hx:l[j]=m.getD j d3:=by rw[List.getD_eq_getElem?_getD,e1,List.getElem?_eq_getElem hj,Option.getD_some]
 refine⟨by simp[h1],by omega,by omega,?_,?_⟩
 ·rw[List.drop_set_of_lt (by omega)];have:=congrArg (List.drop 1) h4;simpa[List.drop_drop]using this
 ·rw[<- h5,List.drop_eq_getElem_cons hj,List.filter_cons_of_pos (by rw[hx,hp];simp),hx,List.take_set,List.take_add_one,List.getElem?_eq_getElem (by omega)];rw[List.set_append_right _ _ (by simp;omega)];simp[List.length_take,Nat.min_eq_left (show i<=m.length by omega)]
theorem a5H (c:Nat) (cs:List Value) (p:A3->Bool) (A:Atom) (hcal:m5 Tryz.prog c=true) (hf:∀x,Fn Tryz.prog c (I2 x::cs) [A] (λv As=>v= .bool (p x)/\As=[A]))
  (a:Option Nat) (n cap:Nat) (l:List A3) (hl:l.length=n) (hn:n<=4611686018427387904):FP 266 [slv a n cap,fnC c cs] [c8 52 3 a n cap (j6 l),A]
  (λv As=>∃l',l'=l.filter (λx=>!p x)/\v=slv a l'.length cap/\As=[c8 52 3 a l'.length cap (j6 l'),A]):=by
 refine FE [0,0] Tryz.func266 λX F hX=>?_;refine J.qp (b2H c cs p A hcal hf a n cap l hl hn) [1,2] λ_=>?_;rw[b3H];cases hx:l.findIdx? p with
 | none=>
  dsimp only;refine J.qT λ_=>?_;refine J.qr [1,2] λ_=>?_;have:l.filter (λx=>!p x)=l:=by
   rw[List.filter_eq_self];intro x hm;rw[List.findIdx?_eq_none_iff]at hx;simp[hx x hm]
  exact⟨l,this.symm,by rw[hl],by rw[hl];rfl⟩
 | some k=>
  dsimp only;refine J.qd (λ_ h0=>?_) λ_ h0=>?_
  ·simp only[beq_iff_eq]at h0;omega
  have hk:k<n:=by rw[List.findIdx?_eq_some_iff_getElem]at hx;obtain⟨h1,_⟩:=hx;omega
  cases a with
  | none=>
   refine J.know (λh' s=>(s.get (i:=1) rfl).2.1) λhn0=>?_;omega
  | some g=>
   refine J.openOwn 1 rfl rfl (λ_=>rfl) λr q1 q2 q3 q4=>?_;refine J.q λ_=>?_;rw[show(k:Int)+1=((k+1:Nat):Int)from by omega];refine J.q λ_=>?_;refine J.l (α:=(Nat×Nat×List A3)) (λx=>DelI p l x.2.2 x.1 x.2.1) (λx=>[si 6 x.2.1,si 5 x.1,sv 0 (slv (some g) n cap),⟨1,fnC c cs,0, .tt⟩]) [1] (λx=>[.pt g 52 (j6 x.2.2++r)]) (λx=>n-x.2.1) ((k,k+1,l)) (DelI.start hx) λx hI=>?_;obtain⟨i,j,m⟩:=x;dsimp only at hI ⊢;have hml:m.length=n:=hI.1.trans hl;have hij:i<j:=hI.2.1;have hjn:j<=n:=by have:=hI.2.2.1;omega
   refine J.qd (λ_ h1=>?_) λ_ h1=>?_
   ·simp only[decide_eq_true_eq,Int.ofNat_lt]at h1;have hget:m[j]? =some (m.getD j d3):=by rw[List.getD_eq_getElem?_getD,List.getElem?_eq_getElem (by omega),Option.getD_some]
    refine J.q λ_=>?_;refine J.v (I2 (m.getD j d3)) rfl rfl (λhg a w he hs=>?_) ?_
    ·exact j7 tk rfl rfl he rfl rfl rfl (hs.get (i:=1) rfl) (by rw[show 0+(j:Int).toNat*3=j*3 from by omega];exact z8 m r _ _ hget) rfl
    refine J.q λ_=>?_;refine J.call hX hcal (hf (m.getD j d3)) [2] 0 rfl rfl rfl rfl (by(repeat' (first | exact Conj.nil | refine Conj.cons ?_ ?_ | omega | exact hq0 | (simpa using hq0) | (exactλh=>h) | exact rfl | (intro hq;have hq0:=hq;try simp only[Bool.and_eq_true,Bool.or_eq_true,decide_eq_true_eq,Bool.not_eq_true',decide_eq_false_iff_not]at hq) | (simp;done) | (simp;omega) | decide))) rfl rfl (λ_=>rfl) ?_;refine cpq ⟨_,rfl,trivial,?_⟩;refine J.qd (λ_ h2=>?_) λ_ h2=>?_
    ·simp only[Bool.not_eq_true']at h2;refine J.q λ_=>?_;refine J.storeN hX tk 1 rfl rfl rfl rfl rfl rfl rfl rfl rfl rfl rfl rfl rfl ?_ (j6 (m.set i (m.getD j d3))++r) ?_ rfl (λ_=>rfl) ⟨trivial,?_⟩
     ·rw[List.length_append,p5];show 0+(i:Int).toNat*3+3<=_;omega
     ·rw[show 0+(i:Int).toNat*3=i*3 from by omega];exact E7 m r i _ (by omega)
     refine J.q λ_=>?_;refine J.n ((i+1,j+1,m.set i (m.getD j d3))) (hI.keep (by omega) h2) (by dsimp only;omega) [0,1,2]
    ·simp only[Bool.not_eq_false']at h2;refine J.q λ_=>?_;refine J.n ((i,j+1,m)) (hI.skip (by omega) h2) (by dsimp only;omega) [0,1,2]
   ·simp only[decide_eq_false_iff_not,Int.ofNat_lt]at h1;obtain rfl:j=n:=by omega
    have hfil:m.take i=l.filter (λx=>!p x):=by
     have h5:=hI.2.2.2.2;rw[List.drop_of_length_le (by omega)]at h5;simpa using h5
    refine J.q λ_=>?_;refine J.clear hX tk 1 rfl rfl rfl rfl rfl rfl rfl rfl rfl rfl rfl ?_ (λ_=>rfl) (λ_=>rfl) λcs' z1 z2=>⟨trivial,?_⟩
    ·rw[List.length_append,p5];rw[p5]at q4;show 0+(i:Int).toNat*3+(j-(i:Int).toNat)*3<=_;have:(i:Int).toNat=i:=by omega
     rw[this];omega
    have hilen:(l.filter (λx=>!p x)).length=i:=by rw[<- hfil,List.length_take];omega
    refine J.closeOwn (e:=52) (size:=3) (n:=i) (cap:=cap) (xs:=j6 (l.filter (λx=>!p x))) 1 rfl rfl (by rw[p5,hilen]) (by omega) q3 (by rw[z1,List.length_append,p5,hml];rw[p5,hl]at q4;exact q4) ?_ rfl ?_
    ·have z3:(0+(i:Int).toNat*3)=i*3:=by omega
     rw[z3]at z2;rw[z2,<- hfil];have e:j6 m=j6 (m.take i)++j6 (m.drop i):=by
      conv=>lhs;rw[<- List.take_append_drop i m]
      simp only[j6,List.flatMap_append]
     rw[e,List.append_assoc,List.take_left' (by rw[p5,List.length_take,Nat.min_eq_left (by omega)])]
    refine J.qr [1,2] λ_=>?_;exact⟨_,rfl,by rw[hilen];rfl,by rw[hilen];rfl⟩
theorem b0D (b4 b5:Nat) (die blk:Int) (x:A3):FP 268 (I2 x::[pp b4,pp b5]) [.pt b4 3 [iI die], .pt b5 3 [iI blk]]
  (Ps (.bool ((x.1 !=die)||(x.2.1 !=blk))) [.pt b4 3 [iI die], .pt b5 3 [iI blk]]):=by
 refine FE [0,2,3] Tryz.func268 λX F hX=>?_;exact J.qx [1,2]
theorem b3a (q:Nat) (l:List A3) (hl:l.length<=12) (die blk:Int):FP 237 [pp q,iI die,iI blk] [I3 q l]
  (λv As=>∃a cap l',l'.Perm (l.filter λx=>!((x.1 !=die)||(x.2.1 !=blk)))/\v=slv a l'.length cap/\As=[I3 q l,c8 52 3 a l'.length cap (j6 l')]):=by
 refine FE [2,0,0] Tryz.func237 λX F hX=>?_;refine J.q λbb=>?_;refine J.cb (b5X q l hl) [1] ?_;rintro v As ⟨a,cap,l',hp,rfl,rfl⟩;refine⟨_,rfl,trivial,?_⟩;refine J.q λ_=>?_;refine J.turn1 [2,3] rfl (As:=[.hp (HP.of [.pt (bb 0) 3 [iI die], .pt (bb 1) 3 [iI blk]])]) (λh s=>Sep.hpOf.2 s) rfl ?_;refine J.q λ_=>?_;refine J.ca hX (by kernel_rfl) (a5H 268 [pp (bb 0),pp (bb 1)] (λx=>(x.1 !=die)||(x.2.1 !=blk)) _ (by kernel_rfl) (λx=>Fn.pack (b0D (bb 0) (bb 1) die blk x)) a l'.length cap l' rfl (by rw[hp.length_eq];omega)) [4,2] 0 rfl rfl rfl rfl rfl rfl (λ_=>rfl) ?_;rintro v As ⟨l2,rfl,rfl,rfl⟩;refine⟨_,rfl,trivial,?_⟩;refine J.qr [1,4] λ_=>?_;exact⟨a,cap,_,hp.filter _,rfl,rfl⟩
def ext (l:List NCell) (m:Nat):List NCell:=l++List.replicate m Nand.zcell
theorem b2l (l:List NCell) (m:Nat):ext l m++[Nand.zcell]=ext l (m+1):=by simp[ext,List.replicate_succ']
theorem a0C (l:List NCell) (m:Nat):(ext l m).length=l.length+m:=by simp[ext]
def J4 (l:List NCell) (k:Nat):List NCell:=(l.take k).map (λc=>{c with lost:=true})++l.drop k
theorem a7y (l:List NCell) (k:Nat):(J4 l k).length=l.length:=by simp[J4];omega
theorem a6t {l:List NCell} {k:Nat} (h:k<l.length):(J4 l k).modify k (λc=>{c with lost:=true})=J4 l (k+1):=by
 apply List.ext_getElem?;intro j;rw[List.getElem?_modify];simp only[J4,List.getElem?_append,List.length_map,List.length_take,List.getElem?_map,List.getElem?_take,List.getElem?_drop]
 by_cases e:k=j
 ·subst e;rw[if_neg (by omega),if_pos (by omega),if_pos (by omega),show k+(k-min k l.length)=k from by omega];rw[List.getElem?_eq_getElem h];simp
 ·have e2:(λa:NCell=>if k=j then {a with lost:=true}else a)=id:=by funext a;rw[if_neg e];rfl
  simp only[Option.map_eq_map,e2,Option.map_id_fun,id]
  by_cases h1:j<k
  ·rw[if_pos (show j<min k l.length by omega),if_pos h1,if_pos (show j<min (k+1) l.length by omega),if_pos (show j<k+1 by omega)]
  ·rw[if_neg (show¬j<min k l.length by omega),if_neg (show¬j<min (k+1) l.length by omega),show k+(j-min k l.length)=j from by omega,show k+1+(j-min (k+1) l.length)=j from by omega]
theorem a1v:∀(l' pl:List A3),pl.Nodup->l'.foldl List.erase pl=pl.filter (λx=>decide (x∉l'))
 | [],pl,_=>(List.filter_eq_self.2 (by simp)).symm
 | a::l',pl,h=>by
  rw[List.foldl_cons,a1v l' _ (h.erase a),h.erase_eq_filter,List.filter_filter];apply List.filter_congr;intro x _
  by_cases e:x=a
  ·subst e;simp
  ·simp[e]
theorem a9N {l' pl:List A3} {x y:Int} (h:pl.Nodup) (hp:l'.Perm (pl.filter λa=>!((a.1 !=x)||(a.2.1 !=y)))):l'.foldl List.erase pl=pl.filter λa=>!(decide (a.1=x)&&decide (a.2.1=y)):=by
 rw[a1v l' pl h];apply List.filter_congr;intro a ha;have:a∈l'↔(a.1=x/\a.2.1=y):=by
  rw[hp.mem_iff,List.mem_filter];simp[ha]
 by_cases h1:a.1=x/\a.2.1=y
 ·rw[decide_eq_false (by rw[this];simpa using h1)];simp[h1]
 ·rw[decide_eq_true (by rw[this];exact h1)];simp only[not_and]at h1
  by_cases h2:a.1=x
  ·simp[h2,h1 h2]
  ·simp[h2]
theorem a7J {N:Nand} {x y:Int} (h:N.refuses x y 0=0) (h6:N.cutB=true):N.eraseN x y=N.cutN.setBlk x.toNat y.toNat {N.blk x.toNat y.toNat with cells:=((N.blk x.toNat y.toNat).cells++List.replicate (N.pages-(N.blk x.toNat y.toNat).cells.length) Nand.zcell).map λc=>{c with lost:=true}}:=by
 unfold Nand.eraseN;rw[if_neg (by simp[h]),if_pos h6]
theorem a6M {N:Nand} {x y:Int} (h:N.refuses x y 0=0) (h6:N.cutB=false) (h7:(N.blk x.toNat y.toNat).fails=true):N.eraseN x y=N.cutN.setBlk x.toNat y.toNat {N.blk x.toNat y.toNat with met:=true}:=by
 unfold Nand.eraseN;rw[if_neg (by simp[h]),if_neg (by simp[h6]),if_pos h7]
theorem a9O {N:Nand} {x y:Int} (h:N.refuses x y 0=0) (h6:N.cutB=false) (h7:(N.blk x.toNat y.toNat).fails=false):N.eraseN x y={N.cutN.setBlk x.toNat y.toNat {N.blk x.toNat y.toNat with cells:=[],worn:=(N.blk x.toNat y.toNat).worn+1}with plan:=N.plan.filter λa=>!(decide (a.1=x)&&decide (a.2.1=y))}:=by
 unfold Nand.eraseN;rw[if_neg (by simp[h]),if_neg (by simp[h6]),if_neg (by simp[h7])]
theorem a8o (p:Nat) (N:Nand) (hN:N.Ok) (hR:N.Room) (hpn:N.plan.Nodup) (hpl:N.plan.length<=12) (x y:Int):FP 184 [pp p,iI x,iI y] [g7 p N] (Ps (iI (N.eraseE x y)) [g7 p (N.eraseN x y)]):=by
 have hbd:=hN.bd;have hnum:=hN.num;have hr0:=hR.ops;refine FE [2,0,0] Tryz.func184 λX F hX=>?_;refine J.qp (O6 x y) [] λ_=>?_;refine J.qp (a0T p N hN x y 0) [1] λ_=>?_;refine J.qd (λ_ h=>?_) λ_ h=>?_
 ·simp only[bne_iff_ne,ne_eq]at h;refine J.qr [1] λ_=>?_;exact⟨by simp only[Nand.eraseE,ne_eq,h,not_false_eq_true,if_pos],by simp only[Nand.eraseN,ne_eq,h,not_false_eq_true,if_pos];rfl⟩
 simp only[bne_eq_false_iff_eq]at h;obtain⟨hoff,hdd,hr⟩:=Nand.refuses_zero h;obtain⟨i,rfl⟩:=Int.eq_ofNat_of_zero_le hr.1;obtain⟨j,rfl⟩:=Int.eq_ofNat_of_zero_le hr.2.2.1;have hi:i<N.dies:=by omega
 have hj:j<N.blocks:=by omega
 have hlen:=(hN.cells i j hi hj).1;refine J.o (α:=NLoc) 1 λY=>?_;refine J.openAt 5 (i*N.blocks+j) rfl rfl (E9 _ _ _ _ _ (a2H hi hj)) rfl ?_;rw[(A7 hj).1,(A7 hj).2];refine J.o (α:=(Option Nat×Nat)) 6 λc=>?_;refine J.p (.of [0,4,8,13,16,20,26,29,32]) [8] [1,2,3,4,5,6,7] λ_=>?_;refine J.qp (O6 i j) [] λ_=>?_;refine J.q λ_=>?_;refine J.valT hX (pp (Y.bp (i*N.blocks+j))) 7 rfl rfl (λ_ a w he hC=>?_) rfl ?_
 ·refine(l4 (key:=((i:Int),(j:Int),0)) D7 T4 (z:= .pointer none) (λw=>by kernel_rfl) rfl rfl rfl rfl he rfl rfl (hC rfl _ (d7 (i:=2) rfl))).trans ?_;simp only[H6 hi hj];rfl
 refine J.qp (b4q p N Y hN hR) [1] λ_=>?_;refine J.qd (λ_ h6=>?_) λ_ h6=>?_
 ·refine J.q λ_=>?_;rw[show(N.blk i j).cells=ext (N.blk i j).cells 0 from by simp[ext]];refine J.q λ_=>?_;refine J.l (α:=(Option Nat×Nat×Nat)) (λz=>(ext (N.blk i j).cells z.2.2).length<=N.pages) (λz=>[⟨8,pp (Y.bp (i*N.blocks+j)),7, .tt⟩,⟨0,pp p,2, .tt⟩]) [6,7] (λz=>[.pt (Y.bp (i*N.blocks+j)) 111 [slv z.1 (ext (N.blk i j).cells z.2.2).length z.2.1,iI (N.blk i j).worn, .bool (N.blk i j).fails, .bool (N.blk i j).met],c8 268 34 z.1 (ext (N.blk i j).cells z.2.2).length z.2.1 (n9 (ext (N.blk i j).cells z.2.2))]) (λz=>N.pages-(ext (N.blk i j).cells z.2.2).length) ((c.1,c.2,0)) (by rw[a0C];omega) λz hI=>?_;obtain⟨a,cap,m⟩:=z;dsimp only at hI ⊢;refine J.p (.of [0,4,8,13,16,20,24,28,32,37,40]) [] [1,2,3,4,5,6,7] λ_=>?_;refine J.qd (λ_ h8=>?_) λ_ h8=>?_
  ·simp only[decide_eq_true_eq,Int.ofNat_lt]at h8;rw[show N.cutN.pages=N.pages from rfl]at h8;refine J.q λ_=>?_;refine J.append hX tk 7 8 0 rfl rfl rfl rfl rfl rfl rfl rfl rfl rfl rfl rfl rfl rfl rfl rfl ?_ ?_ (λ_=>rfl) λa' cap'=>⟨_,b0B Nand.zcell rfl rfl,trivial,?_⟩
   ·simp only[maxLen];omega
   ·omega
   refine J.q λ_=>?_;rw[a4E _ Nand.zcell,b2l];refine J.q λ_=>?_;refine J.n ((a',cap',m+1)) (by dsimp only;rw[a0C]at h8 ⊢;omega) (by dsimp only;rw[a0C]at h8 ⊢;rw[a0C];omega) [0,1,2,3,4,5,6,7]
  ·simp only[decide_eq_false_iff_not,Int.ofNat_lt]at h8;rw[show N.cutN.pages=N.pages from rfl]at h8;have hm:(ext (N.blk i j).cells m).length=N.pages:=by omega
   have hm2:m=N.pages-(N.blk i j).cells.length:=by rw[a0C]at hm;omega
   have hext:ext (N.blk i j).cells m=(N.blk i j).cells++List.replicate (N.pages-(N.blk i j).cells.length) Nand.zcell:=by rw[hm2];rfl
   generalize ext (N.blk i j).cells m=B at hm hext;refine J.know (λh' s=>i9 (c:=(a,cap)) (by omega) (s.get (i:=7) rfl)) λhg=>?_;obtain⟨g,hg⟩:=hg;simp only at hg;subst hg;refine J.openOwn 7 rfl rfl (λ_=>rfl) λr q1 q2 q3 q4=>?_;refine J.q λ_=>?_;refine J.l (α:=Nat) (λk=>k<=B.length) (λk=>[si 56 k,si 55 B.length,⟨8,pp (Y.bp (i*N.blocks+j)),7, .tt⟩]) [7] (λk=>[.pt g 268 (n9 (J4 B k)++r)]) (λk=>B.length-k) (0) (Nat.zero_le _) λk hI=>?_;refine J.qd (λ_ h9=>?_) λ_ h9=>?_
   ·simp only[decide_eq_true_eq,Int.ofNat_lt]at h9;refine J.q λ_=>?_;have hbl:(J4 B k).length=B.length:=a7y B k;obtain⟨cl,hcl⟩:∃cl,(J4 B k)[k]? =some cl:=⟨_,List.getElem?_eq_getElem (by omega)⟩;refine J.s1 7 (n9 (J4 B (k+1))++r) ?_ ?_ ?_
    ·rw[List.length_append,l5];show 0+(k:Int).toNat*34+32<_;simp only[Int.toNat_natCast];omega
    ·rw[show 0+(k:Int).toNat*34+32=k*34+32 from by simp,List.set_append_left _ _ (by rw[l5];omega)];rw[K5 _ k 32 _ (λc=>{c with lost:=true}) cl hcl (by omega) rfl,a6t h9]
    refine J.q λ_=>?_;refine J.nx (k+1) (by omega) (by omega) (λ_ s=>s)
   ·simp only[decide_eq_false_iff_not,Int.ofNat_lt]at h9;obtain rfl:k=B.length:=by omega
    have hall:J4 B B.length=B.map λc=>{c with lost:=true}:=by simp[J4]
    rw[hall];have hmb:(B.map λc=>{c with lost:=true}).length=B.length:=by simp
    generalize hB':(B.map λc=>{c with lost:=true})=B' at hmb;refine J.closeOwn (e:=268) (size:=34) (n:=B.length) (cap:=cap) (xs:=n9 B') 7 rfl rfl (by rw[l5,hmb]) q2 q3 (by rw[List.length_append,l5,hmb];rw[l5]at q4;exact q4) (by rw[List.take_left' (by rw[l5,hmb])]) rfl ?_;rw[<- hmb];refine J.q λ_=>?_;refine J.closeN p N (N.cutN.setBlk i j {N.blk i j with cells:=B'}) Y i j hj ({N.blk i j with cells:=B'}) (some g,cap) [1,2,3,4,5,6,7] rfl rfl rfl rfl (rfl) rfl ?_;refine J.qr [1] λ_=>?_;exact⟨by simp[Nand.eraseE,h,h6],by rw[a7J h h6,<- hB',hext];rfl⟩
 refine J.qd (λ_ h7=>?_) λ_ h7=>?_
 ·refine J.q λ_=>?_;refine J.closeN p N (N.cutN.setBlk i j {N.blk i j with met:=true}) Y i j hj ({N.blk i j with met:=true}) _ [1,2,3,4,5,6,7] rfl rfl rfl rfl (rfl) rfl ?_;refine J.qr [1] λ_=>?_;exact⟨by simp[Nand.eraseE,h,h6,h7],by rw[a6M h h6 h7];rfl⟩
 have hw:=(hnum.2.2 i j);refine J.q λ_=>?_;refine J.turn1 [7] rfl (As:=[c8 268 34 none 0 0 (n9 [])]) (λh s=>Sep.one ⟨rfl,rfl,rfl⟩) rfl ?_;refine J.qc (b3a Y.q N.plan hpl i j) [3] λ_=>?_;rintro v As ⟨a,cap,l',hp,rfl,rfl⟩;have hl12:l'.length<=12:=by rw[hp.length_eq];exact Nat.le_trans (List.length_filter_le _ _) hpl
 refine⟨_,rfl,trivial,?_⟩;refine J.q λ_=>?_;refine J.l (α:=Nat) (λk=>k<=l'.length) (λk=>[si 92 k,si 91 l'.length,sv 90 (slv a l'.length cap),⟨0,pp p,2, .tt⟩]) [3] (λk=>[I3 Y.q ((l'.take k).foldl List.erase N.plan)]) (λk=>l'.length-k) (0) (Nat.zero_le _) λk hI=>?_;refine J.qd (λ_ h9=>?_) λ_ h9=>?_
 ·simp only[decide_eq_true_eq,Int.ofNat_lt]at h9;cases a with
  | none=>
   refine J.know (λh' s=>(s.get (i:=8) rfl).2.1) λhn0=>?_;omega
  | some g=>
   have hk:l'[k]? =some (l'.getD k d3):=by rw[List.getD_eq_getElem?_getD,List.getElem?_eq_getElem h9,Option.getD_some]
   refine J.q λ_=>?_;refine J.v (I2 (l'.getD k d3)) rfl rfl (λhg a w he hs=>?_) ?_
   ·exact n3 tk rfl rfl he rfl rfl rfl (hs.get (i:=8) rfl) (by rw[show 0+(k:Int).toNat*3=k*3 from by omega];exact a3e hk) rfl
   refine J.p (.of [0,4,8,13,17,22]) [] [1,2,4,5,6,7,8,9] λ_=>?_;refine J.qp (b0C Y.q ((l'.take k).foldl List.erase N.plan) (l'.getD k d3).1 (l'.getD k d3).2.1 (l'.getD k d3).2.2) [3] λ_=>?_;refine J.q λ_=>?_;have hst:((l'.take k).foldl List.erase N.plan).erase (l'.getD k d3)=(l'.take (k+1)).foldl List.erase N.plan:=by
    rw[List.take_add_one,hk];simp
   rw[show(((l'.getD k d3).1,(l'.getD k d3).2.1,(l'.getD k d3).2.2):A3)=l'.getD k d3 from rfl,hst];refine J.q λ_=>?_;refine J.n (k+1) (by omega) (by omega) [0,1,2,3,4,5,6,7,8]
 ·simp only[decide_eq_false_iff_not,Int.ofNat_lt]at h9;obtain rfl:k=l'.length:=by omega
  rw[List.take_length,a9N hpn hp];refine J.q λ_=>?_;refine J.closeN p N ({N.cutN.setBlk i j {N.blk i j with cells:=[],worn:=(N.blk i j).worn+1}with plan:=N.plan.filter λa=>!(decide (a.1=(i:Int))&&decide (a.2.1=(j:Int)))}) Y i j hj ({N.blk i j with cells:=[],worn:=(N.blk i j).worn+1}) (none,0) [1,2,3,4,5,6,7] rfl rfl rfl rfl (rfl) rfl ?_;refine J.qr [1] λ_=>?_;exact⟨by simp[Nand.eraseE,h,h6,h7],by rw[a9O h h6 h7];rfl⟩
end Go.Proofs.YtgkpkpbnonmopaaGreat
namespace Go.Proofs.YtgkpkpbnonmopaaGreat
open Go.RowKit

set_option maxHeartbeats 400000 in
theorem a7b (n:Int) (w:World):
  Calls Tryz.prog 277 #[.int .i64 n] w λe w'=>e= .returned (.bool (decide (1<=n)&&decide (n<=64)))/\w=w':=by
 by_cases h0:1<=n
 ·go_enter Tryz.func277,Tryz.ntmps277
  go_wp2
  go_ret
  exact⟨D5 (by simp[h0]),rfl⟩
 ·go_enter Tryz.func277,Tryz.ntmps277
  go_wp2
  go_ret
  exact⟨D5 (by simp;omega),rfl⟩

theorem Tryz.info5:(Tryz.prog.info? 5).map (λi=>(i.zero,i.size,i.bytes))=some (some (.int .u8 0),1,1):=by kernel_rfl
def OutAt (w:World) (B g:Nat) (l:List Bool):Prop:=B<=g/\∃v,Blk w g 320 #[v, .int .i64 l.length]/\w.ownsRow B 5 1 v (Bt.pack l).length ((Bt.pack l).map bv)

theorem b4p (len:Nat):∃q r s:Nat,len/8=q/\len % 8=r/\7-r=s/\r<=7/\(len:Int).tdiv 8=(q:Int)/\(len:Int).tmod 8=(r:Int)/\IntKind.i64.wrap (7-(r:Int))=(s:Int)/\(len:Int) % 8=(r:Int):=
 ⟨len/8,len % 8,7-len % 8,rfl,rfl,rfl,by omega,by rw[Int.tdiv_eq_ediv_of_nonneg (by omega)];rfl,by rw[Int.tmod_eq_emod_of_nonneg (by omega)];rfl,by rw[IntWalk.i64_in _ (by omega)];omega,rfl⟩
theorem b3q {w:World} {base:Nat} {e:TypeId} {size n m cap:Nat} {a:Addr} {xs:List Value} (h:w.ownsRow base e size (.slice (some a) m cap) n xs):n<=cap:=by
 rcases h.2 with⟨h,_⟩ | ⟨g',c,cur,h,_,_,hc,_⟩
 ·cases h
 ·injection h with _ _ h;subst h;exact hc
theorem b2Q (u i:Nat) (hu:u<18446744073709551616):bits BinOp.and IntKind.u64 ((u:Int)/2^i) 1 % 256=((u.testBit i).toNat:Int):=by
 have e:(u:Int)/2^i=((u/2^i:Nat):Int):=by simp
 have hb:u/2^i<=u:=Nat.div_le_self _ _;rw[e,show(1:Int)=((1:Nat):Int)from rfl,u64_and_nat _ _ (by omega) (by omega),nat_mask1,Nat.testBit_eq_decide_div_mod_eq];rcases Nat.mod_two_eq_zero_or_one (u/2^i)with h | h<;>simp[h]
theorem b2s (u i:Nat) (hu:u<18446744073709551616) (L:List Bool) (q r s:Nat) (hq:L.length/8=q) (hr:L.length % 8=r) (hs:7-r=s):
  Value.int .u8 (bits BinOp.or IntKind.u8 (Bt.byteAt L (8*q):Int) (bits BinOp.and IntKind.u64 ((u:Int)/2^i) 1 % 256*2^min s 8 % 256))=bv (UInt8.ofNat (Bt.byteAt L (8*q)+(u.testBit i).toNat*2^(7-L.length % 8))):=by
 have h7:s<=7:=by omega
 have hm:min s 8=s:=by omega
 have hp:2^s<=2^7:=Nat.pow_le_pow_right (by omega) h7;have hb:=Bool.toNat_le (u.testBit i);have hmul:(u.testBit i).toNat*2^s<=128:=by
  calc(u.testBit i).toNat*2^s<=1*2^s:=Nat.mul_le_mul_right _ hb
   _<=128:=by omega
 have e:((u.testBit i).toNat:Int)*2^s % 256=(((u.testBit i).toNat*2^s:Nat):Int):=by
  have:((u.testBit i).toNat:Int)*2^s=(((u.testBit i).toNat*2^s:Nat):Int):=by simp
  rw[this];omega
 have ho:=Bt.byte_or L (u.testBit i);rw[hq,hr,hs]at ho;have hlt:=Bt.byteAt_lt (L++[u.testBit i]) (8*q);rw[Bt.byteAt_snoc,if_pos (by omega),show L.length-8*q=r from by omega,hs]at hlt;rw[b2Q u i hu,hm,e,u8_or_nat _ _ (Bt.byteAt_lt _ _) (by omega),ho,hr,hs];simp[bv,Nat.mod_eq_of_lt hlt]
theorem OutAt.put {wr:World} {B g g2 cap q:Nat} {L:List Bool} (x:Bool) (hBg:B<=g) (hb:Blk wr g 320 #[.slice (some ⟨g2,0,none⟩) (q+1) cap, .int .i64 L.length])
  (hown:wr.ownsRow B 5 1 (.slice (some ⟨g2,0,none⟩) (q+1) cap) (q+1) ((Bt.packZ L).map bv)) (hne:g≠g2) (hq:L.length/8=q) (u:Value) (hu:u=bv (UInt8.ofNat (Bt.byteAt L (8*q)+x.toNat*2^(7-L.length % 8)))):
  OutAt ((wr.setCell ⟨g2,q,none⟩ u).setCell ⟨g,1,none⟩ (.int .i64 (L.length+1:Int))).drew B g (L++[x]):=by
 have h1:=(hown.stored q u).1;have h2:=(hb.far (p:=⟨g2,q,none⟩) hne u).set_ 1 (.int .i64 (L.length+1:Int));refine⟨hBg,_,by simpa using h2.drew,?_⟩;have hl:(Bt.pack (L++[x])).length=q+1:=by rw[Bt.length_pack];simp;omega
 have h3:=(h1.kept (row:=some g) (w':=(wr.setCell ⟨g2,q,none⟩ u).setCell ⟨g,1,none⟩ (.int .i64 (L.length+1:Int))) ⟨rfl,rfl,rfl,by simp[World.setCell],λk _ hk=>heap_setCell_other _ _ _ _ (λe=>hk (by simp[e]))⟩ (.inr (by simp[Value.ownBlock];exactλe=>hne e.symm)));rw[hl,Bt.pack_snoc,List.map_set,hq,<- hu];exact h3

theorem b0X {w:World} {B g g2 n cap:Nat} {e:TypeId} {xs:List Value} (h:w.ownsRow B e 1 (.slice (some ⟨g2,0,none⟩) n cap) n xs) (hgg:¬g2=g) {j:Nat} (u:Value):(w.setCell ⟨g,j,none⟩ u).ownsRow B e 1 (.slice (some ⟨g2,0,none⟩) n cap) n xs:=
 h.kept (row:=some g) ⟨rfl,rfl,rfl,by simp[World.setCell],λk _ hk=>heap_setCell_other _ _ _ _ (λe=>hk (by simp[e]))⟩ (.inr (by simp[Value.ownBlock];exact hgg))
theorem a9a {w wr w1:World} {B g g2 cap q:Nat} {L:List Bool} {v x:Value} {T:TypeId} {o:Obj} {X:Nat}
  (hbv:bv (UInt8.ofNat X)= .int .u8 X) (hzq:(Bt.packZ L)[q]? =some (UInt8.ofNat X)) (hpz:Bt.packZ L=Bt.pack L++[0])
  (hb:Blk wr g T #[v,x]) (hbel:Below B w wr) (hsz:B<=wr.heap.size) (hne:v.ownBlock≠some g) (hvB:∀k,v.ownBlock=some k->B<=k) (hgrow:(wr.alloc o).grownBy w1 v.ownBlock) (hat:v.ownBlock=some g2\/g2=(wr.alloc o).heap.size)
  (hown1:w1.ownsRow B 5 1 (.slice (some ⟨g2,0,none⟩) (q+1) cap) (q+1) ((Bt.pack L).map bv++[.int .u8 0])):
  Blk w1 g T #[v,x]/\¬g2=g/\B<=g2/\B<=w1.heap.size/\w1.ownsRow B 5 1 (.slice (some ⟨g2,0,none⟩) (q+1) cap) (q+1) ((Bt.packZ L).map bv)/\Below B w w1/\
   w1.cell? ⟨g,0,none⟩=some v/\w1.cell? ⟨g,1,none⟩=some x/\w1.frozen? ⟨g,0,none⟩=false/\w1.frozen? ⟨g,1,none⟩=false/\w1.cell? ⟨g2,q,none⟩=some (.int .u8 X)/\w1.frozen? ⟨g2,q,none⟩=false:=by
 have hb1:=(hb.alloc o).grown hgrow (Ne.symm hne);have hgg:¬g2=g:=by
  rintro rfl;rcases hat with hat | hat
  ·exact hne hat
  ·have:=hb.lt;simp at hat;omega
 have hown2:w1.ownsRow B 5 1 (.slice (some ⟨g2,0,none⟩) (q+1) cap) (q+1) ((Bt.packZ L).map bv):=by rw[hpz,List.map_append];exact hown1
 have hBg2:=hown2.lt g2 rfl;have cj:=hown2.cellAt q (by omega);rw[List.getElem?_map,hzq]at cj;simp only[Option.map_some,hbv]at cj;have d0:=hb1.cell 0;have d1:=hb1.cell 1;simp at d0 d1;refine⟨hb1,hgg,hBg2.1,?_,hown2,?_,d0,d1,hb1.frozen 0,hb1.frozen 1,cj,hown2.frozenAt q⟩
 ·have:=hgrow.size;simp at this;omega
 ·refine(hbel.alloc hsz o).grown hgrow (by simp;omega) (λk hk=>?_);rcases hat with hat | hat
  ·rw[hat]at hk;injection hk with hk;omega
  ·exact hvB k hk

theorem a7o {w w1 w2:World} {B g g2 cap q:Nat} {xs:List Value} {v x y:Value} {T e:TypeId} (hw2:w1.setCell ⟨g,0,none⟩ (.slice (some ⟨g2,0,none⟩) (q+1) cap)=w2)
  (hBg:B<=g) (hb:Blk w1 g T #[v,x]) (hown:w1.ownsRow B e 1 (.slice (some ⟨g2,0,none⟩) (q+1) cap) (q+1) xs) (hbel:Below B w w1) (hs:B<=w1.heap.size) (hgg:¬g2=g)
  (dj:w1.cell? ⟨g2,q,none⟩=some y) (ej:w1.frozen? ⟨g2,q,none⟩=false):
  Blk w2 g T #[.slice (some ⟨g2,0,none⟩) (q+1) cap,x]/\w2.ownsRow B e 1 (.slice (some ⟨g2,0,none⟩) (q+1) cap) (q+1) xs/\Below B w w2/\B<=w2.heap.size/\
   w2.cell? ⟨g,0,none⟩=some (.slice (some ⟨g2,0,none⟩) (q+1) cap)/\w2.cell? ⟨g,1,none⟩=some x/\w2.frozen? ⟨g,0,none⟩=false/\w2.frozen? ⟨g,1,none⟩=false/\w2.cell? ⟨g2,q,none⟩=some y/\w2.frozen? ⟨g2,q,none⟩=false:=by
 subst hw2;have hb2:Blk (w1.setCell ⟨g,0,none⟩ (.slice (some ⟨g2,0,none⟩) (q+1) cap)) g T #[.slice (some ⟨g2,0,none⟩) (q+1) cap,x]:=hb.set_ 0 _;have d0:=hb2.cell 0;have d1:=hb2.cell 1;simp at d0 d1;refine⟨hb2,b0X hown hgg _,hbel.setCell hBg _,by simpa[World.setCell]using hs,d0,d1,hb2.frozen 0,hb2.frozen 1,?_,?_⟩
 ·rw[World.cell?_setCell_other _ _ _ _ (λh=>hgg (by injection h with h _ _;exact h.symm))];exact dj
 ·rw[World.frozen?_setCell];exact ej

set_option maxRecDepth 100000 in
set_option maxHeartbeats 1000000 in
theorem X1 (u n:Nat) (h1:1<=n) (h2:n<=64) (hu:u<2^n) (l:List Bool) (hl:l.length+n<=4096) (w:World) (B g:Nat) (hB:B<=w.heap.size) (h:OutAt w B g l):
  Calls Tryz.prog 261 #[.pointer (some ⟨g,0,none⟩), .int .u64 u, .int .i64 n] w λe w'=>e= .returned (.bool true)/\OutAt w' B g (l++Bt.bits u n)/\Below B w w':=by
 obtain⟨hBg,v,hb,hown⟩:=id h;have hm:(decide (1<=(n:Int))&&decide ((n:Int)<=64))=true:=by simp;omega
 have c0:=hb.cell 0;have c1:=hb.cell 1;simp at c0 c1;have hu64:u<18446744073709551616:=Nat.lt_of_lt_of_le hu (Nat.pow_le_pow_right (n:=2) (by omega) h2);have hsh:(u:Int)/2^(n-1)/2=0:=by
  have e:(u:Int)/2^(n-1)/2=((u/2^(n-1)/2:Nat):Int):=by simp
  rw[e,Nat.div_div_eq_div_mul,<- Nat.pow_succ,show(n-1).succ=n from by omega,Nat.div_eq_of_lt hu];rfl
 obtain⟨i0,hi0,hz0,hz1,hz2⟩:=info_parts Tryz.info5
 go_enter Tryz.func261,Tryz.ntmps261
 go_wp2_with (go_at_call 277;refine(a7b _ _).mono ?_;rintro e w' ⟨rfl,rfl⟩)
 clear hm hsh c0 c1 hown hb
 go_loopw [7] (λi wr=>∃k:Nat,k<=n/\i= .int .i64 ((n:Int)-1-k)/\OutAt wr B g (l++(Bt.bits u n).take k)/\Below B w wr/\B<=wr.heap.size) (λi _=>(intOf i+1).toNat)
 case atStart=>exact⟨0,by omega,by simp,by simpa using h,Below.refl _ _,hB⟩
 case round=>
  obtain⟨k,hk,rfl,⟨_,v,hb,hown⟩,hbel,hsz⟩:=hrel;generalize hL:l++(Bt.bits u n).take k=L at hb hown;have hLl:L.length=l.length+k:=by rw[<- hL];simp[Bt.length_bits];omega
  have hL1:L.length<=4096:=by omega
  have c0:=hb.cell 0;have c1:=hb.cell 1;simp at c0 c1;have f0:=hb.frozen 0;have f1:=hb.frozen 1;have hgl:=hb.lt
  by_cases hlt:k<n
  ·have hL2:L.length<=4095:=by omega
   have hk':(0:Int)<=(n:Int)-1-k:=by omega
   obtain⟨q,r,s,hq,hr,hs,hr7,q1,q2,q3,q4⟩:=b4p L.length;obtain⟨i,hi⟩:∃i:Nat,(n:Int)-1-k=i:=⟨n-1-k,by omega⟩;have hval:=b2s u i hu64 L q r s hq hr hs;have hL3:L++[u.testBit i]=l++(Bt.bits u n).take (k+1):=by
    rw[Bt.take_bits_succ _ _ _ hlt,<- List.append_assoc,hL,show n-1-k=i from by omega]
   have HL3:=Lib.hid hL3;have Hval:=Lib.hid hval;have hx:=Bt.byteAt_lt L (8*q);have hbv:bv (UInt8.ofNat (Bt.byteAt L (8*q)))= .int .u8 (Bt.byteAt L (8*q):Int):=by simp[bv,Nat.mod_eq_of_lt hx]
   have hzq:=Bt.packZ_get L q (by omega);have hzl:(Bt.packZ L).length=q+1:=by rw[Bt.length_packZ,hq]
   have hpz:(Bt.packZ L)=if L.length % 8=0 then Bt.pack L++[0]else Bt.pack L:=rfl
   have i4:(0:Int)<=q:=by omega
   have i5:IntKind.i64.wrap (q:Int)=q:=IntWalk.i64_in _ (by omega);have i2:(q:Int)<((q+1:Nat):Int):=by omega
   have i3:q<q+1:=by omega
   have i6:(q:Int)<(q:Int)+1:=by omega
   have hq4:q<=512:=by omega
   have hpl:(Bt.pack L).length<=512:=by rw[Bt.length_pack];omega
   have Hq:=Lib.hid hq;have Hi:=Lib.hid hi;have HLl:=Lib.hid hLl
   by_cases h8:r=0
   ·rw[hr,if_pos h8]at hpz;have hplq:(Bt.pack L).length=q:=by rw[Bt.length_pack];omega
    rw[hplq]at hown;have hne:=a2v hown hb (by decide);have h8':((r:Int)==0)=true:=by simp[h8]
    clear h8 hL3 hval hL hLl hq hr hs;have Hpz:=Lib.hid hpz;have Hbv:=Lib.hid hbv;have Hzq:=Lib.hid hzq;clear hbv hzq hpz hplq hzl hpl
    go_wp2_with (at_builtin;refine wpList_append_lies _ rfl _ _ 306 rfl B 5 i0 (.int .u8 0) 1 1 Tryz.underlying306 hi0 hz0 hz1 hz2 rfl (by decide) _ _ _ (by rfl) (hown.alloc _) ⟨wr.heap.size,0,none⟩ 1 1 [.int .u8 0] rfl rfl (cell_one_new _ _ _) (by simp[Value.oneCell']) (by omega) (by unfold maxLen;omega) (by omega) (by simp;omega) _ rfl ?_;intro g2 cap w1 hown1 hgrow hat hlt1;obtain⟨hb1,hgg,hBg2,hs1,hown2,hbel1,d0,d1,e0,e1,dj,ej⟩:=a9a Hbv.out Hzq.out Hpz.out hb hbel hsz hne (λk hk=>(hown.lt k hk).1) hgrow hat hown1;clear hb hown hbel hsz hgrow hat hown1 c0 c1 f0 f1 hne;generalize hX:Bt.byteAt L (8*q)=X at dj hx Hval;have HX:=Lib.hid hX;clear hX)
    obtain⟨w2,hw2⟩:∃w2,w1.setCell ⟨g,0,none⟩ (.slice (some ⟨g2,0,none⟩) (q+1) cap)=w2:=⟨_,rfl⟩;obtain⟨hb2,hown3,hbel2,hs2,c0,c1,f0,f1,cj,fj⟩:=a7o hw2 hBg hb1 hown2 hbel1 hs1 hgg dj ej;rw[hw2];clear hw2 hb1 hown2 hbel1 hs1 d0 d1 e0 e1 dj ej
    go_still_tail 25,(by kernel_rfl)
    change wpList _ _ _ _ _ w2.drew
    go_wp2
    go_roundw
    case rel=>exact⟨k+1,by omega,by rw[<- Hi.out];go_num,by rw[<- HL3.out];exact OutAt.put _ hBg hb2 hown3 (λe=>hgg e.symm) Hq.out _ (by rw[HX.out];exact Hval.out),((hbel2.setCell hBg2 _).setCell hBg _).drew,by simpa[World.setCell]using hs2⟩
    case measure=>simp[intOf];omega
   ·have h8':1<=r:=by omega
    rw[hr,if_neg h8]at hpz;rw[<- hpz]at hown;rw[hzl]at hown;obtain⟨g2,cap,rfl,hBg2,hlt2⟩:=hown.form (by omega);have hcap:=b3q hown;have hne:=a2v hown hb (by decide);have hgg:¬g2=g:=λe=>hne (by simp[Value.ownBlock,e]);have cj:=hown.cellAt q (by omega);have fj:=hown.frozenAt q;rw[List.getElem?_map,hzq]at cj;simp only[Option.map_some,hbv]at cj;generalize hX:Bt.byteAt L (8*q)=X at cj hx Hval;have HX:=Lib.hid hX;clear h8 hL3 hval hL hLl hq hr hs hX hbv hpz hzl hzq
    go_wp2
    go_still_tail 25,(by kernel_rfl)
    change wpList _ _ _ _ _ wr.drew
    go_wp2
    go_roundw
    case rel=>exact⟨k+1,by omega,by rw[<- Hi.out];go_num,by rw[<- HL3.out];exact OutAt.put _ hBg hb hown (λe=>hgg e.symm) Hq.out _ (by rw[HX.out];exact Hval.out),((hbel.setCell hBg2 _).setCell hBg _).drew,by simpa[World.setCell]using hsz⟩
    case measure=>simp[intOf];omega
  ·have hkn:k=n:=by omega
   subst hkn;have hfin:OutAt wr B g (l++Bt.bits u k):=⟨hBg,v,by rw[<- hL,List.take_of_length_le (by rw[Bt.length_bits];omega)]at hb;exact hb,by rw[<- hL,List.take_of_length_le (by rw[Bt.length_bits];omega)]at hown;exact hown⟩;clear hLl hL hb hown
   go_wp2
   go_ret
   exact⟨rfl,hfin,hbel⟩
end Go.Proofs.YtgkpkpbnonmopaaGreat
