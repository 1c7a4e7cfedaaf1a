/- Helpers. No condition. -/
import Derived.Test.YtgkpkpbnonmopaaGreatC01
import Derived.Test.YtgkpkpbnonmopaaGreatC02
import Derived.Test.YtgkpkpbnonmopaaGreatC03
import Derived.Laws.AppendOwn
set_option maxRecDepth 20000
set_option linter.all false
namespace Go.Proofs.YtgkpkpbnonmopaaGreat
open Go Go.RowKit
theorem a0e:∀(n:Nat) (is:List Nat),is.Nodup->(∀i∈is,i<n)->is.length<=n
 | 0,is,_,h=>by
  cases is with
  | nil=>simp
  | cons x r=>have:=h x (by simp);omega
 | n+1,is,hn,h=>by
  have h1:=a0e n (is.erase n) (hn.erase n) (λi hi=>by
   rw[hn.mem_erase_iff]at hi;have:=h i hi.2;omega)
  rw[List.length_erase]at h1;split at h1<;>omega
def E7 (l:List A3) (is:List Nat):List A3:=is.map λi=>l.getD i d3
theorem a3R {l:List A3} {is:List Nat} (h:is.Perm (List.range l.length)):(E7 l is).Perm l:=by
 have h1:=h.map λi=>l.getD i d3;have h2:(List.range l.length).map (λi=>l.getD i d3)=l:=by
  apply List.ext_getElem?;intro k;rw[List.getElem?_map]
  by_cases hk:k<l.length
  ·rw[List.getElem?_range hk];simp[hk]
  ·rw[List.getElem?_eq_none (by simpa using hk),List.getElem?_eq_none (by simpa using hk)];rfl
 rwa [h2]at h1
theorem a9f {l:List A3} {is:List Nat} {j:Nat} {y:A3×Value} (hy:(C8 l)[j]? =some y):j7 (E7 l is)++[iI y.1.1,iI y.1.2.1,iI y.1.2.2]=j7 (E7 l (is++[j])):=by
 rw[C8,List.getElem?_map]at hy;cases h:l[j]? with
 | none=>rw[h]at hy;cases hy
 | some x=>
  rw[h]at hy;simp at hy;subst hy;simp[j7,E7,h]
theorem b8O (q:Nat) (l:List A3) (hl:l.length<=12):FP 267 [pp q] [O4 q l]
  (λv As=>∃a cap l',l'.Perm l/\v=slv a l'.length cap/\As=[O4 q l,c9 52 3 a l'.length cap (j7 l')]):=by
 refine FE [2] Tryz.func267 λX F hX=>?_;refine J.o (α:=Nat) 1 λmr=>?_;refine J.qF λ_=>?_;refine J.q λ_=>?_;refine J.rangeMap hX 2 b5v rfl rfl rfl rfl rfl rfl rfl (λ_=>rfl) (λ_=>rfl) λr=>⟨trivial,?_⟩;refine J.turn1 [] rfl (As:=[c9 52 3 none 0 0 (j7 (E7 l []))]) (λh s=>Sep.one ⟨rfl,rfl,rfl⟩) rfl ?_;refine J.q λ_=>?_;refine J.l (α:=(List Nat×Option Nat×Nat)) (λx=>True) (λx=>[sp 11 r,sv 3 (slv x.2.1 x.1.length x.2.2)]) [2,3] (λx=>[itA mr r a3v (C8 l) x.1,c9 52 3 x.2.1 x.1.length x.2.2 (j7 (E7 l x.1))]) (λx=>l.length-x.1.length) (([],none,0)) (trivial) λx hI=>?_;obtain⟨is,a,cap⟩:=x;dsimp only;refine J.q λ_=>?_;refine J.know (p:=is.Nodup/\∀i∈is,i<l.length) (λh s=>?_) λhk=>?_
 ·obtain⟨_,_,_,_,_,_,_,_,h1,h2,_⟩:=s.get (i:=2) rfl;exact⟨h1,λi hi=>by have:=h2 i hi;simpa[C8]using this⟩
 have hle:=a0e _ _ hk.1 hk.2;refine J.rangeNext hX 2 rfl rfl rfl rfl rfl rfl rfl (λ_=>rfl) (λ_=>rfl) (λhp=>⟨trivial,?_⟩) (λj y hj hy=>⟨trivial,?_⟩)
 ·rw[show(C8 l).length=l.length from by simp[C8]]at hp;refine J.qF λ_=>?_;refine J.qp (a3G 284 a6H (by kernel_rfl) b0b a is.length cap (E7 l is) (by simp[E7]) (by omega)) [3] λ_=>?_;refine J.turn1 [2] rfl (As:=[B3 mr a3v (C8 l)]) (λh s=>b4j s) rfl ?_;refine J.cl (λmr:Nat=>[.pt q 177 [.map (some mr)],B3 mr a3v (C8 l)]) mr [1,2] ?_;refine J.qr [1,3] λ_=>?_;have hlen:is.length=(V5 a6H (E7 l is)).length:=by rw[(I1 _ _).length_eq];simp[E7]
  refine⟨a,cap,V5 a6H (E7 l is),(I1 _ _).trans (a3R hp),?_,?_⟩
  ·rw[<- hlen]
  ·rw[<- hlen];rfl
 ·have hjl:j<l.length:=by have:=(List.getElem?_eq_some_iff.1 hy).1;simpa[C8]using this
  refine J.qT λ_=>?_;refine J.q λ_=>?_;have hlt:(is++[j]).length<=l.length:=a0e _ _ (by
   rw[List.nodup_append];exact⟨hk.1,by simp,λa ha b hb=>by simp at hb;subst hb;rintro rfl;exact hj ha⟩) (λi hi=>by
   rw[List.mem_append]at hi;rcases hi with hi | hi
   ·exact hk.2 i hi
   ·simp at hi;subst hi;exact hjl)
  rw[List.length_append,List.length_singleton]at hlt;refine J.rangeEntry hX 2 rfl rfl rfl rfl rfl rfl rfl hy rfl ⟨trivial,?_⟩;refine J.q λ_=>?_;refine J.append hX tk 3 5 0 rfl rfl rfl rfl rfl rfl rfl rfl rfl rfl rfl rfl rfl rfl rfl rfl ?_ ?_ (λ_=>rfl) λa' cap'=>⟨_,(congrArg (λz=>p9 _ 3 (c9 _ _ _ _ _ z)) (a9f hy)).trans rfl,trivial,?_⟩
  ·simp only[maxLen];omega
  ·omega
  refine J.q λ_=>?_;rw[show is.length+1=(is++[j]).length from by simp];refine J.q λ_=>?_;refine J.n ((is++[j],a',cap')) (trivial) (by dsimp only;rw[List.length_append,List.length_singleton];omega) [0,1,2,3]
theorem Sep.pack {A:Atom} {Pre:List Atom} {h:Hl} (s:Sep (A::Pre) h):Sep [A, .hp (HP.of Pre)] h:=by
 obtain⟨own,hw⟩:=s;refine⟨λb=>min (own b) 1,λi B hB=>?_⟩
 match i,hB with
 | 0,hB=>
  simp at hB;subst hB;refine Atom.up (λb o hb=>?_) (hw 0 A rfl);rw[res_some]at hb ⊢;exact⟨by rw[hb.1];rfl,hb.2⟩
 | 1,hB=>
  simp at hB;subst hB;refine⟨λb=>own b-1,λj B hB=>?_⟩;refine Atom.up (λb o hb=>?_) (hw (j+1) B (by simpa using hB));rw[res_some]at hb ⊢;refine⟨by rw[hb.1];rfl,?_⟩;rw[res_some];exact⟨by rw[hb.1];omega,hb.2⟩
 | k+2,hB=>simp at hB
theorem Sep.unpack {A:Atom} {Pre:List Atom} {h:Hl} (s:Sep [A, .hp (HP.of Pre)] h):Sep (A::Pre) h:=by
 obtain⟨own,hw⟩:=s;obtain⟨own2,hw2⟩:Sep Pre (res h own 1):=hw 1 _ rfl;refine⟨λb=>if own b=1 then own2 b+1 else 0,λi B hB=>?_⟩;cases i with
 | zero=>
  simp at hB;subst hB;refine Atom.up (λb o hb=>?_) (hw 0 A rfl);rw[res_some]at hb ⊢;exact⟨by rw[if_neg (by omega)],hb.2⟩
 | succ j=>
  refine Atom.up (λb o hb=>?_) (hw2 j B (by simpa using hB));rw[res_some]at hb ⊢;have h1:=res_some.1 hb.2;exact⟨by rw[if_pos h1.1,hb.1],h1.2⟩
theorem Fn.pack {P:Program} {f:FuncId} {args:List Value} {Pre:List Atom} {q:Value->Prop} (c:Fn P f args Pre (λv As=>q v/\As=Pre)):Fn P f args [.hp (HP.of Pre)] (λv As=>q v/\As=[.hp (HP.of Pre)]):=by
 intro F w s;refine Calls.mono (c F w (Sep.unpack s)) λe w' ⟨v,As,h1,h2,h3,h4⟩=>?_;obtain⟨h5,rfl⟩:=h2;exact⟨v,_,h1,⟨h5,rfl⟩,Sep.pack h3,h4⟩
section
variable {X : Cx} {P : Program} {T : Tab} {K : List KI} {E : Env} {L : List Atom} {N : Nat} {F : HP} {Post : Value → List Atom → Prop} {rs : List ResultVar}
theorem J.clear (hX:IsCx X P rs N F Post) (hT:TabOK P T) {ops:Array Oper} {C:Cl} {lt:Bool} {i:Nat} {t:PT} {o:Oper} {g:G} {x:Operand} {k1 t1 b off n c st e ty size s1 b1 by_:Nat} {g1:G} {z z1:List Value} {td:TD} {cs:List Value} {E':Value->Env} {L2:List Value->List Atom} (is:Nat)
  (ho:n9 ops.toList i=some o) (hg:gd ops.toList E o=some g) (hgo:g.on=true) (hop:o.op= .call ⟨.builtin .clear,#[x],#[st]⟩) (hx:ev E x=some ⟨k1, .slice (some ⟨b,off,none⟩) n c,t1,g1⟩) (v1:g1.on=true)
  (hst:T.get st=some ⟨.slice e size,s1,z1,b1⟩) (he:T.get e=some ⟨td,size,z,by_⟩) (hz:Nat.beq z.length size=true) (hz1:z.all (·.oneCell')=true) (hL:n9 L is=some (.pt b ty cs)) (hlt:off+n*size<=cs.length)
  (hL2:∀cs',p9 L is (.pt b ty cs')=some (L2 cs')) (hd:∀v,D7 N o.dst v 0 .tt E=some (E' v))
  (hJ:∀cs',cs'.length=cs.length->cs'.take off=cs.take off->Conj (t8 lt C (L2 cs'))/\J X (.reg ops C t::K) (E' (.tuple #[])) (L2 cs')):J X (.reg ops C (.alt lt i t .non)::K) E L:=by
 refine J.op hX (S:=λv' L'=>∃cs',cs'.length=cs.length/\cs'.take off=cs.take off/\v'= .tuple #[]/\L'=L.set is (.pt b ty cs')) 0 ho hg hgo (λa0 w hen hs=>?_) hd (λv L' ⟨cs',q1,q2,e1,e2⟩=>by subst e1;subst e2;rw[<- B4 (hL2 cs')];exact hJ cs' q1 q2);rw[n5]at hL;have ex:=j3 hen hx;simp only[Slot.val,v1]at ex;obtain⟨d,f,zv,ok⟩:=g7 (hT.get hst);obtain⟨fe,rfl,g1',g2'⟩:=ok.slice rfl;obtain⟨d',f',zv',ok'⟩:=g7 (hT.get he);have hzl:zv'.cells.toList=z:=ok'.hzero.symm;have hzn:zv'.cells.size=size:=by rw[<- Array.length_toList,hzl];exact Nat.eq_of_beq_eq_true hz
 have hblk:Blk w b ty cs.toArray:=hs.pt hL;cases n with
 | zero=>
  refine⟨_,L.set is (.pt b ty cs), .value (.tuple #[]),w,⟨cs,rfl,rfl,rfl,rfl⟩,?_, .inl rfl,?_,Ext.refl _⟩
  ·simp[execOp,hop,ex,resolve,invoke,builtin,Builtin.clear_,d7 ok.hd]
  ·have e:L.set is (.pt b ty cs)=L:=by
    apply List.ext_getElem?;intro j;rw[List.getElem?_set];split
    ·rename_i e;subst e;rw[if_pos (List.getElem?_eq_some_iff.1 hL).1,hL]
    ·rfl
   rw[e];exact hs
 | succ n=>
  have hlen:(Builtin.zeroCells zv'.cells (n+1)).toList.length=(n+1)*size:=by rw[Array.length_toList,size_zeroCells,hzn]
  have hall:(Builtin.zeroCells zv'.cells (n+1)).toList.all (·.oneCell')=true:=by
   rw[List.all_eq_true];intro u hu;simp only[Builtin.zeroCells,Array.toList_map,List.mem_map]at hu;obtain⟨k,hk,rfl⟩:=hu;have hk':k<(n+1)*zv'.cells.size:=by simpa using hk
   have hpos:0<zv'.cells.size:=by
    rcases Nat.eq_zero_or_pos zv'.cells.size with h0 | h0
    ·rw[h0]at hk';omega
    ·exact h0
   have hm:=Nat.mod_lt k hpos;rw[getElem!_pos zv'.cells (k % zv'.cells.size) hm];rw[List.all_eq_true]at hz1;apply hz1;rw[<- hzl];simp
  obtain⟨w',r1,r2,r3⟩:=C9 (P:=P) (o:=off) (Builtin.zeroCells zv'.cells (n+1)).toList 0 w cs _ hblk (by rw[Nat.add_zero];exact a4j cs off _ (by rw[hlen];exact hlt)) hall;have hr:(execOp a0.eval o).run P w= .ok (.value (.tuple #[])) w':=by
   simp[execOp,hop,ex,resolve,invoke,builtin,Builtin.clear_,d7 ok.hd,Z6 ok'.hf ok'.hz,r1]
  clear r1;generalize Builtin.zeroCells zv'.cells (n+1)=Z at hlen r2;have k1:(cs.take off++Z.toList++cs.drop (off+Z.toList.length)).length=cs.length:=by
   simp only[List.length_append,List.length_take,List.length_drop,hlen];omega
  have k2:(cs.take off++Z.toList++cs.drop (off+Z.toList.length)).take off=cs.take off:=by
   rw[List.append_assoc,List.take_append_of_le_length (by simp;omega),List.take_take,Nat.min_self]
  refine⟨_,L.set is (.pt b ty (cs.take off++Z.toList++cs.drop (off+Z.toList.length))), .value (.tuple #[]),w',⟨_,k1,k2,rfl,rfl⟩,?_, .inl rfl,?_,r3⟩
  ·exact hr
  ·rw[r2];exact hs.setPt _ hL
end
def fnC (c:Nat) (cs:List Value):Value:= .func (.func c) #[] cs.toArray
def b6t (p:A3->Bool) (l:List A3):Int:=match l.findIdx? p with
 | some k=>k
 | none=> -1
theorem a4F {l:List A3} {k:Nat} {x:A3} (h:l[k]? =some x):((j7 l).drop (k*3)).take 3=[iI x.1,iI x.2.1,iI x.2.2]:=by
 have:=E6 l [] k x h
 rwa [List.append_nil]at this
theorem b4m {p:A3->Bool} {l:List A3} {k:Nat} {x:A3} (h:l[k]? =some x) (h0:∀i<k,p (l.getD i d3)=false) (hp:p x=true):l.findIdx? p=some k:=by
 rw[List.findIdx?_eq_some_iff_getElem];obtain⟨h1,h2⟩:=List.getElem?_eq_some_iff.1 h;refine⟨h1,by rw[h2];exact hp,λj hj=>?_⟩;have:=h0 j hj;rw[List.getD_eq_getElem?_getD,List.getElem?_eq_getElem (by omega),Option.getD_some]at this;simp[this]
theorem b4n {p:A3->Bool} {l:List A3} (h0:∀i<l.length,p (l.getD i d3)=false):l.findIdx? p=none:=by
 rw[List.findIdx?_eq_none_iff];intro x hx;obtain⟨i,hi,rfl⟩:=List.mem_iff_getElem.1 hx;have:=h0 i hi
 rwa [List.getD_eq_getElem?_getD,List.getElem?_eq_getElem hi,Option.getD_some]at this
theorem b5m (c:Nat) (cs:List Value) (p:A3->Bool) (A:Atom) (hcal:n6 Tryz.prog c=true) (hf:∀x,Fn Tryz.prog c (O2 x::cs) [A] (λv As=>v= .bool (p x)/\As=[A]))
  (a:Option Nat) (n cap:Nat) (l:List A3) (hl:l.length=n) (hn:n<=4611686018427387904):FP 282 [slv a n cap,fnC c cs] [c9 52 3 a n cap (j7 l),A]
  (λv As=>v=iI (b6t p l)/\As=[c9 52 3 a n cap (j7 l),A]):=by
 refine FE [0,0] Tryz.func282 λX F hX=>?_;refine J.q λ_=>?_;refine J.l (α:=Nat) (λk=>k<=n/\∀i<k,p (l.getD i d3)=false) (λk=>[si 8 k,si 7 n,sv 0 (slv a n cap),⟨1,fnC c cs,0, .tt⟩]) [] (λk=>[]) (λk=>n-k) (0) (⟨by omega,by omega⟩) λk hI=>?_;refine J.qd (λ_ h1=>?_) λ_ h1=>?_
 ·simp only[decide_eq_true_eq,Int.ofNat_lt]at h1;cases a with
  | none=>
   refine J.know (λh' s=>(s.get (i:=1) rfl).2.1) λhn0=>?_;omega
  | some g=>
   have hk:l[k]? =some (l.getD k d3):=by rw[List.getD_eq_getElem?_getD,List.getElem?_eq_getElem (by omega),Option.getD_some]
   refine J.q λ_=>?_;refine J.v (O2 (l.getD k d3)) rfl rfl (λhg a w he hs=>?_) ?_
   ·exact p6 tk rfl rfl he rfl rfl rfl (hs.get (i:=1) rfl) (by rw[show 0+(k:Int).toNat*3=k*3 from by omega];exact a4F hk) rfl
   refine J.q λ_=>?_;refine J.call hX hcal (hf (l.getD k d3)) [2] 0 rfl rfl rfl rfl (by(repeat' (first | exact Conj.nil | refine Conj.cons ?_ ?_ | omega | exact hq0 | (simpa using hq0) | (exactλh=>h) | exact rfl | (intro hq;have hq0:=hq;try simp only[Bool.and_eq_true,Bool.or_eq_true,decide_eq_true_eq,Bool.not_eq_true',decide_eq_false_iff_not]at hq) | (simp;done) | (simp;omega) | decide))) rfl rfl (λ_=>rfl) ?_;refine cpq ⟨_,rfl,trivial,?_⟩;refine J.qd (λ_ h2=>?_) λ_ h2=>?_
   ·refine J.qr [1,2] λ_=>?_;exact⟨by rw[b6t,b4m hk hI.2 h2],rfl⟩
   ·refine J.q λ_=>?_;refine J.nx (k+1) (⟨by omega,λi hi=>by
     rcases Nat.lt_succ_iff_lt_or_eq.1 hi with h3 | h3
     ·exact hI.2 i h3
     ·rw[h3];exact h2⟩) (by omega) (λ_ s=>s)
 ·simp only[decide_eq_false_iff_not,Int.ofNat_lt]at h1;refine J.qr [1,2] λ_=>?_;exact⟨by rw[b6t,b4n (λi hi=>hI.2 i (by omega))],rfl⟩
def DelI (p:A3->Bool) (l m:List A3) (i j:Nat):Prop:=m.length=l.length/\i<j/\j<=l.length/\m.drop j=l.drop j/\m.take i++(l.drop j).filter (λx=>!p x)=l.filter (λx=>!p x)
theorem DelI.start {p:A3->Bool} {l:List A3} {k:Nat} (h:l.findIdx? p=some k):DelI p l l k (k+1):=by
 rw[List.findIdx?_eq_some_iff_getElem]at h;obtain⟨h1,h2,h3⟩:=h;refine⟨rfl,by omega,by omega,rfl,?_⟩;have e:l=l.take k++l[k]::l.drop (k+1):=by rw[<- List.drop_eq_getElem_cons h1,List.take_append_drop]
 have e2:(l.take k).filter (λx=>!p x)=l.take k:=by
  rw[List.filter_eq_self];intro x hx;obtain⟨i,hi,rfl⟩:=List.mem_iff_getElem.1 hx;rw[List.getElem_take];have:=h3 i (by simp at hi;omega);simpa using this
 conv=>rhs;rw[e]
 rw[List.filter_append,e2,List.filter_cons_of_neg (by simp[h2])]
theorem DelI.skip {p:A3->Bool} {l m:List A3} {i j:Nat} (h:DelI p l m i j) (hj:j<l.length) (hp:p (m.getD j d3)=true):DelI p l m i (j+1):=by
 obtain⟨h1,h2,h3,h4,h5⟩:=h;have e1:m[j]? =l[j]?:=by have:=congrArg (λz=>z[0]?) h4;simpa using this
 have hx:l[j]=m.getD j d3:=by rw[List.getD_eq_getElem?_getD,e1,List.getElem?_eq_getElem hj,Option.getD_some]
 refine⟨h1,by omega,by omega,?_,?_⟩
 ·have:=congrArg (List.drop 1) h4;simpa[List.drop_drop]using this
 ·rw[<- h5,List.drop_eq_getElem_cons hj,List.filter_cons_of_neg (by rw[hx,hp];simp)]
theorem DelI.keep {p:A3->Bool} {l m:List A3} {i j:Nat} (h:DelI p l m i j) (hj:j<l.length) (hp:p (m.getD j d3)=false):DelI p l (m.set i (m.getD j d3)) (i+1) (j+1):=by
 obtain⟨h1,h2,h3,h4,h5⟩:=h;have e1:m[j]? =l[j]?:=by have:=congrArg (λz=>z[0]?) h4;simpa using this
 have hx:l[j]=m.getD j d3:=by rw[List.getD_eq_getElem?_getD,e1,List.getElem?_eq_getElem hj,Option.getD_some]
 refine⟨by simp[h1],by omega,by omega,?_,?_⟩
 ·rw[List.drop_set_of_lt (by omega)];have:=congrArg (List.drop 1) h4;simpa[List.drop_drop]using this
 ·rw[<- h5,List.drop_eq_getElem_cons hj,List.filter_cons_of_pos (by rw[hx,hp];simp),hx,List.take_set,List.take_add_one,List.getElem?_eq_getElem (by omega)];rw[List.set_append_right _ _ (by simp;omega)];simp[List.length_take,Nat.min_eq_left (show i<=m.length by omega)]
theorem a7s (c:Nat) (cs:List Value) (p:A3->Bool) (A:Atom) (hcal:n6 Tryz.prog c=true) (hf:∀x,Fn Tryz.prog c (O2 x::cs) [A] (λv As=>v= .bool (p x)/\As=[A]))
  (a:Option Nat) (n cap:Nat) (l:List A3) (hl:l.length=n) (hn:n<=4611686018427387904):FP 266 [slv a n cap,fnC c cs] [c9 52 3 a n cap (j7 l),A]
  (λv As=>∃l',l'=l.filter (λx=>!p x)/\v=slv a l'.length cap/\As=[c9 52 3 a l'.length cap (j7 l'),A]):=by
 refine FE [0,0] Tryz.func266 λX F hX=>?_;refine J.qp (b5m c cs p A hcal hf a n cap l hl hn) [1,2] λ_=>?_;rw[b6t];cases hx:l.findIdx? p with
 | none=>
  dsimp only;refine J.qT λ_=>?_;refine J.qr [1,2] λ_=>?_;have:l.filter (λx=>!p x)=l:=by
   rw[List.filter_eq_self];intro x hm;rw[List.findIdx?_eq_none_iff]at hx;simp[hx x hm]
  exact⟨l,this.symm,by rw[hl],by rw[hl];rfl⟩
 | some k=>
  dsimp only;refine J.qd (λ_ h0=>?_) λ_ h0=>?_
  ·simp only[beq_iff_eq]at h0;omega
  have hk:k<n:=by rw[List.findIdx?_eq_some_iff_getElem]at hx;obtain⟨h1,_⟩:=hx;omega
  cases a with
  | none=>
   refine J.know (λh' s=>(s.get (i:=1) rfl).2.1) λhn0=>?_;omega
  | some g=>
   refine J.openOwn 1 rfl rfl (λ_=>rfl) λr q1 q2 q3 q4=>?_;refine J.q λ_=>?_;rw[show(k:Int)+1=((k+1:Nat):Int)from by omega];refine J.q λ_=>?_;refine J.l (α:=(Nat×Nat×List A3)) (λx=>DelI p l x.2.2 x.1 x.2.1) (λx=>[si 6 x.2.1,si 5 x.1,sv 0 (slv (some g) n cap),⟨1,fnC c cs,0, .tt⟩]) [1] (λx=>[.pt g 52 (j7 x.2.2++r)]) (λx=>n-x.2.1) ((k,k+1,l)) (DelI.start hx) λx hI=>?_;obtain⟨i,j,m⟩:=x;dsimp only at hI ⊢;have hml:m.length=n:=hI.1.trans hl;have hij:i<j:=hI.2.1;have hjn:j<=n:=by have:=hI.2.2.1;omega
   refine J.qd (λ_ h1=>?_) λ_ h1=>?_
   ·simp only[decide_eq_true_eq,Int.ofNat_lt]at h1;have hget:m[j]? =some (m.getD j d3):=by rw[List.getD_eq_getElem?_getD,List.getElem?_eq_getElem (by omega),Option.getD_some]
    refine J.q λ_=>?_;refine J.v (O2 (m.getD j d3)) rfl rfl (λhg a w he hs=>?_) ?_
    ·exact j9 tk rfl rfl he rfl rfl rfl (hs.get (i:=1) rfl) (by rw[show 0+(j:Int).toNat*3=j*3 from by omega];exact E6 m r _ _ hget) rfl
    refine J.q λ_=>?_;refine J.call hX hcal (hf (m.getD j d3)) [2] 0 rfl rfl rfl rfl (by(repeat' (first | exact Conj.nil | refine Conj.cons ?_ ?_ | omega | exact hq0 | (simpa using hq0) | (exactλh=>h) | exact rfl | (intro hq;have hq0:=hq;try simp only[Bool.and_eq_true,Bool.or_eq_true,decide_eq_true_eq,Bool.not_eq_true',decide_eq_false_iff_not]at hq) | (simp;done) | (simp;omega) | decide))) rfl rfl (λ_=>rfl) ?_;refine cpq ⟨_,rfl,trivial,?_⟩;refine J.qd (λ_ h2=>?_) λ_ h2=>?_
    ·simp only[Bool.not_eq_true']at h2;refine J.q λ_=>?_;refine J.storeN hX tk 1 rfl rfl rfl rfl rfl rfl rfl rfl rfl rfl rfl rfl rfl ?_ (j7 (m.set i (m.getD j d3))++r) ?_ rfl (λ_=>rfl) ⟨trivial,?_⟩
     ·rw[List.length_append,u0];show 0+(i:Int).toNat*3+3<=_;omega
     ·rw[show 0+(i:Int).toNat*3=i*3 from by omega];exact K8 m r i _ (by omega)
     refine J.q λ_=>?_;refine J.n ((i+1,j+1,m.set i (m.getD j d3))) (hI.keep (by omega) h2) (by dsimp only;omega) [0,1,2]
    ·simp only[Bool.not_eq_false']at h2;refine J.q λ_=>?_;refine J.n ((i,j+1,m)) (hI.skip (by omega) h2) (by dsimp only;omega) [0,1,2]
   ·simp only[decide_eq_false_iff_not,Int.ofNat_lt]at h1;obtain rfl:j=n:=by omega
    have hfil:m.take i=l.filter (λx=>!p x):=by
     have h5:=hI.2.2.2.2;rw[List.drop_of_length_le (by omega)]at h5;simpa using h5
    refine J.q λ_=>?_;refine J.clear hX tk 1 rfl rfl rfl rfl rfl rfl rfl rfl rfl rfl rfl ?_ (λ_=>rfl) (λ_=>rfl) λcs' z1 z2=>⟨trivial,?_⟩
    ·rw[List.length_append,u0];rw[u0]at q4;show 0+(i:Int).toNat*3+(j-(i:Int).toNat)*3<=_;have:(i:Int).toNat=i:=by omega
     rw[this];omega
    have hilen:(l.filter (λx=>!p x)).length=i:=by rw[<- hfil,List.length_take];omega
    refine J.closeOwn (e:=52) (size:=3) (n:=i) (cap:=cap) (xs:=j7 (l.filter (λx=>!p x))) 1 rfl rfl (by rw[u0,hilen]) (by omega) q3 (by rw[z1,List.length_append,u0,hml];rw[u0,hl]at q4;exact q4) ?_ rfl ?_
    ·have z3:(0+(i:Int).toNat*3)=i*3:=by omega
     rw[z3]at z2;rw[z2,<- hfil];have e:j7 m=j7 (m.take i)++j7 (m.drop i):=by
      conv=>lhs;rw[<- List.take_append_drop i m]
      simp only[j7,List.flatMap_append]
     rw[e,List.append_assoc,List.take_left' (by rw[u0,List.length_take,Nat.min_eq_left (by omega)])]
    refine J.qr [1,2] λ_=>?_;exact⟨_,rfl,by rw[hilen];rfl,by rw[hilen];rfl⟩
theorem b2Z (b4 b5:Nat) (die blk:Int) (x:A3):FP 268 (O2 x::[pp b4,pp b5]) [.pt b4 3 [iI die], .pt b5 3 [iI blk]]
  (Ps (.bool ((x.1 !=die)||(x.2.1 !=blk))) [.pt b4 3 [iI die], .pt b5 3 [iI blk]]):=by
 refine FE [0,2,3] Tryz.func268 λX F hX=>?_;exact J.qx [1,2]
theorem b5K (q:Nat) (l:List A3) (hl:l.length<=12) (die blk:Int):FP 237 [pp q,iI die,iI blk] [O4 q l]
  (λv As=>∃a cap l',l'.Perm (l.filter λx=>!((x.1 !=die)||(x.2.1 !=blk)))/\v=slv a l'.length cap/\As=[O4 q l,c9 52 3 a l'.length cap (j7 l')]):=by
 refine FE [2,0,0] Tryz.func237 λX F hX=>?_;refine J.q λbb=>?_;refine J.cb (b8O q l hl) [1] ?_;rintro v As ⟨a,cap,l',hp,rfl,rfl⟩;refine⟨_,rfl,trivial,?_⟩;refine J.q λ_=>?_;refine J.turn1 [2,3] rfl (As:=[.hp (HP.of [.pt (bb 0) 3 [iI die], .pt (bb 1) 3 [iI blk]])]) (λh s=>Sep.hpOf.2 s) rfl ?_;refine J.q λ_=>?_;refine J.ca hX (by kernel_rfl) (a7s 268 [pp (bb 0),pp (bb 1)] (λx=>(x.1 !=die)||(x.2.1 !=blk)) _ (by kernel_rfl) (λx=>Fn.pack (b2Z (bb 0) (bb 1) die blk x)) a l'.length cap l' rfl (by rw[hp.length_eq];omega)) [4,2] 0 rfl rfl rfl rfl rfl rfl (λ_=>rfl) ?_;rintro v As ⟨l2,rfl,rfl,rfl⟩;refine⟨_,rfl,trivial,?_⟩;refine J.qr [1,4] λ_=>?_;exact⟨a,cap,_,hp.filter _,rfl,rfl⟩
def ext (l:List NCell) (m:Nat):List NCell:=l++List.replicate m Nand.zcell
theorem b4O (l:List NCell) (m:Nat):ext l m++[Nand.zcell]=ext l (m+1):=by simp[ext,List.replicate_succ']
theorem a1C (l:List NCell) (m:Nat):(ext l m).length=l.length+m:=by simp[ext]
def Q3 (l:List NCell) (k:Nat):List NCell:=(l.take k).map (λc=>{c with lost:=true})++l.drop k
theorem a9n (l:List NCell) (k:Nat):(Q3 l k).length=l.length:=by simp[Q3];omega
theorem a8b {l:List NCell} {k:Nat} (h:k<l.length):(Q3 l k).modify k (λc=>{c with lost:=true})=Q3 l (k+1):=by
 apply List.ext_getElem?;intro j;rw[List.getElem?_modify];simp only[Q3,List.getElem?_append,List.length_map,List.length_take,List.getElem?_map,List.getElem?_take,List.getElem?_drop]
 by_cases e:k=j
 ·subst e;rw[if_neg (by omega),if_pos (by omega),if_pos (by omega),show k+(k-min k l.length)=k from by omega];rw[List.getElem?_eq_getElem h];simp
 ·have e2:(λa:NCell=>if k=j then {a with lost:=true}else a)=id:=by funext a;rw[if_neg e];rfl
  simp only[Option.map_eq_map,e2,Option.map_id_fun,id]
  by_cases h1:j<k
  ·rw[if_pos (show j<min k l.length by omega),if_pos h1,if_pos (show j<min (k+1) l.length by omega),if_pos (show j<k+1 by omega)]
  ·rw[if_neg (show¬j<min k l.length by omega),if_neg (show¬j<min (k+1) l.length by omega),show k+(j-min k l.length)=j from by omega,show k+1+(j-min (k+1) l.length)=j from by omega]
theorem a2H:∀(l' pl:List A3),pl.Nodup->l'.foldl List.erase pl=pl.filter (λx=>decide (x∉l'))
 | [],pl,_=>(List.filter_eq_self.2 (by simp)).symm
 | a::l',pl,h=>by
  rw[List.foldl_cons,a2H l' _ (h.erase a),h.erase_eq_filter,List.filter_filter];apply List.filter_congr;intro x _
  by_cases e:x=a
  ·subst e;simp
  ·simp[e]
theorem b1W {l' pl:List A3} {x y:Int} (h:pl.Nodup) (hp:l'.Perm (pl.filter λa=>!((a.1 !=x)||(a.2.1 !=y)))):l'.foldl List.erase pl=pl.filter λa=>!(decide (a.1=x)&&decide (a.2.1=y)):=by
 rw[a2H l' pl h];apply List.filter_congr;intro a ha;have:a∈l'↔(a.1=x/\a.2.1=y):=by
  rw[hp.mem_iff,List.mem_filter];simp[ha]
 by_cases h1:a.1=x/\a.2.1=y
 ·rw[decide_eq_false (by rw[this];simpa using h1)];simp[h1]
 ·rw[decide_eq_true (by rw[this];exact h1)];simp only[not_and]at h1
  by_cases h2:a.1=x
  ·simp[h2,h1 h2]
  ·simp[h2]
theorem a9A {N:Nand} {x y:Int} (h:N.refuses x y 0=0) (h6:N.cutB=true):N.eraseN x y=N.cutN.setBlk x.toNat y.toNat {N.blk x.toNat y.toNat with cells:=((N.blk x.toNat y.toNat).cells++List.replicate (N.pages-(N.blk x.toNat y.toNat).cells.length) Nand.zcell).map λc=>{c with lost:=true}}:=by
 unfold Nand.eraseN;rw[if_neg (by simp[h]),if_pos h6]
theorem a8w {N:Nand} {x y:Int} (h:N.refuses x y 0=0) (h6:N.cutB=false) (h7:(N.blk x.toNat y.toNat).fails=true):N.eraseN x y=N.cutN.setBlk x.toNat y.toNat {N.blk x.toNat y.toNat with met:=true}:=by
 unfold Nand.eraseN;rw[if_neg (by simp[h]),if_neg (by simp[h6]),if_pos h7]
theorem b1X {N:Nand} {x y:Int} (h:N.refuses x y 0=0) (h6:N.cutB=false) (h7:(N.blk x.toNat y.toNat).fails=false):N.eraseN x y={N.cutN.setBlk x.toNat y.toNat {N.blk x.toNat y.toNat with cells:=[],worn:=(N.blk x.toNat y.toNat).worn+1}with plan:=N.plan.filter λa=>!(decide (a.1=x)&&decide (a.2.1=y))}:=by
 unfold Nand.eraseN;rw[if_neg (by simp[h]),if_neg (by simp[h6]),if_neg (by simp[h7])]
theorem b0m (p:Nat) (N:Nand) (hN:N.Ok) (hR:N.Room) (hpn:N.plan.Nodup) (hpl:N.plan.length<=12) (x y:Int):FP 184 [pp p,iI x,iI y] [i9 p N] (Ps (iI (N.eraseE x y)) [i9 p (N.eraseN x y)]):=by
 have hbd:=hN.bd;have hnum:=hN.num;have hr0:=hR.ops;refine FE [2,0,0] Tryz.func184 λX F hX=>?_;refine J.qp (U7 x y) [] λ_=>?_;refine J.qp (a1Y p N hN x y 0) [1] λ_=>?_;refine J.qd (λ_ h=>?_) λ_ h=>?_
 ·simp only[bne_iff_ne,ne_eq]at h;refine J.qr [1] λ_=>?_;exact⟨by simp only[Nand.eraseE,ne_eq,h,not_false_eq_true,if_pos],by simp only[Nand.eraseN,ne_eq,h,not_false_eq_true,if_pos];rfl⟩
 simp only[bne_eq_false_iff_eq]at h;obtain⟨hoff,hdd,hr⟩:=Nand.refuses_zero h;obtain⟨i,rfl⟩:=Int.eq_ofNat_of_zero_le hr.1;obtain⟨j,rfl⟩:=Int.eq_ofNat_of_zero_le hr.2.2.1;have hi:i<N.dies:=by omega
 have hj:j<N.blocks:=by omega
 have hlen:=(hN.cells i j hi hj).1;refine J.o (α:=NLoc) 1 λY=>?_;refine J.openAt 5 (i*N.blocks+j) rfl rfl (L4 _ _ _ _ _ (a4h hi hj)) rfl ?_;rw[(H1 hj).1,(H1 hj).2];refine J.o (α:=(Option Nat×Nat)) 6 λc=>?_;refine J.p (.of [0,4,8,13,16,20,26,29,32]) [8] [1,2,3,4,5,6,7] λ_=>?_;refine J.qp (U7 i j) [] λ_=>?_;refine J.q λ_=>?_;refine J.valT hX (pp (Y.bp (i*N.blocks+j))) 7 rfl rfl (λ_ a w he hC=>?_) rfl ?_
 ·refine(l9 (key:=((i:Int),(j:Int),0)) J8 Y4 (z:= .pointer none) (λw=>by kernel_rfl) rfl rfl rfl rfl he rfl rfl (hC rfl _ (f9 (i:=2) rfl))).trans ?_;simp only[M7 hi hj];rfl
 refine J.qp (b7f p N Y hN hR) [1] λ_=>?_;refine J.qd (λ_ h6=>?_) λ_ h6=>?_
 ·refine J.q λ_=>?_;rw[show(N.blk i j).cells=ext (N.blk i j).cells 0 from by simp[ext]];refine J.q λ_=>?_;refine J.l (α:=(Option Nat×Nat×Nat)) (λz=>(ext (N.blk i j).cells z.2.2).length<=N.pages) (λz=>[⟨8,pp (Y.bp (i*N.blocks+j)),7, .tt⟩,⟨0,pp p,2, .tt⟩]) [6,7] (λz=>[.pt (Y.bp (i*N.blocks+j)) 111 [slv z.1 (ext (N.blk i j).cells z.2.2).length z.2.1,iI (N.blk i j).worn, .bool (N.blk i j).fails, .bool (N.blk i j).met],c9 268 34 z.1 (ext (N.blk i j).cells z.2.2).length z.2.1 (t6 (ext (N.blk i j).cells z.2.2))]) (λz=>N.pages-(ext (N.blk i j).cells z.2.2).length) ((c.1,c.2,0)) (by rw[a1C];omega) λz hI=>?_;obtain⟨a,cap,m⟩:=z;dsimp only at hI ⊢;refine J.p (.of [0,4,8,13,16,20,24,28,32,37,40]) [] [1,2,3,4,5,6,7] λ_=>?_;refine J.qd (λ_ h8=>?_) λ_ h8=>?_
  ·simp only[decide_eq_true_eq,Int.ofNat_lt]at h8;rw[show N.cutN.pages=N.pages from rfl]at h8;refine J.q λ_=>?_;refine J.append hX tk 7 8 0 rfl rfl rfl rfl rfl rfl rfl rfl rfl rfl rfl rfl rfl rfl rfl rfl ?_ ?_ (λ_=>rfl) λa' cap'=>⟨_,b2T Nand.zcell rfl rfl,trivial,?_⟩
   ·simp only[maxLen];omega
   ·omega
   refine J.q λ_=>?_;rw[a6r _ Nand.zcell,b4O];refine J.q λ_=>?_;refine J.n ((a',cap',m+1)) (by dsimp only;rw[a1C]at h8 ⊢;omega) (by dsimp only;rw[a1C]at h8 ⊢;rw[a1C];omega) [0,1,2,3,4,5,6,7]
  ·simp only[decide_eq_false_iff_not,Int.ofNat_lt]at h8;rw[show N.cutN.pages=N.pages from rfl]at h8;have hm:(ext (N.blk i j).cells m).length=N.pages:=by omega
   have hm2:m=N.pages-(N.blk i j).cells.length:=by rw[a1C]at hm;omega
   have hext:ext (N.blk i j).cells m=(N.blk i j).cells++List.replicate (N.pages-(N.blk i j).cells.length) Nand.zcell:=by rw[hm2];rfl
   generalize ext (N.blk i j).cells m=B at hm hext;refine J.know (λh' s=>j4 (c:=(a,cap)) (by omega) (s.get (i:=7) rfl)) λhg=>?_;obtain⟨g,hg⟩:=hg;simp only at hg;subst hg;refine J.openOwn 7 rfl rfl (λ_=>rfl) λr q1 q2 q3 q4=>?_;refine J.q λ_=>?_;refine J.l (α:=Nat) (λk=>k<=B.length) (λk=>[si 56 k,si 55 B.length,⟨8,pp (Y.bp (i*N.blocks+j)),7, .tt⟩]) [7] (λk=>[.pt g 268 (t6 (Q3 B k)++r)]) (λk=>B.length-k) (0) (Nat.zero_le _) λk hI=>?_;refine J.qd (λ_ h9=>?_) λ_ h9=>?_
   ·simp only[decide_eq_true_eq,Int.ofNat_lt]at h9;refine J.q λ_=>?_;have hbl:(Q3 B k).length=B.length:=a9n B k;obtain⟨cl,hcl⟩:∃cl,(Q3 B k)[k]? =some cl:=⟨_,List.getElem?_eq_getElem (by omega)⟩;refine J.s1 7 (t6 (Q3 B (k+1))++r) ?_ ?_ ?_
    ·rw[List.length_append,m6];show 0+(k:Int).toNat*34+32<_;simp only[Int.toNat_natCast];omega
    ·rw[show 0+(k:Int).toNat*34+32=k*34+32 from by simp,List.set_append_left _ _ (by rw[m6];omega)];rw[R1 _ k 32 _ (λc=>{c with lost:=true}) cl hcl (by omega) rfl,a8b h9]
    refine J.q λ_=>?_;refine J.nx (k+1) (by omega) (by omega) (λ_ s=>s)
   ·simp only[decide_eq_false_iff_not,Int.ofNat_lt]at h9;obtain rfl:k=B.length:=by omega
    have hall:Q3 B B.length=B.map λc=>{c with lost:=true}:=by simp[Q3]
    rw[hall];have hmb:(B.map λc=>{c with lost:=true}).length=B.length:=by simp
    generalize hB':(B.map λc=>{c with lost:=true})=B' at hmb;refine J.closeOwn (e:=268) (size:=34) (n:=B.length) (cap:=cap) (xs:=t6 B') 7 rfl rfl (by rw[m6,hmb]) q2 q3 (by rw[List.length_append,m6,hmb];rw[m6]at q4;exact q4) (by rw[List.take_left' (by rw[m6,hmb])]) rfl ?_;rw[<- hmb];refine J.q λ_=>?_;refine J.closeN p N (N.cutN.setBlk i j {N.blk i j with cells:=B'}) Y i j hj ({N.blk i j with cells:=B'}) (some g,cap) [1,2,3,4,5,6,7] rfl rfl rfl rfl (rfl) rfl ?_;refine J.qr [1] λ_=>?_;exact⟨by simp[Nand.eraseE,h,h6],by rw[a9A h h6,<- hB',hext];rfl⟩
 refine J.qd (λ_ h7=>?_) λ_ h7=>?_
 ·refine J.q λ_=>?_;refine J.closeN p N (N.cutN.setBlk i j {N.blk i j with met:=true}) Y i j hj ({N.blk i j with met:=true}) _ [1,2,3,4,5,6,7] rfl rfl rfl rfl (rfl) rfl ?_;refine J.qr [1] λ_=>?_;exact⟨by simp[Nand.eraseE,h,h6,h7],by rw[a8w h h6 h7];rfl⟩
 have hw:=(hnum.2.2 i j);refine J.q λ_=>?_;refine J.turn1 [7] rfl (As:=[c9 268 34 none 0 0 (t6 [])]) (λh s=>Sep.one ⟨rfl,rfl,rfl⟩) rfl ?_;refine J.qc (b5K Y.q N.plan hpl i j) [3] λ_=>?_;rintro v As ⟨a,cap,l',hp,rfl,rfl⟩;have hl12:l'.length<=12:=by rw[hp.length_eq];exact Nat.le_trans (List.length_filter_le _ _) hpl
 refine⟨_,rfl,trivial,?_⟩;refine J.q λ_=>?_;refine J.l (α:=Nat) (λk=>k<=l'.length) (λk=>[si 92 k,si 91 l'.length,sv 90 (slv a l'.length cap),⟨0,pp p,2, .tt⟩]) [3] (λk=>[O4 Y.q ((l'.take k).foldl List.erase N.plan)]) (λk=>l'.length-k) (0) (Nat.zero_le _) λk hI=>?_;refine J.qd (λ_ h9=>?_) λ_ h9=>?_
 ·simp only[decide_eq_true_eq,Int.ofNat_lt]at h9;cases a with
  | none=>
   refine J.know (λh' s=>(s.get (i:=8) rfl).2.1) λhn0=>?_;omega
  | some g=>
   have hk:l'[k]? =some (l'.getD k d3):=by rw[List.getD_eq_getElem?_getD,List.getElem?_eq_getElem h9,Option.getD_some]
   refine J.q λ_=>?_;refine J.v (O2 (l'.getD k d3)) rfl rfl (λhg a w he hs=>?_) ?_
   ·exact p6 tk rfl rfl he rfl rfl rfl (hs.get (i:=8) rfl) (by rw[show 0+(k:Int).toNat*3=k*3 from by omega];exact a4F hk) rfl
   refine J.p (.of [0,4,8,13,17,22]) [] [1,2,4,5,6,7,8,9] λ_=>?_;refine J.qp (b2Y Y.q ((l'.take k).foldl List.erase N.plan) (l'.getD k d3).1 (l'.getD k d3).2.1 (l'.getD k d3).2.2) [3] λ_=>?_;refine J.q λ_=>?_;have hst:((l'.take k).foldl List.erase N.plan).erase (l'.getD k d3)=(l'.take (k+1)).foldl List.erase N.plan:=by
    rw[List.take_add_one,hk];simp
   rw[show(((l'.getD k d3).1,(l'.getD k d3).2.1,(l'.getD k d3).2.2):A3)=l'.getD k d3 from rfl,hst];refine J.q λ_=>?_;refine J.n (k+1) (by omega) (by omega) [0,1,2,3,4,5,6,7,8]
 ·simp only[decide_eq_false_iff_not,Int.ofNat_lt]at h9;obtain rfl:k=l'.length:=by omega
  rw[List.take_length,b1W hpn hp];refine J.q λ_=>?_;refine J.closeN p N ({N.cutN.setBlk i j {N.blk i j with cells:=[],worn:=(N.blk i j).worn+1}with plan:=N.plan.filter λa=>!(decide (a.1=(i:Int))&&decide (a.2.1=(j:Int)))}) Y i j hj ({N.blk i j with cells:=[],worn:=(N.blk i j).worn+1}) (none,0) [1,2,3,4,5,6,7] rfl rfl rfl rfl (rfl) rfl ?_;refine J.qr [1] λ_=>?_;exact⟨by simp[Nand.eraseE,h,h6,h7],by rw[b1X h h6 h7];rfl⟩
end Go.Proofs.YtgkpkpbnonmopaaGreat
namespace Go.Proofs.YtgkpkpbnonmopaaGreat
open Go.RowKit

set_option maxHeartbeats 400000 in
theorem a8L (n:Int) (w:World):
  Calls Tryz.prog 277 #[.int .i64 n] w λe w'=>e= .returned (.bool (decide (1<=n)&&decide (n<=64)))/\w=w':=by
 by_cases h0:1<=n
 ·go_enter Tryz.func277,Tryz.ntmps277
  go_wp2
  go_ret
  exact⟨J7 (by simp[h0]),rfl⟩
 ·go_enter Tryz.func277,Tryz.ntmps277
  go_wp2
  go_ret
  exact⟨J7 (by simp;omega),rfl⟩

theorem Tryz.info5:(Tryz.prog.info? 5).map (λi=>(i.zero,i.size,i.bytes))=some (some (.int .u8 0),1,1):=by kernel_rfl
def OutAt (w:World) (B g:Nat) (l:List Bool):Prop:=B<=g/\∃v,Blk w g 320 #[v, .int .i64 l.length]/\w.ownsRow B 5 1 v (Bt.pack l).length ((Bt.pack l).map bv)

theorem b7d (len:Nat):∃q r s:Nat,len/8=q/\len % 8=r/\7-r=s/\r<=7/\(len:Int).tdiv 8=(q:Int)/\(len:Int).tmod 8=(r:Int)/\IntKind.i64.wrap (7-(r:Int))=(s:Int)/\(len:Int) % 8=(r:Int):=
 ⟨len/8,len % 8,7-len % 8,rfl,rfl,rfl,by omega,by rw[Int.tdiv_eq_ediv_of_nonneg (by omega)];rfl,by rw[Int.tmod_eq_emod_of_nonneg (by omega)];rfl,by rw[IntWalk.i64_in _ (by omega)];omega,rfl⟩
theorem b6b {w:World} {base:Nat} {e:TypeId} {size n m cap:Nat} {a:Addr} {xs:List Value} (h:w.ownsRow base e size (.slice (some a) m cap) n xs):n<=cap:=by
 rcases h.2 with⟨h,_⟩ | ⟨g',c,cur,h,_,_,hc,_⟩
 ·cases h
 ·injection h with _ _ h;subst h;exact hc
theorem b5w (u i:Nat) (hu:u<18446744073709551616):bits BinOp.and IntKind.u64 ((u:Int)/2^i) 1 % 256=((u.testBit i).toNat:Int):=by
 have e:(u:Int)/2^i=((u/2^i:Nat):Int):=by simp
 have hb:u/2^i<=u:=Nat.div_le_self _ _;rw[e,show(1:Int)=((1:Nat):Int)from rfl,u64_and_nat _ _ (by omega) (by omega),nat_mask1,Nat.testBit_eq_decide_div_mod_eq];rcases Nat.mod_two_eq_zero_or_one (u/2^i)with h | h<;>simp[h]
theorem b4Y (u i:Nat) (hu:u<18446744073709551616) (L:List Bool) (q r s:Nat) (hq:L.length/8=q) (hr:L.length % 8=r) (hs:7-r=s):
  Value.int .u8 (bits BinOp.or IntKind.u8 (Bt.byteAt L (8*q):Int) (bits BinOp.and IntKind.u64 ((u:Int)/2^i) 1 % 256*2^min s 8 % 256))=bv (UInt8.ofNat (Bt.byteAt L (8*q)+(u.testBit i).toNat*2^(7-L.length % 8))):=by
 have h7:s<=7:=by omega
 have hm:min s 8=s:=by omega
 have hp:2^s<=2^7:=Nat.pow_le_pow_right (by omega) h7;have hb:=Bool.toNat_le (u.testBit i);have hmul:(u.testBit i).toNat*2^s<=128:=by
  calc(u.testBit i).toNat*2^s<=1*2^s:=Nat.mul_le_mul_right _ hb
   _<=128:=by omega
 have e:((u.testBit i).toNat:Int)*2^s % 256=(((u.testBit i).toNat*2^s:Nat):Int):=by
  have:((u.testBit i).toNat:Int)*2^s=(((u.testBit i).toNat*2^s:Nat):Int):=by simp
  rw[this];omega
 have ho:=Bt.byte_or L (u.testBit i);rw[hq,hr,hs]at ho;have hlt:=Bt.byteAt_lt (L++[u.testBit i]) (8*q);rw[Bt.byteAt_snoc,if_pos (by omega),show L.length-8*q=r from by omega,hs]at hlt;rw[b5w u i hu,hm,e,u8_or_nat _ _ (Bt.byteAt_lt _ _) (by omega),ho,hr,hs];simp[bv,Nat.mod_eq_of_lt hlt]
theorem OutAt.put {wr:World} {B g g2 cap q:Nat} {L:List Bool} (x:Bool) (hBg:B<=g) (hb:Blk wr g 320 #[.slice (some ⟨g2,0,none⟩) (q+1) cap, .int .i64 L.length])
  (hown:wr.ownsRow B 5 1 (.slice (some ⟨g2,0,none⟩) (q+1) cap) (q+1) ((Bt.packZ L).map bv)) (hne:g≠g2) (hq:L.length/8=q) (u:Value) (hu:u=bv (UInt8.ofNat (Bt.byteAt L (8*q)+x.toNat*2^(7-L.length % 8)))):
  OutAt ((wr.setCell ⟨g2,q,none⟩ u).setCell ⟨g,1,none⟩ (.int .i64 (L.length+1:Int))).drew B g (L++[x]):=by
 have h1:=(hown.stored q u).1;have h2:=(hb.far (p:=⟨g2,q,none⟩) hne u).set_ 1 (.int .i64 (L.length+1:Int));refine⟨hBg,_,by simpa using h2.drew,?_⟩;have hl:(Bt.pack (L++[x])).length=q+1:=by rw[Bt.length_pack];simp;omega
 have h3:=(h1.kept (row:=some g) (w':=(wr.setCell ⟨g2,q,none⟩ u).setCell ⟨g,1,none⟩ (.int .i64 (L.length+1:Int))) ⟨rfl,rfl,rfl,by simp[World.setCell],λk _ hk=>heap_setCell_other _ _ _ _ (λe=>hk (by simp[e]))⟩ (.inr (by simp[Value.ownBlock];exactλe=>hne e.symm)));rw[hl,Bt.pack_snoc,List.map_set,hq,<- hu];exact h3

theorem b3u {w:World} {B g g2 n cap:Nat} {e:TypeId} {xs:List Value} (h:w.ownsRow B e 1 (.slice (some ⟨g2,0,none⟩) n cap) n xs) (hgg:¬g2=g) {j:Nat} (u:Value):(w.setCell ⟨g,j,none⟩ u).ownsRow B e 1 (.slice (some ⟨g2,0,none⟩) n cap) n xs:=
 h.kept (row:=some g) ⟨rfl,rfl,rfl,by simp[World.setCell],λk _ hk=>heap_setCell_other _ _ _ _ (λe=>hk (by simp[e]))⟩ (.inr (by simp[Value.ownBlock];exact hgg))
theorem b1e {w wr w1:World} {B g g2 cap q:Nat} {L:List Bool} {v x:Value} {T:TypeId} {o:Obj} {X:Nat}
  (hbv:bv (UInt8.ofNat X)= .int .u8 X) (hzq:(Bt.packZ L)[q]? =some (UInt8.ofNat X)) (hpz:Bt.packZ L=Bt.pack L++[0])
  (hb:Blk wr g T #[v,x]) (hbel:Below B w wr) (hsz:B<=wr.heap.size) (hne:v.ownBlock≠some g) (hvB:∀k,v.ownBlock=some k->B<=k) (hgrow:(wr.alloc o).grownBy w1 v.ownBlock) (hat:v.ownBlock=some g2\/g2=(wr.alloc o).heap.size)
  (hown1:w1.ownsRow B 5 1 (.slice (some ⟨g2,0,none⟩) (q+1) cap) (q+1) ((Bt.pack L).map bv++[.int .u8 0])):
  Blk w1 g T #[v,x]/\¬g2=g/\B<=g2/\B<=w1.heap.size/\w1.ownsRow B 5 1 (.slice (some ⟨g2,0,none⟩) (q+1) cap) (q+1) ((Bt.packZ L).map bv)/\Below B w w1/\
   w1.cell? ⟨g,0,none⟩=some v/\w1.cell? ⟨g,1,none⟩=some x/\w1.frozen? ⟨g,0,none⟩=false/\w1.frozen? ⟨g,1,none⟩=false/\w1.cell? ⟨g2,q,none⟩=some (.int .u8 X)/\w1.frozen? ⟨g2,q,none⟩=false:=by
 have hb1:=(hb.alloc o).grown hgrow (Ne.symm hne);have hgg:¬g2=g:=by
  rintro rfl;rcases hat with hat | hat
  ·exact hne hat
  ·have:=hb.lt;simp at hat;omega
 have hown2:w1.ownsRow B 5 1 (.slice (some ⟨g2,0,none⟩) (q+1) cap) (q+1) ((Bt.packZ L).map bv):=by rw[hpz,List.map_append];exact hown1
 have hBg2:=hown2.lt g2 rfl;have cj:=hown2.cellAt q (by omega);rw[List.getElem?_map,hzq]at cj;simp only[Option.map_some,hbv]at cj;have d0:=hb1.cell 0;have d1:=hb1.cell 1;simp at d0 d1;refine⟨hb1,hgg,hBg2.1,?_,hown2,?_,d0,d1,hb1.frozen 0,hb1.frozen 1,cj,hown2.frozenAt q⟩
 ·have:=hgrow.size;simp at this;omega
 ·refine(hbel.alloc hsz o).grown hgrow (by simp;omega) (λk hk=>?_);rcases hat with hat | hat
  ·rw[hat]at hk;injection hk with hk;omega
  ·exact hvB k hk

theorem a9c {w w1 w2:World} {B g g2 cap q:Nat} {xs:List Value} {v x y:Value} {T e:TypeId} (hw2:w1.setCell ⟨g,0,none⟩ (.slice (some ⟨g2,0,none⟩) (q+1) cap)=w2)
  (hBg:B<=g) (hb:Blk w1 g T #[v,x]) (hown:w1.ownsRow B e 1 (.slice (some ⟨g2,0,none⟩) (q+1) cap) (q+1) xs) (hbel:Below B w w1) (hs:B<=w1.heap.size) (hgg:¬g2=g)
  (dj:w1.cell? ⟨g2,q,none⟩=some y) (ej:w1.frozen? ⟨g2,q,none⟩=false):
  Blk w2 g T #[.slice (some ⟨g2,0,none⟩) (q+1) cap,x]/\w2.ownsRow B e 1 (.slice (some ⟨g2,0,none⟩) (q+1) cap) (q+1) xs/\Below B w w2/\B<=w2.heap.size/\
   w2.cell? ⟨g,0,none⟩=some (.slice (some ⟨g2,0,none⟩) (q+1) cap)/\w2.cell? ⟨g,1,none⟩=some x/\w2.frozen? ⟨g,0,none⟩=false/\w2.frozen? ⟨g,1,none⟩=false/\w2.cell? ⟨g2,q,none⟩=some y/\w2.frozen? ⟨g2,q,none⟩=false:=by
 subst hw2;have hb2:Blk (w1.setCell ⟨g,0,none⟩ (.slice (some ⟨g2,0,none⟩) (q+1) cap)) g T #[.slice (some ⟨g2,0,none⟩) (q+1) cap,x]:=hb.set_ 0 _;have d0:=hb2.cell 0;have d1:=hb2.cell 1;simp at d0 d1;refine⟨hb2,b3u hown hgg _,hbel.setCell hBg _,by simpa[World.setCell]using hs,d0,d1,hb2.frozen 0,hb2.frozen 1,?_,?_⟩
 ·rw[World.cell?_setCell_other _ _ _ _ (λh=>hgg (by injection h with h _ _;exact h.symm))];exact dj
 ·rw[World.frozen?_setCell];exact ej

set_option maxRecDepth 100000 in
set_option maxHeartbeats 1000000 in
theorem a0x (u n:Nat) (h1:1<=n) (h2:n<=64) (hu:u<2^n) (l:List Bool) (hl:l.length+n<=4096) (w:World) (B g:Nat) (hB:B<=w.heap.size) (h:OutAt w B g l):
  Calls Tryz.prog 261 #[.pointer (some ⟨g,0,none⟩), .int .u64 u, .int .i64 n] w λe w'=>e= .returned (.bool true)/\OutAt w' B g (l++Bt.bits u n)/\Below B w w':=by
 obtain⟨hBg,v,hb,hown⟩:=id h;have hm:(decide (1<=(n:Int))&&decide ((n:Int)<=64))=true:=by simp;omega
 have c0:=hb.cell 0;have c1:=hb.cell 1;simp at c0 c1;have hu64:u<18446744073709551616:=Nat.lt_of_lt_of_le hu (Nat.pow_le_pow_right (n:=2) (by omega) h2);have hsh:(u:Int)/2^(n-1)/2=0:=by
  have e:(u:Int)/2^(n-1)/2=((u/2^(n-1)/2:Nat):Int):=by simp
  rw[e,Nat.div_div_eq_div_mul,<- Nat.pow_succ,show(n-1).succ=n from by omega,Nat.div_eq_of_lt hu];rfl
 obtain⟨i0,hi0,hz0,hz1,hz2⟩:=info_parts Tryz.info5
 go_enter Tryz.func261,Tryz.ntmps261
 go_wp2_with (go_at_call 277;refine(a8L _ _).mono ?_;rintro e w' ⟨rfl,rfl⟩)
 clear hm hsh c0 c1 hown hb
 go_loopw [7] (λi wr=>∃k:Nat,k<=n/\i= .int .i64 ((n:Int)-1-k)/\OutAt wr B g (l++(Bt.bits u n).take k)/\Below B w wr/\B<=wr.heap.size) (λi _=>(intOf i+1).toNat)
 case atStart=>exact⟨0,by omega,by simp,by simpa using h,Below.refl _ _,hB⟩
 case round=>
  obtain⟨k,hk,rfl,⟨_,v,hb,hown⟩,hbel,hsz⟩:=hrel;generalize hL:l++(Bt.bits u n).take k=L at hb hown;have hLl:L.length=l.length+k:=by rw[<- hL];simp[Bt.length_bits];omega
  have hL1:L.length<=4096:=by omega
  have c0:=hb.cell 0;have c1:=hb.cell 1;simp at c0 c1;have f0:=hb.frozen 0;have f1:=hb.frozen 1;have hgl:=hb.lt
  by_cases hlt:k<n
  ·have hL2:L.length<=4095:=by omega
   have hk':(0:Int)<=(n:Int)-1-k:=by omega
   obtain⟨q,r,s,hq,hr,hs,hr7,q1,q2,q3,q4⟩:=b7d L.length;obtain⟨i,hi⟩:∃i:Nat,(n:Int)-1-k=i:=⟨n-1-k,by omega⟩;have hval:=b4Y u i hu64 L q r s hq hr hs;have hL3:L++[u.testBit i]=l++(Bt.bits u n).take (k+1):=by
    rw[Bt.take_bits_succ _ _ _ hlt,<- List.append_assoc,hL,show n-1-k=i from by omega]
   have HL3:=Lib.hid hL3;have Hval:=Lib.hid hval;have hx:=Bt.byteAt_lt L (8*q);have hbv:bv (UInt8.ofNat (Bt.byteAt L (8*q)))= .int .u8 (Bt.byteAt L (8*q):Int):=by simp[bv,Nat.mod_eq_of_lt hx]
   have hzq:=Bt.packZ_get L q (by omega);have hzl:(Bt.packZ L).length=q+1:=by rw[Bt.length_packZ,hq]
   have hpz:(Bt.packZ L)=if L.length % 8=0 then Bt.pack L++[0]else Bt.pack L:=rfl
   have i4:(0:Int)<=q:=by omega
   have i5:IntKind.i64.wrap (q:Int)=q:=IntWalk.i64_in _ (by omega);have i2:(q:Int)<((q+1:Nat):Int):=by omega
   have i3:q<q+1:=by omega
   have i6:(q:Int)<(q:Int)+1:=by omega
   have hq4:q<=512:=by omega
   have hpl:(Bt.pack L).length<=512:=by rw[Bt.length_pack];omega
   have Hq:=Lib.hid hq;have Hi:=Lib.hid hi;have HLl:=Lib.hid hLl
   by_cases h8:r=0
   ·rw[hr,if_pos h8]at hpz;have hplq:(Bt.pack L).length=q:=by rw[Bt.length_pack];omega
    rw[hplq]at hown;have hne:=a3U hown hb (by decide);have h8':((r:Int)==0)=true:=by simp[h8]
    clear h8 hL3 hval hL hLl hq hr hs;have Hpz:=Lib.hid hpz;have Hbv:=Lib.hid hbv;have Hzq:=Lib.hid hzq;clear hbv hzq hpz hplq hzl hpl
    go_wp2_with (at_builtin;refine wpList_append_lies _ rfl _ _ 306 rfl B 5 i0 (.int .u8 0) 1 1 Tryz.underlying306 hi0 hz0 hz1 hz2 rfl (by decide) _ _ _ (by rfl) (hown.alloc _) ⟨wr.heap.size,0,none⟩ 1 1 [.int .u8 0] rfl rfl (cell_one_new _ _ _) (by simp[Value.oneCell']) (by omega) (by unfold maxLen;omega) (by omega) (by simp;omega) _ rfl ?_;intro g2 cap w1 hown1 hgrow hat hlt1;obtain⟨hb1,hgg,hBg2,hs1,hown2,hbel1,d0,d1,e0,e1,dj,ej⟩:=b1e Hbv.out Hzq.out Hpz.out hb hbel hsz hne (λk hk=>(hown.lt k hk).1) hgrow hat hown1;clear hb hown hbel hsz hgrow hat hown1 c0 c1 f0 f1 hne;generalize hX:Bt.byteAt L (8*q)=X at dj hx Hval;have HX:=Lib.hid hX;clear hX)
    obtain⟨w2,hw2⟩:∃w2,w1.setCell ⟨g,0,none⟩ (.slice (some ⟨g2,0,none⟩) (q+1) cap)=w2:=⟨_,rfl⟩;obtain⟨hb2,hown3,hbel2,hs2,c0,c1,f0,f1,cj,fj⟩:=a9c hw2 hBg hb1 hown2 hbel1 hs1 hgg dj ej;rw[hw2];clear hw2 hb1 hown2 hbel1 hs1 d0 d1 e0 e1 dj ej
    go_still_tail 25,(by kernel_rfl)
    change wpList _ _ _ _ _ w2.drew
    go_wp2
    go_roundw
    case rel=>exact⟨k+1,by omega,by rw[<- Hi.out];go_num,by rw[<- HL3.out];exact OutAt.put _ hBg hb2 hown3 (λe=>hgg e.symm) Hq.out _ (by rw[HX.out];exact Hval.out),((hbel2.setCell hBg2 _).setCell hBg _).drew,by simpa[World.setCell]using hs2⟩
    case measure=>simp[intOf];omega
   ·have h8':1<=r:=by omega
    rw[hr,if_neg h8]at hpz;rw[<- hpz]at hown;rw[hzl]at hown;obtain⟨g2,cap,rfl,hBg2,hlt2⟩:=hown.form (by omega);have hcap:=b6b hown;have hne:=a3U hown hb (by decide);have hgg:¬g2=g:=λe=>hne (by simp[Value.ownBlock,e]);have cj:=hown.cellAt q (by omega);have fj:=hown.frozenAt q;rw[List.getElem?_map,hzq]at cj;simp only[Option.map_some,hbv]at cj;generalize hX:Bt.byteAt L (8*q)=X at cj hx Hval;have HX:=Lib.hid hX;clear h8 hL3 hval hL hLl hq hr hs hX hbv hpz hzl hzq
    go_wp2
    go_still_tail 25,(by kernel_rfl)
    change wpList _ _ _ _ _ wr.drew
    go_wp2
    go_roundw
    case rel=>exact⟨k+1,by omega,by rw[<- Hi.out];go_num,by rw[<- HL3.out];exact OutAt.put _ hBg hb hown (λe=>hgg e.symm) Hq.out _ (by rw[HX.out];exact Hval.out),((hbel.setCell hBg2 _).setCell hBg _).drew,by simpa[World.setCell]using hsz⟩
    case measure=>simp[intOf];omega
  ·have hkn:k=n:=by omega
   subst hkn;have hfin:OutAt wr B g (l++Bt.bits u k):=⟨hBg,v,by rw[<- hL,List.take_of_length_le (by rw[Bt.length_bits];omega)]at hb;exact hb,by rw[<- hL,List.take_of_length_le (by rw[Bt.length_bits];omega)]at hown;exact hown⟩;clear hLl hL hb hown
   go_wp2
   go_ret
   exact⟨rfl,hfin,hbel⟩

set_option maxRecDepth 100000 in
set_option maxHeartbeats 400000 in
theorem a8C (v:Value) (xs:List Value) (n:Nat) (B:Nat) (w:World) (h:w.ownsRow B 5 1 v n xs) (hn:0<n) (hm:n<=65536) (h1:∀u∈xs,u.oneCell'=true):
  Calls Tryz.prog 280 #[v] w λe w'=>∃g cap,e= .returned (.slice (some ⟨g,0,none⟩) n cap)/\w'.ownsRow w.heap.size 5 1 (.slice (some ⟨g,0,none⟩) n cap) n xs/\Below w.heap.size w w':=by
 obtain⟨g,cap,rfl,hBg,hlt⟩:=h.form hn;obtain⟨i0,hi0,hz0,hz1,hz2⟩:=info_parts Tryz.info5
 go_enter Tryz.func280,Tryz.ntmps280
 have hnil:=λW:World=>Lib.run_eql_slice_nil (P:=Tryz.prog) W 306 5 (some ⟨g,0,none⟩) n cap 0 0 Tryz.underlying306
 go_wp2_with (at_builtin;refine wpList_append_lies _ rfl _ _ 306 rfl w.heap.size 5 i0 (.int .u8 0) 1 1 Tryz.underlying306 hi0 hz0 hz1 hz2 rfl (by decide) _ 0 [] (by rfl) (World.ownsRow_lit w #[] 0 (Nat.le_refl _) (by decide) rfl) ⟨g,0,none⟩ n cap xs rfl h.1 ((h.alloc _).cells rfl) h1 hn (by unfold maxLen;omega) (by omega) (by simp) _ rfl ?_;intro g2 cap2 w1 hown1 hgrow hat hlt1)
 have hb:Below w.heap.size w w1:=((Below.refl _ _).alloc (Nat.le_refl _) _).grown hgrow (by simp) (λk hk=>by simp[Value.ownBlock]at hk;omega);simp only[Nat.zero_add,List.nil_append]at hown1 ⊢
 go_wp2
 go_ret
 exact⟨g2,cap2,rfl,hown1,hb⟩

set_option maxRecDepth 100000 in
set_option maxHeartbeats 400000 in
theorem a5x (l:List Bool) (hl:0<l.length) (hl2:l.length<=65536) (w:World) (B g:Nat) (h:OutAt w B g l):
  Calls Tryz.prog 263 #[.pointer (some ⟨g,0,none⟩)] w λe w'=>∃g2 cap,e= .returned (.slice (some ⟨g2,0,none⟩) (Bt.pack l).length cap)/\w'.ownsRow w.heap.size 5 1 (.slice (some ⟨g2,0,none⟩) (Bt.pack l).length cap) (Bt.pack l).length ((Bt.pack l).map bv)/\Below w.heap.size w w':=by
 obtain⟨hBg,v,hb,hown⟩:=h;have c0:=hb.cell 0;simp at c0;have hp:0<(Bt.pack l).length:=by rw[Bt.length_pack];omega
 have hp2:(Bt.pack l).length<=65536:=by rw[Bt.length_pack];omega
 go_enter Tryz.func263,Tryz.ntmps263
 go_wp2_with (go_at_call 280;refine(a8C _ _ _ _ _ hown hp hp2 (by simp[bv,Value.oneCell'])).mono ?_;rintro e w1 ⟨g2,cap,rfl,hown1,hb1⟩)
 go_ret
 exact⟨g2,cap,rfl,hown1,hb1⟩

def InAt (w:World) (g a o:Nat) (b:List UInt8) (k:Nat):Prop:=∃cap,Blk w g 333 #[.slice (some ⟨a,o,none⟩) b.length cap, .int .i64 k]/\b.length<=cap/\a≠g/\a<w.heap.size/\∀j x,b[j]? =some x->w.cell? ⟨a,o+j,none⟩=some (bv x)

set_option maxRecDepth 100000 in
set_option maxHeartbeats 400000 in
theorem b2h (A:Option Addr) (n cap:Nat) (w:World):
  Calls Tryz.prog 254 #[.slice A n cap] w λe w'=>e= .returned (.pointer (some ⟨w.heap.size,0,none⟩))/\w'=w.alloc (.cells #[.slice A n cap, .int .i64 0] 333):=by
 go_enter Tryz.func254,Tryz.ntmps254
 go_wp2
 go_ret
 exact⟨rfl,rfl⟩

set_option maxRecDepth 100000 in
set_option maxHeartbeats 400000 in
theorem b6r (a o:Nat) (b:List UInt8) (k:Nat) (hk:k<=8*b.length) (hb:b.length<=65536) (w:World) (g:Nat) (h:InAt w g a o b k):
  Calls Tryz.prog 278 #[.pointer (some ⟨g,0,none⟩)] w λe w'=>e= .returned (.int .i64 ((8*b.length-k:Nat):Int))/\∃m,w'=w.drewN m:=by
 obtain⟨cap,hb,_,_,_,_⟩:=h;have c0:=hb.cell 0;have c1:=hb.cell 1;simp at c0 c1;have e1:IntKind.i64.wrap (8*(b.length:Int))=((8*b.length:Nat):Int):=by rw[IntWalk.i64_in _ (by omega)];omega
 have e2:IntKind.i64.wrap (((8*b.length:Nat):Int)-(k:Int))=((8*b.length-k:Nat):Int):=by rw[IntWalk.i64_in _ (by omega)];omega
 generalize 8*b.length=m at*;generalize m-k=d at*
 go_enter Tryz.func278,Tryz.ntmps278
 go_wp2
 go_quiet (fail)
 go_wp2
 go_ret
 exact⟨rfl,_,rfl⟩

theorem InAt.step {wr:World} {g a o j:Nat} {b:List UInt8} (h:InAt wr g a o b j) (m:Nat):InAt ((wr.setCell ⟨g,1,none⟩ (.int .i64 (j+1:Int))).drewN m) g a o b (j+1):=by
 obtain⟨cap,hb,h1,h2,h3,h4⟩:=h;refine⟨cap,?_,h1,h2,by simpa[World.setCell]using h3,λi x hx=>?_⟩
 ·exact hb.set_ 1 (.int .i64 (j+1:Int))
 ·have:((wr.setCell ⟨g,1,none⟩ (.int .i64 (j+1:Int))).drewN m).cell? ⟨a,o+i,none⟩=(wr.setCell ⟨g,1,none⟩ (.int .i64 (j+1:Int))).cell? ⟨a,o+i,none⟩:=by simp
  rw[this,World.cell?_setCell_other _ _ _ _ (λe=>h2 (by injection e with e _ _;exact e.symm))];exact h4 i x hx
theorem a9w {w wr:World} {g:Nat} (h:w.grownBy wr (some g)) (o:Nat) (u:Value) (m:Nat):w.grownBy ((wr.setCell ⟨g,o,none⟩ u).drewN m) (some g):=
 ⟨h.os,h.tape,h.output,by simpa[World.setCell]using h.size,λk hk hne=>(Below.heap_setCell wr ⟨g,o,none⟩ u k (λe=>hne (by rw[e]))).trans (h.block k hk hne)⟩
theorem InAt.grown {w w':World} {g a o j:Nat} {b:List UInt8} {r:Option Nat} (h:InAt w g a o b j) (hg:w.grownBy w' r) (h1:some g≠r) (h2:some a≠r):InAt w' g a o b j:=by
 obtain⟨cap,hb,e1,e2,e3,e4⟩:=h;exact⟨cap,hb.grown hg h1,e1,e2,Nat.lt_of_lt_of_le e3 hg.size,λi x hx=>(World.cell?_of_block (hg.block a e3 h2)).trans (e4 i x hx)⟩
theorem b6y (x:Nat) (hx:x<256) (s:Nat):bits BinOp.and IntKind.u8 ((x:Int)/2^s) 1=((x.testBit s).toNat:Int):=by
 have e:(x:Int)/2^s=((x/2^s:Nat):Int):=by simp
 have hb:x/2^s<=x:=Nat.div_le_self _ _;rw[e,show(1:Int)=((1:Nat):Int)from rfl,u8_and_nat _ _ (by omega) (by omega),nat_mask1,Nat.testBit_eq_decide_div_mod_eq];rcases Nat.mod_two_eq_zero_or_one (x/2^s)with h | h<;>simp[h]
theorem b7H (u:Nat) (hu:2*u<18446744073709551616) (y:Bool):bits BinOp.or IntKind.u64 ((2*u:Nat):Int) (y.toNat:Int)=((2*u+y.toNat:Nat):Int):=by
 have hy:=Bool.toNat_le y;rw[u64_or_nat _ _ hu (by omega),nat_join 1 (2*u) y.toNat (by omega) (by omega)]

set_option maxRecDepth 100000 in
set_option maxHeartbeats 400000 in
theorem a4q (a o:Nat) (b:List UInt8) (k n:Nat) (hn1:1<=n) (hn:n<=64) (hk:k+n<=8*b.length) (hb:b.length<=65536) (w:World) (g:Nat) (h:InAt w g a o b k):
  Calls Tryz.prog 255 #[.pointer (some ⟨g,0,none⟩), .int .i64 n] w λe w'=>e= .returned (.tuple #[.int .u64 (Bt.numAt b k n), .bool true])/\InAt w' g a o b (k+n)/\w.grownBy w' (some g)/\w'.heap.size=w.heap.size:=by
 have hm:(decide (1<=(n:Int))&&decide ((n:Int)<=64))=true:=by simp;omega
 have hd:¬(((8*b.length-k:Nat):Int)<(n:Int)):=by omega
 generalize hD:8*b.length-k=D at hd;have HD:=Lib.hid hD;clear hD;obtain⟨cap,hblk,_,_,_,_⟩:=id h;have c1:=hblk.cell 1;simp at c1
 go_enter Tryz.func255,Tryz.ntmps255
 go_wp2_with (first | (go_at_call 277;refine(a8L _ _).mono ?_;rintro e w' ⟨rfl,rfl⟩) | (go_at_call 278;refine(b6r a o b k (by omega) hb _ g h).mono ?_;rintro e w' ⟨rfl,m,rfl⟩;rw[HD.out]))
 clear hm hd c1 hblk
 go_loopw [6] (λu wr=>∃i:Nat,i<=n/\u= .int .u64 (Bt.numAt b k i)/\InAt wr g a o b (k+i)/\w.grownBy wr (some g)/\wr.heap.size=w.heap.size) (λ_ wr=>((k:Int)+n-a7k wr ⟨g,1,none⟩).toNat)
 case atStart=>exact⟨0,by omega,rfl,h,⟨rfl,rfl,rfl,Nat.le_refl _,λ_ _ _=>rfl⟩,rfl⟩
 case round=>
  obtain⟨i,hi,rfl,hin,hgr,hsz⟩:=hrel;obtain⟨j,hj⟩:∃j,k+i=j:=⟨_,rfl⟩;rw[hj]at hin;obtain⟨cap2,hblk,hcap,hne,hlt,hcell⟩:=id hin;have c0:=hblk.cell 0;have c1:=hblk.cell 1;simp at c0 c1;have f1:=hblk.frozen 1;have hme:=a4G c1
  by_cases hlt2:i<n
  ·obtain⟨q,r,s,hq,hr,hs,hr7,q1,q2,q3,q4⟩:=b7d j;obtain⟨x,hx⟩:∃x,b[q]? =some x:=⟨b[q]'(by omega),List.getElem?_eq_getElem _⟩;have cj:=hcell q x hx;unfold bv at cj;have hx8:=x.toNat_lt;have hgb:=b6y x.toNat hx8 s;have hU:=Bt.numAt_lt b k i;have hU2:2*Bt.numAt b k i<18446744073709551616:=by
    have:2^i<=2^63:=Nat.pow_le_pow_right (by omega) (by omega);omega
   have hob:=b7H (Bt.numAt b k i) hU2 (x.toNat.testBit s);have hbit:x.toNat.testBit s=Bt.bitAt b (k+i):=by
    unfold Bt.bitAt;rw[hj,hq,hr,hs,List.getD_eq_getElem?_getD,hx];rfl
   have hnx:2*Bt.numAt b k i+(x.toNat.testBit s).toNat=Bt.numAt b k (i+1):=by rw[hbit];rfl
   have hsl:IntKind.u64.wrap ((Bt.numAt b k i:Int)*2)=((2*Bt.numAt b k i:Nat):Int):=by rw[IntWalk.u64_in _ (by omega)];omega
   have i1:(0:Int)<=q:=by omega
   have i2:(q:Int)<(b.length:Int):=by omega
   have i3:q<b.length:=by omega
   have i5:IntKind.i64.wrap (q:Int)=q:=IntWalk.i64_in _ (by omega);have hlt3:(j:Int)<(k:Int)+(n:Int):=by omega
   have hs8:min s 8=s:=by omega
   have Hnx:=Lib.hid hnx;have Hj:=Lib.hid hj;have Hme:=Lib.hid hme;clear hnx hbit hq hr hs hx q4 hU hcell hj hme;generalize Bt.numAt b k i=U at*
   go_wp2
   go_quiet (fail)
   go_wp2
   go_roundw
   case rel=>
    refine⟨i+1,by omega,?_,by rw[show k+(i+1)=j+1 from by rw[<- Hj.out];omega];exact hin.step _,a9w hgr _ _ _,by simpa[World.setCell]using hsz⟩;rw[<- Hnx.out,<- hob];congr 2;rw[IntWalk.u64_in _ (by have:=Bool.toNat_le (x.toNat.testBit s);omega)]
   case measure=>
    rw[Hme.out];rw[a4G (k:= .i64) (x:=(j:Int)+1)]
    ·omega
    ·exact World.cell?_setCell_same (wr.drewN nq) ⟨g,1,none⟩ (.int .i64 ((j:Int)+1)) (by simpa using c1)
  ·have hin2:k+n=j:=by omega
   have h2:i=n:=by omega
   subst h2;have hlt3:¬(j:Int)<(k:Int)+(i:Int):=by omega
   have H2:=Lib.hid hin2;clear hin2 hj hme
   go_wp2
   go_ret2
   exact⟨rfl,by rw[H2.out];exact hin,hgr,hsz⟩

theorem b7t (s:Nat) (h:s<2147483648):bits .and .u32 (s:Int) 2147483648=0:=by
 rw[show(2147483648:Int)=((2147483648:Nat):Int)from rfl,u32_and_nat _ _ (by omega) (by omega),show(2147483648:Nat)=2^31 from rfl,nat_bit];have:s/2^31=0:=by omega
 rw[this];rfl
theorem b5A (s:Nat) (h:2147483648<=s) (h2:s<4294967296):bits .and .u32 (s:Int) 2147483648=2147483648:=by
 rw[show(2147483648:Int)=((2147483648:Nat):Int)from rfl,u32_and_nat _ _ (by omega) (by omega),show(2147483648:Nat)=2^31 from rfl,nat_bit];have:s/2^31=1:=by omega
 rw[this]

set_option maxRecDepth 100000 in
set_option maxHeartbeats 400000 in
theorem a5L (s x:Nat) (hs:s<4294967296) (hx:x<256) (w:World):
  Calls Tryz.prog 281 #[.int .u32 s, .int .u8 x] w λe w'=>e= .returned (.int .u32 (K.step s x))/\w=w':=by
 have e1:IntKind.u32.wrap ((x:Int)*16777216)=((x*16777216:Nat):Int):=by rw[IntWalk.u32_in _ (by omega)];omega
 have e2:bits .xor .u32 (s:Int) ((x*16777216:Nat):Int)=((s ^^^ x*16777216:Nat):Int):=u32_xor_nat _ _ hs (by omega);have hlt0:s ^^^ x*16777216<4294967296:=Nat.xor_lt_two_pow (n:=32) (by omega) (by omega);have hst:=Lib.hid (show K.step s x=K.rounds 8 (s ^^^ x*16777216)from rfl);generalize s ^^^ x*16777216=s0 at*;generalize hX:x*16777216=X at*;have HX:=Lib.hid hX;clear hX
 go_enter Tryz.func281,Tryz.ntmps281
 go_wp2
 go_loop [0,11] (λv c=>∃k:Nat,k<=8/\c= .int .i64 k/\v= .int .u32 (K.rounds k s0)) (λ_ c=>8-(intOf c).toNat)
 case atStart=>exact⟨0,by omega,rfl,rfl⟩
 case round=>
  obtain⟨k,hk,rfl,rfl⟩:=hrel;clear e1 e2
  by_cases hlt:k<8
  ·have hr:=K.rounds_lt k s0 hlt0;have hn:K.round (K.rounds k s0)=K.rounds (k+1) s0:=rfl;generalize K.rounds k s0=t at*
   by_cases ht:t<2147483648
   ·have e3:=b7t t ht;have e4:K.round t=t*2:=by simp[K.round,ht]
    have Hn:=Lib.hid (e4.symm.trans hn);clear e4 hn
    go_wp2
    go_round
    case rel=>exact⟨k+1,by omega,by go_num,by rw[<- Hn.out];go_num⟩
    case measure=>simp[intOf];omega
   ·have e3:=b5A t (by omega) hr;have e4:K.round t=(t*2 % 4294967296) ^^^ 1947962583:=by simp[K.round,ht]
    have e5:bits .xor .u32 ((t*2 % 4294967296:Nat):Int) 1947962583=(((t*2 % 4294967296) ^^^ 1947962583:Nat):Int):=u32_xor_nat _ 1947962583 (by omega) (by omega);have e6:IntKind.u32.wrap ((t:Int)*2)=((t*2 % 4294967296:Nat):Int):=by rw[IntKind.wrap_u32'];omega
    have Hn:=Lib.hid (e4.symm.trans hn);clear e4 hn;generalize t*2 % 4294967296=t2 at*;generalize t2 ^^^ 1947962583=t3 at*
    go_wp2
    go_round
    case rel=>exact⟨k+1,by omega,by go_num,by rw[<- Hn.out]⟩
    case measure=>simp[intOf];omega
  ·have:k=8:=by omega
   subst this
   go_wp2
   go_ret
   exact⟨by rw[hst.out];rfl,rfl⟩

set_option maxRecDepth 100000 in
set_option maxHeartbeats 400000 in
theorem b6q (b:List UInt8) (hb:b.length<=65536) (a o cap:Nat) (w:World) (hcell:∀j x,b[j]? =some x->w.cell? ⟨a,o+j,none⟩=some (bv x)):
  Calls Tryz.prog 264 #[.slice (some ⟨a,o,none⟩) b.length cap] w λe w'=>e= .returned (.int .u32 (K.sum b))/\w=w':=by
 go_enter Tryz.func264,Tryz.ntmps264
 go_wp2
 go_loop [3,8] (λs c=>∃k:Nat,k<=b.length/\c= .int .i64 k/\s= .int .u32 (K.sum (b.take k))) (λ_ c=>b.length-(intOf c).toNat)
 case atStart=>exact⟨0,by omega,rfl,rfl⟩
 case round=>
  obtain⟨k,hk,rfl,rfl⟩:=hrel
  by_cases hlt:k<b.length
  ·obtain⟨x,hx⟩:∃x,b[k]? =some x:=⟨b[k],List.getElem?_eq_getElem _⟩;have hs:K.sum (b.take k)<4294967296:=K.sum_lt _;have hst:K.step (K.sum (b.take k)) x.toNat=K.sum (b.take (k+1)):=(K.sum_snoc b k x hx).symm;have cj:=hcell k x hx;unfold bv at cj;have hx8:x.toNat<256:=x.toNat_lt;generalize K.sum (b.take k)=t at*;have Hst:=Lib.hid hst;clear hst hx hcell
   go_wp2_with (go_at_call 281;refine(a5L _ _ hs hx8 _).mono ?_;rintro e w' ⟨rfl,rfl⟩)
   go_round
   case rel=>exact⟨k+1,by omega,by go_num,by rw[<- Hst.out]⟩
   case measure=>simp[intOf];omega
  ·have:k=b.length:=by omega
   subst this;have hfin:=Lib.hid (show K.sum (b.take b.length)=K.sum b by rw[List.take_length]);clear hcell
   go_wp2
   go_ret
   exact⟨by rw[<- hfin.out];rfl,rfl⟩

theorem b4g (b:List UInt8) (n:Nat) (hn:b.length=n) (hb:b.length<=65536) (a o cap:Nat) (w:World) (hcell:∀j x,b[j]? =some x->w.cell? ⟨a,o+j,none⟩=some (bv x)):
  Calls Tryz.prog 264 #[.slice (some ⟨a,o,none⟩) n cap] w λe w'=>e= .returned (.int .u32 (K.sum b))/\w=w':=by
 subst hn;exact b6q b hb a o cap w hcell

theorem b6k (role lpn seq:Int):
  bits BinOp.or IntKind.u64 (bits BinOp.or IntKind.u64 (IntKind.u64.wrap (IntKind.u64.wrap role*72057594037927936)) (IntKind.u64.wrap (bits BinOp.and IntKind.u64 (IntKind.u64.wrap lpn) 65535*1099511627776))) (bits BinOp.and IntKind.u64 (IntKind.u64.wrap seq) 1099511627775)=(S.meta_ role lpn seq:Int):=by
 have w64:∀n:Int,IntKind.u64.wrap n=((n % 18446744073709551616).toNat:Int):=λn=>by
  have:IntKind.u64.wrap n=n % 18446744073709551616:=by simp[IntKind.wrap,IntKind.bits,IntKind.signed]
  rw[this];omega
 have hl:bits BinOp.and IntKind.u64 (IntKind.u64.wrap lpn) 65535=((lpn % 65536).toNat:Int):=by
  rw[w64,show(65535:Int)=((65535:Nat):Int)from rfl,u64_and_nat _ _ (by omega) (by omega),nat_mask16];omega
 have hs:bits BinOp.and IntKind.u64 (IntKind.u64.wrap seq) 1099511627775=((seq % 1099511627776).toNat:Int):=by
  rw[w64,show(1099511627775:Int)=((2^40-1:Nat):Int)from rfl,u64_and_nat _ _ (by omega) (by omega),Nat.and_two_pow_sub_one_eq_mod];omega
 have hr:IntKind.u64.wrap (IntKind.u64.wrap role*72057594037927936)=(((role % 256).toNat*72057594037927936:Nat):Int):=by rw[w64 role,w64];omega
 have hl2:IntKind.u64.wrap (((lpn % 65536).toNat:Int)*1099511627776)=(((lpn % 65536).toNat*1099511627776:Nat):Int):=by rw[w64];omega
 rw[hl,hs,hr,hl2,u64_or_nat _ _ (by omega) (by omega),nat_join 56 _ _ (by omega) (by omega),u64_or_nat _ _ (by omega) (by omega),nat_join 40 _ _ (by omega) (by omega)];unfold S.meta_;omega

set_option maxRecDepth 100000 in
set_option maxHeartbeats 400000 in
theorem a3D (role lpn seq:Int) (w:World):
  Calls Tryz.prog 262 #[.int .i64 role, .int .i64 lpn, .int .i64 seq] w λe w'=>e= .returned (.int .u64 (S.meta_ role lpn seq))/\w=w':=by
 have he:=Lib.hid (b6k role lpn seq)
 go_enter Tryz.func262,Tryz.ntmps262
 go_wp2
 go_ret
 exact⟨M9 he.out,rfl⟩

set_option maxRecDepth 100000 in
set_option maxHeartbeats 400000 in
theorem a7I (m:Nat) (hm:m<18446744073709551616) (w:World):
  Calls Tryz.prog 247 #[.int .u64 m] w λe w'=>e= .returned (.tuple #[.int .i64 (m/72057594037927936:Nat), .int .i64 (m/1099511627776 % 65536:Nat), .int .i64 (m % 1099511627776:Nat)])/\w=w':=by
 have e1:bits BinOp.and IntKind.u64 ((m:Int)/1099511627776) 65535=((m/1099511627776 % 65536:Nat):Int):=by
  rw[show(m:Int)/1099511627776=((m/1099511627776:Nat):Int)from rfl,show(65535:Int)=((65535:Nat):Int)from rfl,u64_and_nat _ _ (by omega) (by omega),nat_mask16]
 have e2:bits BinOp.and IntKind.u64 (m:Int) 1099511627775=((m % 1099511627776:Nat):Int):=by
  rw[show(1099511627775:Int)=((2^40-1:Nat):Int)from rfl,u64_and_nat _ _ (by omega) (by omega),Nat.and_two_pow_sub_one_eq_mod]
 have e3:wrap64 ((m/1099511627776 % 65536:Nat):Int)=((m/1099511627776 % 65536:Nat):Int):=IntWalk.wrap64_in _ (by omega);have e4:wrap64 ((m % 1099511627776:Nat):Int)=((m % 1099511627776:Nat):Int):=IntWalk.wrap64_in _ (by omega);have E1:=Lib.hid e1;have E2:=Lib.hid e2;have E3:=Lib.hid e3;have E4:=Lib.hid e4;clear e1 e2 e3 e4
 go_enter Tryz.func247,Tryz.ntmps247
 go_wp2
 go_ret3
 refine⟨?_,rfl⟩;show Ending.returned (Value.tuple #[.int .i64 ((m:Int)/72057594037927936), .int .i64 (wrap64 (bits BinOp.and IntKind.u64 ((m:Int)/1099511627776) 65535)), .int .i64 (wrap64 (bits BinOp.and IntKind.u64 (m:Int) 1099511627775))])=_;rw[E1.out,E2.out,E3.out,E4.out];rfl

set_option maxRecDepth 100000 in
set_option maxHeartbeats 400000 in
theorem U0 (n a:Int) (w:World):
  Calls Tryz.prog 272 #[.int .i64 n, .int .i64 a] w λe w'=>e= .returned (.bool (S.inB n a))/\w=w':=by
 by_cases h0:0<=n
 ·have hs:=Lib.hid (show S.inB n a=decide (n<=a)by simp[S.inB,h0])
  go_enter Tryz.func272,Tryz.ntmps272
  go_wp2
  go_ret
  exact⟨J7 hs.out.symm,rfl⟩
 ·have hs:=Lib.hid (show S.inB n a=false by simp only[S.inB,Bool.and_eq_false_iff,decide_eq_false_iff_not];exact .inl h0)
  go_enter Tryz.func272,Tryz.ntmps272
  go_wp2
  go_ret
  exact⟨J7 hs.out.symm,rfl⟩

def Sh.cells (s:Sh):List Value:=s.data.map bv++[.int .i64 s.role, .int .i64 s.lpn, .int .i64 s.seq, .int .i64 s.kind, .int .i64 s.block, .int .i64 s.row, .int .i64 s.mask]
def Sh.v (s:Sh):Value:= .agg s.cells.toArray
structure ShC (s:Sh) (C:Array Value):Prop where
 eq:C=s.cells.toArray
 data:s.data.length=16
 c16:C[16]? =some (.int .i64 s.role)
 c17:C[17]? =some (.int .i64 s.lpn)
 c18:C[18]? =some (.int .i64 s.seq)
 c19:C[19]? =some (.int .i64 s.kind)
 c20:C[20]? =some (.int .i64 s.block)
 c21:C[21]? =some (.int .i64 s.row)
 c22:C[22]? =some (.int .i64 s.mask)
theorem ShC.of (s:Sh) (h:s.data.length=16):ShC s s.cells.toArray:=by
 have g:∀i,s.cells.toArray[16+i]? =[Value.int .i64 s.role, .int .i64 s.lpn, .int .i64 s.seq, .int .i64 s.kind, .int .i64 s.block, .int .i64 s.row, .int .i64 s.mask][i]?:=λi=>by
  rw[List.getElem?_toArray,Sh.cells,List.getElem?_append_right (by simp[h])];simp[h]
 exact⟨rfl,h,g 0,g 1,g 2,g 3,g 4,g 5,g 6⟩

theorem b3W:B1 Tryz.prog 100 29=some (List.replicate 16 (.int .u8)):=by kernel_rfl
theorem X3 (l:List UInt8):Fits (List.replicate l.length (.int .u8)) (l.map bv):=by
 induction l with
 | nil=>trivial
 | cons x l ih=>exact⟨rfl,ih⟩
theorem H6:∀(l m:List UInt8),j8 (l.map bv) (m.map bv)=decide (l=m)
 | [],[]=>rfl
 | x::l,y::m=>by
  simp only[List.map_cons,j8,bv,a0X,H6 l m]
  by_cases h:x=y
  ·subst h;simp
  ·have:¬x.toNat=y.toNat:=λe=>h (UInt8.toNat_inj.1 e);have h2:((x.toNat:Int)==(y.toNat:Int))=false:=by simp;omega
   simp[h2,h]
 | [],_::_=>by simp[j8]
 | _::_,[]=>by simp[j8]
theorem b9g:AggT Tryz.prog 29 16:=⟨⟨_,Tryz.underlying29,rfl⟩,by kernel_rfl⟩
theorem a8N:AggT Tryz.prog 222 23:=⟨⟨_,Tryz.underlying222,rfl⟩,by kernel_rfl⟩
theorem b1Y (x:List UInt8) (hx:x.length=16) (w:World):
  (Op.equalIn 10000 29 (.agg (x.map bv).toArray) (.agg #[.int .u8 0, .int .u8 0, .int .u8 0, .int .u8 0, .int .u8 0, .int .u8 0, .int .u8 0, .int .u8 0, .int .u8 0, .int .u8 0, .int .u8 0, .int .u8 0, .int .u8 0, .int .u8 0, .int .u8 0, .int .u8 0])).run Tryz.prog w= .ok (decide (x=zeros16)) w:=by
 have h1:=X3 x;rw[hx]at h1;have hm:∀xs,mkV Tryz.prog 29 xs= .agg xs.toArray:=λxs=>by simp[mkV,Tryz.underlying29]
 have hz:(zeros16.map bv).toArray= #[.int .u8 0, .int .u8 0, .int .u8 0, .int .u8 0, .int .u8 0, .int .u8 0, .int .u8 0, .int .u8 0, .int .u8 0, .int .u8 0, .int .u8 0, .int .u8 0, .int .u8 0, .int .u8 0, .int .u8 0, .int .u8 0]:=rfl;have:=C0 100 29 _ b3W 10000 (by omega) (x.map bv) (zeros16.map bv) h1 (X3 zeros16) w;rw[H6,hm,hm,hz]at this;exact this

set_option maxRecDepth 100000 in
set_option maxHeartbeats 400000 in
theorem a7H (s:Sh) (h:s.data.length=16) (w:World):
  Calls Tryz.prog 273 #[s.v] w λe w'=>e= .returned (.bool (S.entry s))/\Below w.heap.size w w':=by
 have hd:s.cells.take 16=s.data.map bv:=by simp[Sh.cells,h]
 obtain⟨dl,hdl⟩:∃dl,s.data.map bv=dl:=⟨_,rfl⟩;have hz:=λW=>b1Y s.data h W;have hdl16:dl.length=16:=by rw[<- hdl];simp[h]
 obtain⟨h0,_,c16,c17,c18,_,_,_,_⟩:=ShC.of s h;have hra:=a2w w s.cells.toArray 222 0 dl (by rw[hdl16];simpa[hdl]using hd);rw[hdl]at hz;unfold Sh.v;generalize s.cells.toArray=C at*;generalize hes:S.entry s=b;have He:=Lib.hid hes;clear h0 hd hdl hes;have hw0:AggT Tryz.prog 29 dl.length:=by rw[hdl16];exact b9g
 by_cases r1:s.role=1
 ·have hr:(s.role==1)=true:=by simp[r1]
  have hfin:=Lib.hid (show true=b by rw[<- He.out];simp[S.entry, *]);clear r1
  go_enter Tryz.func273,Tryz.ntmps273
  go_wp2_with ((with_reducible refine C4 29 dl w.heap.size 0 hw0 hra ?_ ?_);· rfl)
  go_ret
  exact⟨J7 hfin.out,(Below.refl _ _).alloc (Nat.le_refl _) _⟩
 ·have hr1:(s.role==1)=false:=by simp[r1]
  by_cases r2:s.role=2
  ·have hr2:(s.role==2)=true:=by simp[r2]
   have hfin:=Lib.hid (show decide (s.data=zeros16)=b by rw[<- He.out];simp[S.entry, *]);clear r1 r2
   go_enter Tryz.func273,Tryz.ntmps273
   go_wp2_with ((with_reducible refine C4 29 dl w.heap.size 0 hw0 hra ?_ ?_);· rfl)
   go_ret
   exact⟨J7 hfin.out,(Below.refl _ _).alloc (Nat.le_refl _) _⟩
  ·have hr2:(s.role==2)=false:=by simp[r2]
   by_cases r4:s.role=4
   ·have hr4:(s.role==4)=true:=by simp[r4]
    have hfin:=Lib.hid (show decide (s.data=zeros16)=b by rw[<- He.out];simp[S.entry, *]);clear r1 r2 r4
    go_enter Tryz.func273,Tryz.ntmps273
    go_wp2_with ((with_reducible refine C4 29 dl w.heap.size 0 hw0 hra ?_ ?_);· rfl)
    go_ret
    exact⟨J7 hfin.out,(Below.refl _ _).alloc (Nat.le_refl _) _⟩
   ·have hr4:(s.role==4)=false:=by simp[r4]
    by_cases r3:s.role=3
    ·have hr3:(s.role==3)=true:=by simp[r3]
     by_cases z:s.data=zeros16
     ·have hzt:decide (s.data=zeros16)=true:=by simp[z]
      by_cases l0:s.lpn=0
      ·have hl0:(s.lpn==0)=true:=by simp[l0]
       have hfin:=Lib.hid (show(s.seq==0)=b by rw[<- He.out,Bool.eq_iff_iff];simp[S.entry, *]);clear r1 r2 r4 r3 z l0
       go_enter Tryz.func273,Tryz.ntmps273
       go_wp2_with ((with_reducible refine C4 29 dl w.heap.size 0 hw0 hra ?_ ?_);· rfl)
       go_ret
       exact⟨J7 hfin.out,(Below.refl _ _).alloc (Nat.le_refl _) _⟩
      ·have hl0:(s.lpn==0)=false:=by simp[l0]
       have hfin:=Lib.hid (show false=b by rw[<- He.out];simp[S.entry, *]);clear r1 r2 r4 r3 z l0
       go_enter Tryz.func273,Tryz.ntmps273
       go_wp2_with ((with_reducible refine C4 29 dl w.heap.size 0 hw0 hra ?_ ?_);· rfl)
       go_ret
       exact⟨J7 hfin.out,(Below.refl _ _).alloc (Nat.le_refl _) _⟩
     ·have hzt:decide (s.data=zeros16)=false:=by simp[z]
      have hfin:=Lib.hid (show false=b by rw[<- He.out];simp[S.entry, *]);clear r1 r2 r4 r3 z
      go_enter Tryz.func273,Tryz.ntmps273
      go_wp2_with ((with_reducible refine C4 29 dl w.heap.size 0 hw0 hra ?_ ?_);· rfl)
      go_ret
      exact⟨J7 hfin.out,(Below.refl _ _).alloc (Nat.le_refl _) _⟩
    ·have hr3:(s.role==3)=false:=by simp[r3]
     have hfin:=Lib.hid (show false=b by rw[<- He.out];simp[S.entry, *]);clear r1 r2 r4 r3
     go_enter Tryz.func273,Tryz.ntmps273
     go_wp2_with ((with_reducible refine C4 29 dl w.heap.size 0 hw0 hra ?_ ?_);· rfl)
     go_ret
     exact⟨J7 hfin.out,(Below.refl _ _).alloc (Nat.le_refl _) _⟩

theorem a8o {w w':World} {o:Obj} (h:Below (w.alloc o).heap.size (w.alloc o) w'):Below w.heap.size w w':=
 ((Below.refl w.heap.size w).alloc (Nat.le_refl _) o).trans (h.mono (by simp))
set_option maxRecDepth 100000 in
set_option maxHeartbeats 1000000 in
theorem a1U (s:Sh) (h:s.data.length=16) (w:World):
  Calls Tryz.prog 244 #[s.v] w λe w'=>e= .returned (.bool (S.may s))/\Below w.heap.size w w':=by
 obtain⟨h0,_,c16,c17,c18,c19,c20,c21,c22⟩:=ShC.of s h;have hent:=λW=>a7H s h W;have hra:=T5 w s.cells.toArray 222;have hsz:s.cells.toArray.toList.length=23:=by simp[Sh.cells,h]
 unfold Sh.v at*;generalize s.cells.toArray=C at*;have hA:AggT Tryz.prog 222 C.toList.length:=by rw[hsz];exact a8N
 have Hent:=Lib.hid hent;have hcl:=L.count_le s.mask;clear h0 hent hsz
 go_enter Tryz.func244,Tryz.ntmps244
 go_upto_region 1 with fail
 go_cut [3] (λs3 wx=>s3= .bool (S.place s)/\wx=w.alloc (.cells C 222))
 case first=>
  cases p1:S.inB s.block 15
  ·have hf:=Lib.hid (show S.place s=false by simp[S.place,p1])
   go_wp2_with (first | (go_at_call 272;refine(U0 _ _ _).mono ?_;rintro e w' ⟨rfl,rfl⟩) | (go_at_call 192;refine(x7 _ _).mono ?_;rintro e w' ⟨rfl,rfl⟩))
   go_meet
   exact⟨by rw[hf.out],rfl⟩
  ·cases p2:S.inB s.row 7
   ·have hf:=Lib.hid (show S.place s=false by simp[S.place,p2])
    go_wp2_with (first | (go_at_call 272;refine(U0 _ _ _).mono ?_;rintro e w' ⟨rfl,rfl⟩) | (go_at_call 192;refine(x7 _ _).mono ?_;rintro e w' ⟨rfl,rfl⟩))
    go_meet
    exact⟨by rw[hf.out],rfl⟩
   ·have hf:=Lib.hid (show S.place s=decide (2<=L.count s.mask)by simp[S.place,p1,p2])
    go_wp2_with (first | (go_at_call 272;refine(U0 _ _ _).mono ?_;rintro e w' ⟨rfl,rfl⟩) | (go_at_call 192;refine(x7 _ _).mono ?_;rintro e w' ⟨rfl,rfl⟩))
    go_meet
    exact⟨by rw[hf.out];congr 1;rw[Bool.eq_iff_iff];simp;omega,rfl⟩
 case rest=>
  obtain⟨rfl,rfl⟩:=hcut
  go_upto_region 2 with fail
  go_cut [3,4] (λs3 s4 wx=>s3= .bool (S.place s)/\s4= .bool (S.numbers s)/\wx=w.alloc (.cells C 222))
  case first=>
   cases p1:S.inB s.seq 1099511627775
   ·have hf:=Lib.hid (show S.numbers s=false by simp[S.numbers,p1])
    go_wp2_with (first | (go_at_call 272;refine(U0 _ _ _).mono ?_;rintro e w' ⟨rfl,rfl⟩) | (go_at_call 192;refine(x7 _ _).mono ?_;rintro e w' ⟨rfl,rfl⟩))
    go_meet
    exact⟨rfl,by rw[hf.out],rfl⟩
   ·cases p2:S.inB s.lpn 65535
    ·have hf:=Lib.hid (show S.numbers s=false by simp[S.numbers,p2])
     go_wp2_with (first | (go_at_call 272;refine(U0 _ _ _).mono ?_;rintro e w' ⟨rfl,rfl⟩) | (go_at_call 192;refine(x7 _ _).mono ?_;rintro e w' ⟨rfl,rfl⟩))
     go_meet
     exact⟨rfl,by rw[hf.out],rfl⟩
    ·have hf:=Lib.hid (show S.numbers s=S.inB s.role 255 by simp[S.numbers,p1,p2])
     go_wp2_with (first | (go_at_call 272;refine(U0 _ _ _).mono ?_;rintro e w' ⟨rfl,rfl⟩) | (go_at_call 192;refine(x7 _ _).mono ?_;rintro e w' ⟨rfl,rfl⟩))
     go_meet
     exact⟨rfl,by rw[hf.out],rfl⟩
  case rest=>
   obtain⟨rfl,rfl,rfl⟩:=hcut;cases hp:S.place s
   ·have hf:=Lib.hid (show S.may s=false by simp[S.may,hp])
    go_wp2
    go_ret
    exact⟨J7 hf.out.symm,(Below.refl _ _).alloc (Nat.le_refl _) _⟩
   ·cases hn:S.numbers s
    ·have hf:=Lib.hid (show S.may s=false by simp[S.may,hn])
     go_wp2
     go_ret
     exact⟨J7 hf.out.symm,(Below.refl _ _).alloc (Nat.le_refl _) _⟩
    ·by_cases k2:s.kind=2
     ·have hk:(s.kind==2)=true:=by simp[k2]
      have hf:=Lib.hid (show S.may s=true by simp[S.may,hp,hn,k2]);clear k2
      go_wp2
      go_ret
      exact⟨J7 hf.out.symm,(Below.refl _ _).alloc (Nat.le_refl _) _⟩
     ·have hk:(s.kind==2)=false:=by simp[k2]
      by_cases k1:s.kind=1
      ·have hk1:(s.kind==1)=true:=by simp[k1]
       have hf:=Lib.hid (show S.may s=S.entry s by simp[S.may,hp,hn,k1]);clear k1 k2
       go_wp2_with (first | ((with_reducible refine T7 222 C.toList w.heap.size 0 hA hra ?_ ?_ ?_);(· rfl);(· rfl)) | (go_at_call 273;refine(Hent.out _).mono ?_;rintro e w' ⟨rfl,hb⟩))
       go_ret
       exact⟨J7 hf.out.symm,a8o hb⟩
      ·have hk1:(s.kind==1)=false:=by simp[k1]
       have hf:=Lib.hid (show S.may s=false by simp[S.may,k1,k2]);clear k1 k2
       go_wp2
       go_ret
       exact⟨J7 hf.out.symm,(Below.refl _ _).alloc (Nat.le_refl _) _⟩

theorem a1J:AggT Tryz.prog 155 32:=⟨⟨_,Tryz.underlying155,rfl⟩,by kernel_rfl⟩
theorem a2C:(#[.int .u8 0, .int .u8 0, .int .u8 0, .int .u8 0, .int .u8 0, .int .u8 0, .int .u8 0, .int .u8 0, .int .u8 0, .int .u8 0, .int .u8 0, .int .u8 0, .int .u8 0, .int .u8 0, .int .u8 0, .int .u8 0, .int .u8 0, .int .u8 0, .int .u8 0, .int .u8 0, .int .u8 0, .int .u8 0, .int .u8 0, .int .u8 0, .int .u8 0, .int .u8 0, .int .u8 0, .int .u8 0, .int .u8 0, .int .u8 0, .int .u8 0, .int .u8 0]:Array Value)=(zeros32.map bv).toArray:=rfl
theorem b8q:AggT Tryz.prog 155 (zeros32.map bv).length:=a1J
theorem b5f:AggT Tryz.prog 155 (zeros32.map bv).toArray.size:=a1J
theorem b7Z:0+(zeros32.map bv).toArray.size<=(zeros32.map bv).length:=by decide
theorem U4 (l:List UInt8):(l.map bv).toArray.all (·.oneCell')=true:=by simp[bv,Value.oneCell']

theorem a1Q (w:World) (A1 A2 A3:Array Value) (T1 T2 T3:TypeId) (w0:World) (hw:((w.alloc (.cells A1 T1)).alloc (.cells A2 T2)).alloc (.cells A3 T3)=w0):
  Blk w0 w.heap.size T1 A1/\Blk w0 (w.heap.size+1) T2 A2/\Blk w0 (w.heap.size+1+1) T3 A3/\Below w.heap.size w w0/\w.heap.size+3<=w0.heap.size:=by
 subst hw;have h1:=Blk.new w T1 A1;have h2:=Blk.new (w.alloc (.cells A1 T1)) T2 A2;have h3:=Blk.new ((w.alloc (.cells A1 T1)).alloc (.cells A2 T2)) T3 A3;refine⟨(h1.alloc _).alloc _,by simpa using h2.alloc _,by simpa using h3,(((Below.refl _ _).alloc (Nat.le_refl _) _).alloc (by simp) _).alloc (by simp;omega) _,by simp⟩

set_option maxRecDepth 100000 in
set_option maxHeartbeats 1000000 in
theorem a1k (s:Sh) (h:s.data.length=16) (hmay:S.may s=false) (w:World):
  Calls Tryz.prog 233 #[s.v] w λe w'=>e= .returned (.tuple #[.agg (zeros32.map bv).toArray, .bool false])/\Below w.heap.size w w':=by
 have hm:=λW=>a1U s h W;rw[hmay]at hm;have hsz:s.cells.toArray.toList.length=23:=by simp[Sh.cells,h]
 unfold Sh.v at*;generalize s.cells.toArray=C at*;have hA:AggT Tryz.prog 222 C.toList.length:=by rw[hsz];exact a8N
 have Hm:=Lib.hid hm;clear hm hsz hmay h
 go_enter Tryz.func233,Tryz.ntmps233
 go_upto_region 2 with fail
 obtain⟨w0,hw0⟩:∃w0,((w.alloc (.cells C 222)).alloc (.cells #[.int .u8 0, .int .u8 0, .int .u8 0, .int .u8 0, .int .u8 0, .int .u8 0, .int .u8 0, .int .u8 0, .int .u8 0, .int .u8 0, .int .u8 0, .int .u8 0, .int .u8 0, .int .u8 0, .int .u8 0, .int .u8 0, .int .u8 0, .int .u8 0, .int .u8 0, .int .u8 0, .int .u8 0, .int .u8 0, .int .u8 0, .int .u8 0, .int .u8 0, .int .u8 0, .int .u8 0, .int .u8 0, .int .u8 0, .int .u8 0, .int .u8 0, .int .u8 0] 155)).alloc (.cells #[.int .u8 0, .int .u8 0, .int .u8 0, .int .u8 0, .int .u8 0, .int .u8 0, .int .u8 0, .int .u8 0, .int .u8 0, .int .u8 0, .int .u8 0, .int .u8 0, .int .u8 0, .int .u8 0, .int .u8 0, .int .u8 0, .int .u8 0, .int .u8 0, .int .u8 0, .int .u8 0, .int .u8 0, .int .u8 0, .int .u8 0, .int .u8 0, .int .u8 0, .int .u8 0, .int .u8 0, .int .u8 0, .int .u8 0, .int .u8 0, .int .u8 0, .int .u8 0] 155)=w0:=⟨_,rfl⟩;rw[hw0];obtain⟨b0,b1,b2,hbel,hs0⟩:=a1Q _ _ _ _ _ _ _ _ hw0;clear hw0;rw[a2C]at b1 b2
 go_wp2_with ((with_reducible refine C4 222 C.toList w.heap.size 0 hA (s7 b0 0 _ (by rw[List.drop_zero];exact List.take_length)) ?_ ?_);(· rfl))
 refine(Hm.out _).mono ?_;rintro e w1 ⟨rfl,hb1⟩
 replace b0:=b0.below hb1 b0.lt
 replace b1:=b1.below hb1 b1.lt
 replace b2:=b2.below hb1 b2.lt
 replace hbel:=hbel.trans (hb1.mono (by omega))
 clear hb1 hs0
 go_wp2_with (first | ((with_reducible refine C4 155 (zeros32.map bv) (w.heap.size+1+1) 0 b8q (s7 b2 0 _ (by rw[List.drop_zero];exact List.take_length)) ?_ ?_);(· rfl)) | ((with_reducible refine Z8 155 (w.heap.size+1) 0 155 (zeros32.map bv) (zeros32.map bv).toArray b5f b1 b7Z (U4 _) ?_ ?_ ?_);(· rfl);(· rfl);intro w2 c1 g2 s2))
 exact bodyPost_ret (J3 Tryz.results233 _ _ (w.heap.size+1) 155 (zeros32.map bv).toArray (by exact c1) a1J rfl) rfl ⟨rfl,hbel.grown g2 (Nat.le_of_lt (by have:=b2.lt;omega)) (λk hk=>by injection hk with hk;omega)⟩

theorem a9Z:(Tryz.prog.info? 5).map (·.size)=some 1:=by kernel_rfl
theorem a0B (l:List UInt8):∀v∈l.map bv,v.oneCell'=true:=by simp[bv,Value.oneCell']
theorem b0A {w:World} {n:Nat} {t:TypeId} {C:Array Value} {d:List UInt8} (hb:Blk w n t C) (hd:C.toList.take 16=d.map bv):∀j v,(d.map bv)[j]? =some v->w.cell? ((⟨n,0,none⟩:Addr).add j)=some v:=by
 intro j v hv;rw[Addr.add_mid,Nat.zero_add,hb.cell];rw[<- hd,List.getElem?_take]at hv;split at hv
 ·simpa using hv
 ·cases hv
theorem b4X {w:World} {n:Nat} {t:TypeId} {l:List UInt8} (hb:Blk w n t (l.map bv).toArray):∀j x,l[j]? =some x->w.cell? ⟨n,0+j,none⟩=some (bv x):=by
 intro j x hx;rw[hb.cell];simp[hx]

theorem OutAt.drew {w:World} {B g:Nat} {l:List Bool} (h:OutAt w B g l):OutAt w.drew B g l:=h
theorem OutAt.grown {w w':World} {B g b:Nat} {l:List Bool} (h:OutAt w B g l) (hg:w.grownBy w' (some b)) (hb:b<B):OutAt w' B g l:=by
 obtain⟨h1,v,h2,h3⟩:=h;refine⟨h1,v,h2.grown hg (λe=>by injection e with e;omega),h3.kept hg ?_⟩;cases hv:v.ownBlock with
 | none=>exact .inl rfl
 | some k=>exact .inr (λe=>by injection e with e;have:=h3.lt k hv;omega)
theorem OutAt.below {w w':World} {B B' g:Nat} {l:List Bool} (h:OutAt w B g l) (hb:Below B' w w') (hB:w.heap.size<=B'):OutAt w' B g l:=by
 obtain⟨h1,v,h2,h3⟩:=h;exact⟨h1,v,h2.below hb (Nat.lt_of_lt_of_le h2.lt hB),h3.kept (row:=none) ⟨hb.os,hb.tape,hb.output,hb.size,λk hk _=>hb.block k (by omega)⟩ (by cases hv:v.ownBlock<;>simp)⟩
theorem a7E {d:List UInt8} (h:d.length=16):splice (zeros32.map bv) 0 (d.map bv)=(d++zeros16).map bv:=by
 simp[splice,h,zeros32,zeros16]
theorem a2u {d e f:List UInt8} (h:d.length=16):splice ((d++e).map bv) 16 (f.map bv)=(d++(f++e.drop f.length)).map bv:=by
 have e1:(List.map bv d++List.map bv e).take 16=List.map bv d:=by rw[List.take_append_of_le_length (by simp[h])];exact List.take_of_length_le (by simp[h])
 have e2:(List.map bv d++List.map bv e).drop (16+f.length)=(List.map bv e).drop f.length:=by
  rw[List.drop_append];simp[h]
 simp only[splice,List.map_append,List.length_map,e1,e2,List.map_drop]

set_option maxRecDepth 100000 in
set_option maxHeartbeats 4000000 in
theorem a0I (s:Sh) (h:s.data.length=16) (hmay:S.may s=true) (w:World):
  Calls Tryz.prog 233 #[s.v] w λe w'=>e= .returned (.tuple #[.agg ((S.put s).map bv).toArray, .bool true])/\Below w.heap.size w w':=by
 have hm:=λW=>a1U s h W;rw[hmay]at hm;have hsz:s.cells.toArray.toList.length=23:=by simp[Sh.cells,h]
 obtain⟨_,_,c16,c17,c18,c19,c20,c21,c22⟩:=ShC.of s h;have hmb:=S.may_bounds s hmay;have hdl:s.cells.toArray.toList.take 16=s.data.map bv:=by simp[Sh.cells,h]
 unfold Sh.v at*;generalize s.cells.toArray=C at*;have hA:AggT Tryz.prog 222 C.toList.length:=by rw[hsz];exact a8N
 have Hm:=Lib.hid hm;have Hdl:=Lib.hid hdl;clear hm hsz hmay hdl;obtain⟨m1,m2,m3,m4⟩:=hmb;obtain⟨bk,hbk⟩:∃n:Nat,s.block=n:=⟨s.block.toNat,by omega⟩;obtain⟨rw_,hrw⟩:∃n:Nat,s.row=n:=⟨s.row.toNat,by omega⟩;obtain⟨mk,hmk⟩:∃n:Nat,s.mask=n:=⟨s.mask.toNat,by omega⟩;obtain⟨kd,hkd⟩:∃n:Nat,s.kind=n:=⟨s.kind.toNat,by omega⟩;rw[hbk]at m1 c20;rw[hrw]at m2 c21;rw[hmk]at m3 c22;rw[hkd]at m4 c19;have Hh:=Lib.hid (show S.head s=Bt.bits (S.meta_ s.role s.lpn s.seq) 64++Bt.bits bk 8++Bt.bits rw_ 8++Bt.bits mk 8++Bt.bits kd 8 by simp[S.head,hbk,hrw,hmk,hkd]);have hml:=S.meta_lt s.role s.lpn s.seq;clear hbk hrw hmk hkd
 go_enter Tryz.func233,Tryz.ntmps233
 go_upto_region 2 with fail
 obtain⟨w0,hw0⟩:∃w0,((w.alloc (.cells C 222)).alloc (.cells #[.int .u8 0, .int .u8 0, .int .u8 0, .int .u8 0, .int .u8 0, .int .u8 0, .int .u8 0, .int .u8 0, .int .u8 0, .int .u8 0, .int .u8 0, .int .u8 0, .int .u8 0, .int .u8 0, .int .u8 0, .int .u8 0, .int .u8 0, .int .u8 0, .int .u8 0, .int .u8 0, .int .u8 0, .int .u8 0, .int .u8 0, .int .u8 0, .int .u8 0, .int .u8 0, .int .u8 0, .int .u8 0, .int .u8 0, .int .u8 0, .int .u8 0, .int .u8 0] 155)).alloc (.cells #[.int .u8 0, .int .u8 0, .int .u8 0, .int .u8 0, .int .u8 0, .int .u8 0, .int .u8 0, .int .u8 0, .int .u8 0, .int .u8 0, .int .u8 0, .int .u8 0, .int .u8 0, .int .u8 0, .int .u8 0, .int .u8 0, .int .u8 0, .int .u8 0, .int .u8 0, .int .u8 0, .int .u8 0, .int .u8 0, .int .u8 0, .int .u8 0, .int .u8 0, .int .u8 0, .int .u8 0, .int .u8 0, .int .u8 0, .int .u8 0, .int .u8 0, .int .u8 0] 155)=w0:=⟨_,rfl⟩;rw[hw0];obtain⟨b0,b1,b2,hbel,hs0⟩:=a1Q _ _ _ _ _ _ _ _ hw0;clear hw0;rw[a2C]at b1 b2
 go_wp2_with ((with_reducible refine C4 222 C.toList w.heap.size 0 hA (s7 b0 0 _ (by rw[List.drop_zero];exact List.take_length)) ?_ ?_);(· rfl))
 refine(Hm.out _).mono ?_;rintro e w1 ⟨rfl,hb1⟩
 replace b0:=b0.below hb1 b0.lt
 replace b1:=b1.below hb1 b1.lt
 replace b2:=b2.below hb1 b2.lt
 replace hbel:=hbel.trans (hb1.mono (by omega))
 have hs1:=hb1.size;clear hb1 Hm;have d16:=(b0.cell 16).trans c16;have d17:=(b0.cell 17).trans c17;have d18:=(b0.cell 18).trans c18;have d19:=(b0.cell 19).trans c19;have d20:=(b0.cell 20).trans c20;have d21:=(b0.cell 21).trans c21;have d22:=(b0.cell 22).trans c22;have hlt0:=b0.lt
 go_wp2_with (go_at_call 262;refine(a3D _ _ _ _).mono ?_;rintro e w' ⟨rfl,rfl⟩)
 have ho:OutAt (w1.alloc (.cells #[.slice none 0 0, .int .i64 0] 320)) w1.heap.size w1.heap.size []:=⟨Nat.le_refl _,_,Blk.new _ _ _,World.ownsRow_nil _ _ _ _⟩;refine(a0x _ 64 (by decide) (by decide) hml [] (by decide) _ w1.heap.size _ (by simp) ho).mono ?_;rintro e w2 ⟨rfl,ho2,hb2⟩
 replace b0:=(b0.alloc _).below hb2 hlt0
 replace b1:=(b1.alloc _).below hb2 b1.lt
 replace b2:=(b2.alloc _).below hb2 b2.lt
 replace hbel:=(hbel.alloc (Nat.le_of_lt hlt0) (.cells #[.slice none 0 0, .int .i64 0] 320)).trans (hb2.mono (Nat.le_of_lt hlt0))
 have hs2:=hb2.size;simp at hs2;have hg2:w.heap.size+3<=w1.heap.size:=by omega
 clear hb2 ho d16 d17 d18 d19 d20 d21 d22 hs0 hs1
 replace d19:=(b0.cell 19).trans c19
 replace d20:=(b0.cell 20).trans c20
 replace d21:=(b0.cell 21).trans c21
 replace d22:=(b0.cell 22).trans c22
 generalize hL0:[]++Bt.bits (S.meta_ s.role s.lpn s.seq) 64=L0 at ho2;have hl0:L0.length=64:=by rw[<- hL0];simp[Bt.length_bits]
 have HL0:=Lib.hid hL0;clear hL0 hlt0;generalize w1.heap.size=g at*;generalize hn:w.heap.size=n at*;have Hn:=Lib.hid hn;clear hn
 go_wp2_with fail
 go_loopw [32] (λc wr=>∃k:Nat,k<=4/\c= .int .i64 k/\OutAt wr g g (L0++(([bk,rw_,mk,kd].take k).flatMap λx=>Bt.bits x 8))/\Below g w2 wr/\g<=wr.heap.size) (λc _=>4-(intOf c).toNat)
 case atStart=>exact⟨0,by omega,rfl,by simpa using ho2,Below.refl _ _,by omega⟩
 case round=>
  obtain⟨k,hk,hc,hor,hbw,hgs⟩:=hrel;have hl:(L0++(([bk,rw_,mk,kd].take k).flatMap λx=>Bt.bits x 8)).length=64+8*k:=by
   match k,hk with
   | 0,_ | 1,_ | 2,_ | 3,_ | 4,_=>simp[hl0,Bt.length_bits]
  match k,hk with
  | 0,_=>
   obtain rfl:_=Value.int .i64 0:=hc;have ix:∀W:World,(Instr.index 323 (.agg #[.int .i64 (bk:Int), .int .i64 (rw_:Int), .int .i64 (mk:Int), .int .i64 (kd:Int)]) (.int .i64 0)).run Tryz.prog W= .ok (.int .i64 (bk:Int)) W:=λ_=>by kernel_rfl
   go_wp2_with (go_at_call 261;refine(a0x bk 8 (by decide) (by decide) (by omega) _ (by rw[hl];decide) _ g _ hgs hor).mono ?_;rintro e w3 ⟨rfl,ho3,hb3⟩)
   go_roundw
   case rel=>exact⟨1,by omega,by rfl,by simpa[List.append_assoc]using ho3,hbw.trans hb3,Nat.le_trans hgs hb3.size⟩
   case measure=>simp[intOf]
  | 1,_=>
   obtain rfl:_=Value.int .i64 1:=hc;have ix:∀W:World,(Instr.index 323 (.agg #[.int .i64 (bk:Int), .int .i64 (rw_:Int), .int .i64 (mk:Int), .int .i64 (kd:Int)]) (.int .i64 1)).run Tryz.prog W= .ok (.int .i64 (rw_:Int)) W:=λ_=>by kernel_rfl
   go_wp2_with (go_at_call 261;refine(a0x rw_ 8 (by decide) (by decide) (by omega) _ (by rw[hl];decide) _ g _ hgs hor).mono ?_;rintro e w3 ⟨rfl,ho3,hb3⟩)
   go_roundw
   case rel=>exact⟨2,by omega,by rfl,by simpa[List.append_assoc]using ho3,hbw.trans hb3,Nat.le_trans hgs hb3.size⟩
   case measure=>simp[intOf]
  | 2,_=>
   obtain rfl:_=Value.int .i64 2:=hc;have ix:∀W:World,(Instr.index 323 (.agg #[.int .i64 (bk:Int), .int .i64 (rw_:Int), .int .i64 (mk:Int), .int .i64 (kd:Int)]) (.int .i64 2)).run Tryz.prog W= .ok (.int .i64 (mk:Int)) W:=λ_=>by kernel_rfl
   go_wp2_with (go_at_call 261;refine(a0x mk 8 (by decide) (by decide) (by omega) _ (by rw[hl];decide) _ g _ hgs hor).mono ?_;rintro e w3 ⟨rfl,ho3,hb3⟩)
   go_roundw
   case rel=>exact⟨3,by omega,by rfl,by simpa[List.append_assoc]using ho3,hbw.trans hb3,Nat.le_trans hgs hb3.size⟩
   case measure=>simp[intOf]
  | 3,_=>
   obtain rfl:_=Value.int .i64 3:=hc;have ix:∀W:World,(Instr.index 323 (.agg #[.int .i64 (bk:Int), .int .i64 (rw_:Int), .int .i64 (mk:Int), .int .i64 (kd:Int)]) (.int .i64 3)).run Tryz.prog W= .ok (.int .i64 (kd:Int)) W:=λ_=>by kernel_rfl
   go_wp2_with (go_at_call 261;refine(a0x kd 8 (by decide) (by decide) (by omega) _ (by rw[hl];decide) _ g _ hgs hor).mono ?_;rintro e w3 ⟨rfl,ho3,hb3⟩)
   go_roundw
   case rel=>exact⟨4,by omega,by rfl,by simpa[List.append_assoc]using ho3,hbw.trans hb3,Nat.le_trans hgs hb3.size⟩
   case measure=>simp[intOf]
  | 4,_=>
   obtain rfl:_=Value.int .i64 4:=hc;have hH:L0++(([bk,rw_,mk,kd].take 4).flatMap λx=>Bt.bits x 8)=S.head s:=by
    rw[Hh.out,<- HL0.out];simp[List.append_assoc]
   rw[hH]at hor;have hhl:=S.length_head s
   replace b0:=b0.below hbw (by omega)
   replace b1:=b1.below hbw (by omega)
   replace b2:=b2.below hbw (by omega)
   replace hbel:=hbel.trans (hbw.mono (by omega))
   clear hbw hl ho2 hk hH c16 c17 c18 c19 c20 c21 c22 d19 d20 d21 d22 hml
   go_wp2_with fail
   go_still_tail 3,(by kernel_rfl)
   change wpList _ _ _ _ _ wr.drew
   have r0:∀j v,(s.data.map bv)[j]? =some v->wr.drew.cell? ((⟨n,0,none⟩:Addr).add j)=some v:=b0A b0.drew Hdl.out
   go_wp2_with ((with_reducible refine a9V 306 306 5 Tryz.underlying306 a9Z (n+1+1) 0 32 32 ⟨n,0,none⟩ 16 16 155 (zeros32.map bv) (s.data.map bv) b2.drew (by simp[h]) r0 (by simp[h,zeros32]) (a0B _) ?_ ?_ ?_);(· rfl);(· rfl);intro w4 b24 g4 s4)
   replace hor:=(hor.drew).grown g4 (by omega)
   replace b1:=b1.drew.grown g4 (by simp)
   replace hbel:=(hbel.drew).grown g4 (by have:=b2.lt;simp;omega) (λk hk=>by injection hk with hk;omega)
   rw[a7E h]at b24;have hgs4:g<=w4.heap.size:=by rw[s4];simpa using hgs
   clear b2 g4 s4 r0 hgs
   go_wp2_with fail
   go_region_held3 (λ_=>True) (trivial)
    (first
     | (go_at_call 263;refine(a5x (S.head s) (by omega) (by omega) _ g g (hor.drew)).mono ?_;rintro e w5 ⟨g5,cap5,rfl,hown5,hb5⟩)
     | (refine a9S 306 306 5 Tryz.underlying306 a9Z (n+1+1) 16 16 16 ⟨g5,0,none⟩ (Bt.pack (S.head s)).length cap5 155 ((s.data++zeros16).map bv) ((Bt.pack (S.head s)).map bv) (b24.drew.below hb5 b24.lt) (by simp[Bt.length_pack,hhl]) (hown5.cells rfl) (by simp[Bt.length_pack,hhl,h,zeros16]) (a0B _) ?_ ?_ ?_;(· rfl);(· rfl);intro w6 b26 g6 s6))
   rw[a2u h]at b26
   replace hor:=(hor.drew.below hb5 (by simp)).grown g6 (by omega)
   replace b1:=(b1.drew.below hb5 (by simpa using b1.lt)).grown g6 (by simp)
   replace hbel:=(hbel.drew.trans (hb5.mono (by have:=b24.lt;simp;omega))).grown g6 (by have:=b26.lt;have:=b24.lt;have:=hb5.size;simp at this;omega) (λk hk=>by injection hk with hk;omega)
   have hgs6:g<=w6.heap.size:=by rw[s6];have:=hb5.size;simp at this;omega
   clear b24 hgs4 hb5 hown5 g6 s6;have hsum:=K.sum_lt (s.data++Bt.pack (S.head s));have hb28:(s.data++Bt.pack (S.head s)).length=28:=by simp[Bt.length_pack,hhl,h]
   have hput:=Lib.hid (show S.put s=s.data++Bt.pack (S.head s++Bt.bits (K.sum (s.data++Bt.pack (S.head s))) 32)from rfl);have hcl:∀j x,(s.data++Bt.pack (S.head s))[j]? =some x->w6.cell? ⟨n+1+1,0+j,none⟩=some (bv x):=λj x hx=>b4X b26 j x (by
    rw[<- List.append_assoc,List.getElem?_append_left (by rw[hb28];have:=(List.getElem?_eq_some_iff.1 hx).1;omega)];exact hx)
   have hko:=b4g _ 28 hb28 (by omega) (n+1+1) 0 32 w6 hcl;have Hko:=Lib.hid hko;generalize K.sum (s.data++Bt.pack (S.head s))=sm at*;clear hko hcl hb28
   go_wp2_with fail
   refine(Hko.out).mono ?_;rintro e w7 ⟨rfl,rfl⟩
   go_wp2_with fail
   refine(a0x sm 32 (by decide) (by decide) hsum _ (by rw[hhl];decide) _ g _ hgs6 hor).mono ?_;rintro e w8 ⟨rfl,ho8,hb8⟩
   replace b1:=b1.below hb8 (by omega)
   replace b26:=b26.below hb8 (by omega)
   replace hbel:=hbel.trans (hb8.mono (by omega))
   have hgs8:g<=w8.heap.size:=Nat.le_trans hgs6 hb8.size;clear hb8 hor hgs6 Hko hsum;have hh2:(S.head s++Bt.bits sm 32).length=128:=by simp[hhl,Bt.length_bits]
   go_wp2_with fail
   go_region_held3 (λ_=>True) (trivial)
    (first
     | (go_at_call 263;refine(a5x (S.head s++Bt.bits sm 32) (by omega) (by omega) _ g g (ho8.drew)).mono ?_;rintro e w9 ⟨g9,cap9,rfl,hown9,hb9⟩)
     | (refine a9S 306 306 5 Tryz.underlying306 a9Z (n+1+1) 16 16 16 ⟨g9,0,none⟩ (Bt.pack (S.head s++Bt.bits sm 32)).length cap9 155 ((s.data++(Bt.pack (S.head s)++zeros16.drop (Bt.pack (S.head s)).length)).map bv) ((Bt.pack (S.head s++Bt.bits sm 32)).map bv) (b26.drew.below hb9 b26.lt) (by simp[Bt.length_pack,hh2]) (hown9.cells rfl) (by simp[Bt.length_pack,hh2,hhl,h,zeros16]) (a0B _) ?_ ?_ ?_;(· rfl);(· rfl);intro w10 b10 g10 s10))
   rw[a2u h,List.drop_of_length_le (by simp[Bt.length_pack,hh2,hhl,zeros16]),List.append_nil,<- hput.out]at b10
   replace b1:=(b1.drew.below hb9 (by simpa using b1.lt)).grown g10 (by simp)
   replace hbel:=(hbel.drew.trans (hb9.mono (by have:=b26.lt;simp;omega))).grown g10 (by have:=b26.lt;have:=hb9.size;simp at this;omega) (λk hk=>by injection hk with hk;omega)
   have hp32:(S.put s).length=32:=by rw[hput.out];simp[Bt.length_pack,hh2,h]
   clear b26 hb9 hown9 g10 s10 ho8 hput;generalize hpg:S.put s=pg at*;have Hpg:=Lib.hid hpg;clear hpg;have hL:AggT Tryz.prog 155 (pg.map bv).length:=by rw[List.length_map,hp32];exact a1J
   have hC:AggT Tryz.prog 155 (pg.map bv).toArray.size:=by simp only[List.size_toArray,List.length_map,hp32];exact a1J
   have hfit:0+(pg.map bv).toArray.size<=(zeros32.map bv).length:=by simp[hp32,zeros32]
   have hspl:splice (zeros32.map bv) 0 (pg.map bv).toArray.toList=pg.map bv:=by simp[splice,hp32,zeros32]
   have Hspl:=Lib.hid hspl;clear hspl
   go_wp2_with (first | ((with_reducible refine C4 155 (pg.map bv) (n+1+1) 0 hL (s7 b10 0 _ (by rw[List.drop_zero];exact List.take_length)) ?_ ?_);(· rfl)) | ((with_reducible refine Z8 155 (n+1) 0 155 (zeros32.map bv) (pg.map bv).toArray hC b1 hfit (U4 _) ?_ ?_ ?_);(· rfl);(· rfl);intro w2 c1 g2 s2;rw[Hspl.out]at c1))
   exact bodyPost_ret (J3 Tryz.results233 _ _ (n+1) 155 (pg.map bv).toArray c1 hC rfl) rfl ⟨by rw[Hpg.out];rfl,by rw[Hn.out];exact hbel.grown g2 (Nat.le_of_lt (by have:=b1.lt;omega)) (λk hk=>by injection hk with hk;omega)⟩

def shc (d:List UInt8) (role lpn seq kind block row mask:Int):List Value:=d.map bv++[.int .i64 role, .int .i64 lpn, .int .i64 seq, .int .i64 kind, .int .i64 block, .int .i64 row, .int .i64 mask]
theorem a2B:(#[.int .u8 0, .int .u8 0, .int .u8 0, .int .u8 0, .int .u8 0, .int .u8 0, .int .u8 0, .int .u8 0, .int .u8 0, .int .u8 0, .int .u8 0, .int .u8 0, .int .u8 0, .int .u8 0, .int .u8 0, .int .u8 0, .int .i64 0, .int .i64 0, .int .i64 0, .int .i64 0, .int .i64 0, .int .i64 0, .int .i64 0]:Array Value)=(shc zeros16 0 0 0 0 0 0 0).toArray:=rfl
section
variable {d : List UInt8} {a b c k l m n : Int} (h : d.length = 16) (x : Int)
include h
theorem W6 (i:Nat):(shc d a b c k l m n).toArray[16+i]? =[Value.int .i64 a, .int .i64 b, .int .i64 c, .int .i64 k, .int .i64 l, .int .i64 m, .int .i64 n][i]?:=by
 rw[List.getElem?_toArray,shc,List.getElem?_append_right (by simp[h])];simp[h]
theorem W5 (i:Nat) (v:Value):(shc d a b c k l m n).toArray.setIfInBounds (16+i) v=(d.map bv++[Value.int .i64 a, .int .i64 b, .int .i64 c, .int .i64 k, .int .i64 l, .int .i64 m, .int .i64 n].set i v).toArray:=by
 simp only[shc,List.setIfInBounds_toArray];rw[List.set_append_right _ _ (by simp[h])];simp[h]
theorem b8M:(shc d a b c k l m n).toArray.setIfInBounds 16 (.int .i64 x)=(shc d x b c k l m n).toArray:=W5 h 0 _
theorem b8L:(shc d a b c k l m n).toArray.setIfInBounds 17 (.int .i64 x)=(shc d a x c k l m n).toArray:=W5 h 1 _
theorem b8K:(shc d a b c k l m n).toArray.setIfInBounds 18 (.int .i64 x)=(shc d a b x k l m n).toArray:=W5 h 2 _
theorem b8J:(shc d a b c k l m n).toArray.setIfInBounds 19 (.int .i64 x)=(shc d a b c x l m n).toArray:=W5 h 3 _
theorem b8I:(shc d a b c k l m n).toArray.setIfInBounds 20 (.int .i64 x)=(shc d a b c k x m n).toArray:=W5 h 4 _
theorem b8H:(shc d a b c k l m n).toArray.setIfInBounds 21 (.int .i64 x)=(shc d a b c k l x n).toArray:=W5 h 5 _
theorem b8G:(shc d a b c k l m n).toArray.setIfInBounds 22 (.int .i64 x)=(shc d a b c k l m x).toArray:=W5 h 6 _
theorem a8X:splice (shc zeros16 a b c k l m n) 0 (d.map bv)=shc d a b c k l m n:=by
 simp[splice,shc,h,zeros16]
end

theorem b3V:B1 Tryz.prog 100 155=some (List.replicate 32 (.int .u8)):=by kernel_rfl
theorem a2k (x y:List UInt8) (hx:x.length=32) (hy:y.length=32) (w:World):
  (Op.equalIn 10000 155 (.agg (x.map bv).toArray) (.agg (y.map bv).toArray)).run Tryz.prog w= .ok (decide (x=y)) w:=by
 have h1:=X3 x;have h2:=X3 y;rw[hx]at h1;rw[hy]at h2;have hm:∀xs,mkV Tryz.prog 155 xs= .agg xs.toArray:=λxs=>by simp[mkV,Tryz.underlying155]
 have:=C0 100 155 _ b3V 10000 (by omega) (x.map bv) (y.map bv) h1 h2 w;rw[H6,hm,hm]at this;exact this
theorem b4J:Ending.returned (.tuple #[.agg #[.int .u8 0, .int .u8 0, .int .u8 0, .int .u8 0, .int .u8 0, .int .u8 0, .int .u8 0, .int .u8 0, .int .u8 0, .int .u8 0, .int .u8 0, .int .u8 0, .int .u8 0, .int .u8 0, .int .u8 0, .int .u8 0, .int .i64 0, .int .i64 0, .int .i64 0, .int .i64 0, .int .i64 0, .int .i64 0, .int .i64 0], .int .i64 1])=Ending.returned (.tuple #[Sh.zero.v, .int .i64 1]):=by
 rw[a2B];rfl
theorem b6C (s:Sh):Ending.returned (.tuple #[.agg s.cells.toArray, .int .i64 0])=Ending.returned (.tuple #[s.v, .int .i64 0]):=rfl
theorem b1m (s:Sh):∀v∈s.cells,v.oneCell'=true:=by
 intro v hv;simp only[Sh.cells,List.mem_append,List.mem_map,List.mem_cons,List.not_mem_nil,or_false]at hv;rcases hv with⟨b,_,rfl⟩ | rfl | rfl | rfl | rfl | rfl | rfl | rfl<;>rfl
theorem a6p {α:Type} (a b:List α) (h:a.length=b.length):splice a 0 b=b:=by simp[splice,h]
theorem b8F:(#[.int .u8 0, .int .u8 0, .int .u8 0, .int .u8 0, .int .u8 0, .int .u8 0, .int .u8 0, .int .u8 0, .int .u8 0, .int .u8 0, .int .u8 0, .int .u8 0, .int .u8 0, .int .u8 0, .int .u8 0, .int .u8 0, .int .u8 0, .int .u8 0, .int .u8 0, .int .u8 0, .int .u8 0, .int .u8 0, .int .u8 0, .int .u8 0, .int .u8 0, .int .u8 0, .int .u8 0, .int .u8 0, .int .u8 0, .int .u8 0, .int .u8 0, .int .u8 0]:Array Value).size=(zeros32.map bv).toArray.size:=by decide
theorem a7p:AggT Tryz.prog 222 (#[.int .u8 0, .int .u8 0, .int .u8 0, .int .u8 0, .int .u8 0, .int .u8 0, .int .u8 0, .int .u8 0, .int .u8 0, .int .u8 0, .int .u8 0, .int .u8 0, .int .u8 0, .int .u8 0, .int .u8 0, .int .u8 0, .int .i64 0, .int .i64 0, .int .i64 0, .int .i64 0, .int .i64 0, .int .i64 0, .int .i64 0]:Array Value).size:=a8N
theorem b4H:0+(#[.int .u8 0, .int .u8 0, .int .u8 0, .int .u8 0, .int .u8 0, .int .u8 0, .int .u8 0, .int .u8 0, .int .u8 0, .int .u8 0, .int .u8 0, .int .u8 0, .int .u8 0, .int .u8 0, .int .u8 0, .int .u8 0, .int .i64 0, .int .i64 0, .int .i64 0, .int .i64 0, .int .i64 0, .int .i64 0, .int .i64 0]:Array Value).size<=(shc zeros16 0 0 0 0 0 0 0).length:=by decide
theorem b3C:(#[.int .u8 0, .int .u8 0, .int .u8 0, .int .u8 0, .int .u8 0, .int .u8 0, .int .u8 0, .int .u8 0, .int .u8 0, .int .u8 0, .int .u8 0, .int .u8 0, .int .u8 0, .int .u8 0, .int .u8 0, .int .u8 0, .int .i64 0, .int .i64 0, .int .i64 0, .int .i64 0, .int .i64 0, .int .i64 0, .int .i64 0]:Array Value).all (·.oneCell')=true:=by simp[Value.oneCell']

set_option maxRecDepth 100000 in
set_option maxHeartbeats 4000000 in
theorem b0W (p:List UInt8) (h:p.length=32) (w:World):
  Calls Tryz.prog 218 #[.agg (p.map bv).toArray] w λe w'=>e= .returned (.tuple #[(S.getV p).v, .int .i64 (S.getE p)])/\Below w.heap.size w w':=by
 have hb16:(p.drop 16).length=16:=by simp[h]
 have hd16:(p.take 16).length=16:=by simp[h]
 have hpb:(p.map bv).toArray.toList.take 16=(p.take 16).map bv:=by simp
 have hA:AggT Tryz.prog 155 (p.map bv).length:=by rw[List.length_map,h];exact a1J
 have hpc:∀j x,(p.drop 16)[j]? =some x->(p.map bv).toArray[16+j]? =some (bv x):=λj x hx=>by
  rw[List.getElem?_drop]at hx;simp[hx]
 obtain⟨C,hC⟩:∃C,(p.map bv).toArray=C:=⟨_,rfl⟩;rw[hC]at hpb hpc ⊢;have HC:=Lib.hid hC;have Hpb:=Lib.hid hpb;have Hpc:=Lib.hid hpc;clear hC hpb hpc
 go_enter Tryz.func218,Tryz.ntmps218
 go_upto_region 2 with fail
 obtain⟨w0,hw0⟩:∃w0,((w.alloc (.cells C 155)).alloc (.cells #[.int .u8 0, .int .u8 0, .int .u8 0, .int .u8 0, .int .u8 0, .int .u8 0, .int .u8 0, .int .u8 0, .int .u8 0, .int .u8 0, .int .u8 0, .int .u8 0, .int .u8 0, .int .u8 0, .int .u8 0, .int .u8 0, .int .i64 0, .int .i64 0, .int .i64 0, .int .i64 0, .int .i64 0, .int .i64 0, .int .i64 0] 222)).alloc (.cells #[.int .u8 0, .int .u8 0, .int .u8 0, .int .u8 0, .int .u8 0, .int .u8 0, .int .u8 0, .int .u8 0, .int .u8 0, .int .u8 0, .int .u8 0, .int .u8 0, .int .u8 0, .int .u8 0, .int .u8 0, .int .u8 0, .int .i64 0, .int .i64 0, .int .i64 0, .int .i64 0, .int .i64 0, .int .i64 0, .int .i64 0] 222)=w0:=⟨_,rfl⟩;rw[hw0];obtain⟨b0,b1,b2,hbel,hs0⟩:=a1Q _ _ _ _ _ _ _ _ hw0;clear hw0;rw[a2B]at b1 b2;generalize hn:w.heap.size=n at*;have Hn:=Lib.hid hn;clear hn
 go_still_tail 3,(by kernel_rfl)
 change wpList _ _ _ _ _ w0.drew
 have r0:∀j v,((p.take 16).map bv)[j]? =some v->w0.drew.cell? ((⟨n,0,none⟩:Addr).add j)=some v:=b0A b0.drew Hpb.out
 go_wp2_with ((with_reducible refine a9V 306 306 5 Tryz.underlying306 a9Z (n+1+1) 0 16 16 ⟨n,0,none⟩ 32 32 222 (shc zeros16 0 0 0 0 0 0 0) ((p.take 16).map bv) b2.drew (by simp[h]) r0 (by simp[h,shc,zeros16]) (a0B _) ?_ ?_ ?_);(· rfl);(· rfl);intro w4 b24 g4 s4)
 rw[a8X hd16]at b24
 replace b0:=b0.drew.grown g4 (by simp;omega)
 replace b1:=b1.drew.grown g4 (by simp)
 replace hbel:=hbel.drew.grown g4 (by have:=b2.lt;simp;omega) (λk hk=>by injection hk with hk;omega)
 have hs4:n+3<=w4.heap.size:=by rw[s4];exact hs0
 clear b2 g4 s4 r0 hs0
 go_wp2_with fail
 refine(b2h (some ⟨n,16,none⟩) 16 16 w4).mono ?_;rintro e w5 ⟨rfl,hw5⟩;have hin:InAt w5 w4.heap.size n 16 (p.drop 16) 0:=by
  rw[hw5];refine⟨16,by rw[hb16];exact Blk.new _ _ _,by omega,by have:=b0.lt;omega,by have:=b0.lt;simp;omega,λj x hx=>?_⟩;rw[(b0.alloc _).cell];exact Hpc.out j x hx
 have s5:w5.heap.size=w4.heap.size+1:=by rw[hw5];simp
 replace b0:=b0.alloc (.cells #[.slice (some ⟨n,16,none⟩) 16 16, .int .i64 0] 333)
 replace b1:=b1.alloc (.cells #[.slice (some ⟨n,16,none⟩) 16 16, .int .i64 0] 333)
 have b2:=b24.alloc (.cells #[.slice (some ⟨n,16,none⟩) 16 16, .int .i64 0] 333)
 replace hbel:=hbel.alloc (by omega) (.cells #[.slice (some ⟨n,16,none⟩) 16 16, .int .i64 0] 333)
 rw[<- hw5]at b0 b1 b2 hbel;generalize w4.heap.size=g at*;clear hw5 b24;have s5':g<w5.heap.size:=by omega
 clear s5
 go_wp2_with fail
 refine(a4q n 16 (p.drop 16) 0 64 (by decide) (by decide) (by omega) (by omega) w5 g hin).mono ?_;rintro e w6 ⟨rfl,hin6,g6,s6⟩
 replace b0:=b0.grown g6 (λe=>by injection e with e;omega)
 replace b1:=b1.grown g6 (λe=>by injection e with e;omega)
 replace b2:=b2.grown g6 (λe=>by injection e with e;omega)
 replace hbel:=hbel.grown g6 (by omega) (λk hk=>by injection hk with hk;omega)
 have s6':g<w6.heap.size:=by omega
 clear g6 s6 s5' hin;have hm:=Bt.numAt_lt (p.drop 16) 0 64;generalize hM:Bt.numAt (p.drop 16) 0 64=M at*;have HM:=Lib.hid hM;clear hM
 go_wp2_with fail
 refine(a7I M hm w6).mono ?_;rintro e w7 ⟨rfl,rfl⟩;obtain⟨ro,hro⟩:∃x:Int,((M/72057594037927936:Nat):Int)=x:=⟨_,rfl⟩;obtain⟨lp,hlp⟩:∃x:Int,((M/1099511627776 % 65536:Nat):Int)=x:=⟨_,rfl⟩;obtain⟨sq,hsq⟩:∃x:Int,((M % 1099511627776:Nat):Int)=x:=⟨_,rfl⟩;rw[hro,hlp,hsq];have Hro:=Lib.hid hro;have Hlp:=Lib.hid hlp;have Hsq:=Lib.hid hsq;clear hro hlp hsq hm;have c16:=(b2.cell 16).trans (W6 hd16 0);have c17:=(b2.cell 17).trans (W6 hd16 1);have c18:=(b2.cell 18).trans (W6 hd16 2);have f16:=b2.frozen 16;have f17:=b2.frozen 17;have f18:=b2.frozen 18;simp at c16 c17 c18
 go_wp2_with fail
 obtain⟨w8,hw8⟩:∃w8,((w6.setCell ⟨n+1+1,16,none⟩ (.int .i64 ro)).setCell ⟨n+1+1,17,none⟩ (.int .i64 lp)).setCell ⟨n+1+1,18,none⟩ (.int .i64 sq)=w8:=⟨_,rfl⟩;rw[hw8]
 replace b2:=((b2.set_ 16 (.int .i64 ro)).set_ 17 (.int .i64 lp)).set_ 18 (.int .i64 sq)
 rw[b8M hd16,b8L hd16,b8K hd16,hw8]at b2;have g8:w6.grownBy w8 (some (n+1+1)):=by
  rw[<- hw8];exact((A5 w6 ⟨n+1+1,16,none⟩ (.int .i64 ro)).trans (A5 _ ⟨n+1+1,17,none⟩ (.int .i64 lp))).trans (A5 _ ⟨n+1+1,18,none⟩ (.int .i64 sq))
 have s8:w8.heap.size=w6.heap.size:=by rw[<- hw8];simp[World.setCell]
 replace b0:=b0.grown g8 (by simp;omega)
 replace b1:=b1.grown g8 (by simp)
 replace hbel:=hbel.grown g8 (by omega) (λk hk=>by injection hk with hk;omega)
 replace hin6:=hin6.grown g8 (λe=>by injection e with e;omega) (λe=>by injection e with e;omega)
 have s8':g<w8.heap.size:=by omega
 clear hw8 g8 s8 c16 c17 c18 f16 f17 f18 s6'
 go_loopw [39] (λc wr=>∃k:Nat,k<=4/\c= .int .i64 k/\InAt wr g n 16 (p.drop 16) (64+8*k)/\Blk wr n 155 C/\Blk wr (n+1) 222 (shc zeros16 0 0 0 0 0 0 0).toArray/\
   Blk wr (n+1+1) 222 (shc (p.take 16) ro lp sq (if k<4 then 0 else Bt.numAt (p.drop 16) 88 8) (if k<1 then 0 else Bt.numAt (p.drop 16) 64 8) (if k<2 then 0 else Bt.numAt (p.drop 16) 72 8) (if k<3 then 0 else Bt.numAt (p.drop 16) 80 8)).toArray/\Below n w wr/\g<wr.heap.size) (λc _=>4-(intOf c).toNat)
 case atStart=>exact⟨0,by omega,rfl,hin6,b0,b1,b2,hbel,s8'⟩
 case round=>
  clear b0 b1 b2 hbel hin6 s8';obtain⟨k,hk,hc,hin,b0,b1,b2,hbw,hgs⟩:=hrel
  match k,hk with
  | 0,_=>
   obtain rfl:_=Value.int .i64 0:=hc;have ix:∀W:World,(Instr.index 312 (.agg #[.pointer (some ⟨n+1+1,20,none⟩), .pointer (some ⟨n+1+1,21,none⟩), .pointer (some ⟨n+1+1,22,none⟩), .pointer (some ⟨n+1+1,19,none⟩)]) (.int .i64 0)).run Tryz.prog W= .ok (.pointer (some ⟨n+1+1,20,none⟩)) W:=λ_=>by kernel_rfl
   go_wp2_with fail
   refine(a4q n 16 (p.drop 16) 64 8 (by decide) (by decide) (by omega) (by omega) wr g hin).mono ?_;rintro e w9 ⟨rfl,hin9,g9,s9⟩
   replace b0:=b0.grown g9 (λe=>by injection e with e;omega)
   replace b1:=b1.grown g9 (λe=>by injection e with e;omega)
   replace b2:=b2.grown g9 (λe=>by injection e with e;omega)
   replace hbw:=hbw.grown g9 (by omega) (λk hk=>by injection hk with hk;omega)
   have hgs9:g<w9.heap.size:=by omega
   clear g9 s9;have hnl:=Bt.numAt_lt (p.drop 16) 64 8;generalize hX:Bt.numAt (p.drop 16) 64 8=X at*;have hnl':(X:Int)<256:=by omega
   have HX:=Lib.hid hX;clear hX hnl;have cX:=(b2.cell 20).trans (W6 hd16 4);have fX:=b2.frozen 20;simp at cX
   go_wp2
   go_roundw
   case rel=>
    have b3:=b2.set_ 20 (.int .i64 (X:Int));rw[b8I hd16]at b3;exact⟨1,by omega,by rfl,hin9.grown (A5 _ _ _) (λe=>by injection e with e;simp at e;omega) (λe=>by injection e with e;simp at e;omega),b0.far (by simp;omega) _,b1.far (by simp) _,by rw[HX.out];exact b3,hbw.setCell (by simp;omega) _,by simpa[World.setCell]using hgs9⟩
   case measure=>simp[intOf]
  | 1,_=>
   obtain rfl:_=Value.int .i64 1:=hc;have ix:∀W:World,(Instr.index 312 (.agg #[.pointer (some ⟨n+1+1,20,none⟩), .pointer (some ⟨n+1+1,21,none⟩), .pointer (some ⟨n+1+1,22,none⟩), .pointer (some ⟨n+1+1,19,none⟩)]) (.int .i64 1)).run Tryz.prog W= .ok (.pointer (some ⟨n+1+1,21,none⟩)) W:=λ_=>by kernel_rfl
   go_wp2_with fail
   refine(a4q n 16 (p.drop 16) 72 8 (by decide) (by decide) (by omega) (by omega) wr g hin).mono ?_;rintro e w9 ⟨rfl,hin9,g9,s9⟩
   replace b0:=b0.grown g9 (λe=>by injection e with e;omega)
   replace b1:=b1.grown g9 (λe=>by injection e with e;omega)
   replace b2:=b2.grown g9 (λe=>by injection e with e;omega)
   replace hbw:=hbw.grown g9 (by omega) (λk hk=>by injection hk with hk;omega)
   have hgs9:g<w9.heap.size:=by omega
   clear g9 s9;have hnl:=Bt.numAt_lt (p.drop 16) 72 8;generalize hX:Bt.numAt (p.drop 16) 72 8=X at*;have hnl':(X:Int)<256:=by omega
   have HX:=Lib.hid hX;clear hX hnl;have cX:=(b2.cell 21).trans (W6 hd16 5);have fX:=b2.frozen 21;simp at cX
   go_wp2
   go_roundw
   case rel=>
    have b3:=b2.set_ 21 (.int .i64 (X:Int));rw[b8H hd16]at b3;exact⟨2,by omega,by rfl,hin9.grown (A5 _ _ _) (λe=>by injection e with e;simp at e;omega) (λe=>by injection e with e;simp at e;omega),b0.far (by simp;omega) _,b1.far (by simp) _,by rw[HX.out];exact b3,hbw.setCell (by simp;omega) _,by simpa[World.setCell]using hgs9⟩
   case measure=>simp[intOf]
  | 2,_=>
   obtain rfl:_=Value.int .i64 2:=hc;have ix:∀W:World,(Instr.index 312 (.agg #[.pointer (some ⟨n+1+1,20,none⟩), .pointer (some ⟨n+1+1,21,none⟩), .pointer (some ⟨n+1+1,22,none⟩), .pointer (some ⟨n+1+1,19,none⟩)]) (.int .i64 2)).run Tryz.prog W= .ok (.pointer (some ⟨n+1+1,22,none⟩)) W:=λ_=>by kernel_rfl
   go_wp2_with fail
   refine(a4q n 16 (p.drop 16) 80 8 (by decide) (by decide) (by omega) (by omega) wr g hin).mono ?_;rintro e w9 ⟨rfl,hin9,g9,s9⟩
   replace b0:=b0.grown g9 (λe=>by injection e with e;omega)
   replace b1:=b1.grown g9 (λe=>by injection e with e;omega)
   replace b2:=b2.grown g9 (λe=>by injection e with e;omega)
   replace hbw:=hbw.grown g9 (by omega) (λk hk=>by injection hk with hk;omega)
   have hgs9:g<w9.heap.size:=by omega
   clear g9 s9;have hnl:=Bt.numAt_lt (p.drop 16) 80 8;generalize hX:Bt.numAt (p.drop 16) 80 8=X at*;have hnl':(X:Int)<256:=by omega
   have HX:=Lib.hid hX;clear hX hnl;have cX:=(b2.cell 22).trans (W6 hd16 6);have fX:=b2.frozen 22;simp at cX
   go_wp2
   go_roundw
   case rel=>
    have b3:=b2.set_ 22 (.int .i64 (X:Int));rw[b8G hd16]at b3;exact⟨3,by omega,by rfl,hin9.grown (A5 _ _ _) (λe=>by injection e with e;simp at e;omega) (λe=>by injection e with e;simp at e;omega),b0.far (by simp;omega) _,b1.far (by simp) _,by rw[HX.out];exact b3,hbw.setCell (by simp;omega) _,by simpa[World.setCell]using hgs9⟩
   case measure=>simp[intOf]
  | 3,_=>
   obtain rfl:_=Value.int .i64 3:=hc;have ix:∀W:World,(Instr.index 312 (.agg #[.pointer (some ⟨n+1+1,20,none⟩), .pointer (some ⟨n+1+1,21,none⟩), .pointer (some ⟨n+1+1,22,none⟩), .pointer (some ⟨n+1+1,19,none⟩)]) (.int .i64 3)).run Tryz.prog W= .ok (.pointer (some ⟨n+1+1,19,none⟩)) W:=λ_=>by kernel_rfl
   go_wp2_with fail
   refine(a4q n 16 (p.drop 16) 88 8 (by decide) (by decide) (by omega) (by omega) wr g hin).mono ?_;rintro e w9 ⟨rfl,hin9,g9,s9⟩
   replace b0:=b0.grown g9 (λe=>by injection e with e;omega)
   replace b1:=b1.grown g9 (λe=>by injection e with e;omega)
   replace b2:=b2.grown g9 (λe=>by injection e with e;omega)
   replace hbw:=hbw.grown g9 (by omega) (λk hk=>by injection hk with hk;omega)
   have hgs9:g<w9.heap.size:=by omega
   clear g9 s9;have hnl:=Bt.numAt_lt (p.drop 16) 88 8;generalize hX:Bt.numAt (p.drop 16) 88 8=X at*;have hnl':(X:Int)<256:=by omega
   have HX:=Lib.hid hX;clear hX hnl;have cX:=(b2.cell 19).trans (W6 hd16 3);have fX:=b2.frozen 19;simp at cX
   go_wp2
   go_roundw
   case rel=>
    have b3:=b2.set_ 19 (.int .i64 (X:Int));rw[b8J hd16]at b3;exact⟨4,by omega,by rfl,hin9.grown (A5 _ _ _) (λe=>by injection e with e;simp at e;omega) (λe=>by injection e with e;simp at e;omega),b0.far (by simp;omega) _,b1.far (by simp) _,by rw[HX.out];exact b3,hbw.setCell (by simp;omega) _,by simpa[World.setCell]using hgs9⟩
   case measure=>simp[intOf]
  | 4,_=>
   obtain rfl:_=Value.int .i64 4:=hc;have hF:shc (p.take 16) ro lp sq (if 4<4 then 0 else Bt.numAt (p.drop 16) 88 8) (if 4<1 then 0 else Bt.numAt (p.drop 16) 64 8) (if 4<2 then 0 else Bt.numAt (p.drop 16) 72 8) (if 4<3 then 0 else Bt.numAt (p.drop 16) 80 8)=(S.fields p).cells:=by
    rw[<- Hro.out,<- Hlp.out,<- Hsq.out,<- HM.out];rfl
   rw[hF]at b2;have hfd:(S.fields p).data.length=16:=hd16;have hSA:AggT Tryz.prog 222 (S.fields p).cells.length:=by rw[show(S.fields p).cells.length=23 by simp[Sh.cells,hfd]];exact a8N
   have hSC:AggT Tryz.prog 222 (S.fields p).cells.toArray.size:=hSA;have hpyes:=λhm W=>a0I (S.fields p) hfd hm W;have hpno:=λhm W=>a1k (S.fields p) hfd hm W;have hgd:S.get p=if S.may (S.fields p)/\S.put (S.fields p)=p then some (S.fields p)else none:=rfl
   have h1c:∀v∈(S.fields p).cells,v.oneCell'=true:=b1m _;have hpl:(S.put (S.fields p)).length=32:=S.length_put _ hfd;have hspl:=Lib.hid (show splice (shc zeros16 0 0 0 0 0 0 0) 0 (S.fields p).cells.toArray.toList=(S.fields p).cells from a6p _ _ (by simp[shc,zeros16,Sh.cells,hfd]));have hfit:0+(S.fields p).cells.toArray.size<=(shc zeros16 0 0 0 0 0 0 0).length:=by simp[shc,zeros16,Sh.cells,hfd]
   unfold Sh.v at hpyes hpno;clear hF hin hk;cases hmay:S.may (S.fields p)
   ·have hg:=Lib.hid (show S.getV p=Sh.zero/\S.getE p=1 by unfold S.getV S.getE;rw[hgd];simp[hmay]);have hput:=Lib.hid (hpno hmay);generalize S.fields p=fs at*;clear hpno hpyes hgd hmay hfd hSC h1c;generalize fs.cells=SH at*
    go_wp2_with ((with_reducible refine C4 222 SH (n+1+1) 0 hSA (s7 b2 0 _ (by rw[List.drop_zero];exact List.take_length)) ?_ ?_);(· rfl))
    refine(hput.out wr).mono ?_;rintro e w10 ⟨rfl,hb10⟩
    replace b0:=b0.below hb10 b0.lt
    replace b1:=b1.below hb10 b1.lt
    replace hbw:=hbw.trans (hb10.mono (by omega))
    have hs10:=hb10.size;clear hb10 b2
    go_wp2_with (first | ((with_reducible refine W4 155 w10 #[.int .u8 0, .int .u8 0, .int .u8 0, .int .u8 0, .int .u8 0, .int .u8 0, .int .u8 0, .int .u8 0, .int .u8 0, .int .u8 0, .int .u8 0, .int .u8 0, .int .u8 0, .int .u8 0, .int .u8 0, .int .u8 0, .int .u8 0, .int .u8 0, .int .u8 0, .int .u8 0, .int .u8 0, .int .u8 0, .int .u8 0, .int .u8 0, .int .u8 0, .int .u8 0, .int .u8 0, .int .u8 0, .int .u8 0, .int .u8 0, .int .u8 0, .int .u8 0] (zeros32.map bv).toArray 155 b5f b8F (U4 _) ?_ ?_ ?_);(· rfl);(· rfl)) | ((with_reducible refine Z8 222 (n+1) 0 222 (shc zeros16 0 0 0 0 0 0 0) #[.int .u8 0, .int .u8 0, .int .u8 0, .int .u8 0, .int .u8 0, .int .u8 0, .int .u8 0, .int .u8 0, .int .u8 0, .int .u8 0, .int .u8 0, .int .u8 0, .int .u8 0, .int .u8 0, .int .u8 0, .int .u8 0, .int .i64 0, .int .i64 0, .int .i64 0, .int .i64 0, .int .i64 0, .int .i64 0, .int .i64 0] a7p (b1.alloc _) b4H b3C ?_ ?_ ?_);(· rfl);(· rfl);intro w12 c1 g12 s12))
    exact bodyPost_ret (J3 Tryz.results218 _ _ (n+1) 222 #[.int .u8 0, .int .u8 0, .int .u8 0, .int .u8 0, .int .u8 0, .int .u8 0, .int .u8 0, .int .u8 0, .int .u8 0, .int .u8 0, .int .u8 0, .int .u8 0, .int .u8 0, .int .u8 0, .int .u8 0, .int .u8 0, .int .i64 0, .int .i64 0, .int .i64 0, .int .i64 0, .int .i64 0, .int .i64 0, .int .i64 0] c1 a7p rfl) rfl ⟨by rw[hg.out.1,hg.out.2];exact b4J,by rw[Hn.out];exact(hbw.alloc (by omega) _).grown g12 (by simp;omega) (λk hk=>by injection hk with hk;omega)⟩
   ·have hput:=Lib.hid (hpyes hmay)
    by_cases hpp:S.put (S.fields p)=p
    ·have hg:=Lib.hid (show S.getV p=S.fields p/\S.getE p=0 by unfold S.getV S.getE;rw[hgd];simp[hmay,hpp]);rw[hpp]at hput;have heq:=λW=>a2k p p h h W;rw[HC.out]at heq hput;have hde:decide (p=p)=true:=by simp
     rw[hde]at heq;have hvv:(some (S.fields p)).getD Sh.zero=S.fields p:=rfl;have Hvv:=Lib.hid hvv;have hCa:AggT Tryz.prog 155 C.size:=by rw[<- HC.out];simp only[List.size_toArray,List.length_map,h];exact a1J
     have hCs:(#[.int .u8 0, .int .u8 0, .int .u8 0, .int .u8 0, .int .u8 0, .int .u8 0, .int .u8 0, .int .u8 0, .int .u8 0, .int .u8 0, .int .u8 0, .int .u8 0, .int .u8 0, .int .u8 0, .int .u8 0, .int .u8 0, .int .u8 0, .int .u8 0, .int .u8 0, .int .u8 0, .int .u8 0, .int .u8 0, .int .u8 0, .int .u8 0, .int .u8 0, .int .u8 0, .int .u8 0, .int .u8 0, .int .u8 0, .int .u8 0, .int .u8 0, .int .u8 0]:Array Value).size=C.size:=by rw[<- HC.out];simp[h]
     have hC1:C.all (·.oneCell')=true:=by rw[<- HC.out];exact U4 _
     have hCL:AggT Tryz.prog 155 C.toList.length:=hCa;have hS1:(S.fields p).cells.toArray.all (·.oneCell')=true:=all_oneCell_toArray h1c;clear hpno hpyes hgd hmay hfd h1c hvv hde hpl;generalize hfs:S.fields p=fs at*;generalize hSH:fs.cells=SH at*;have HSH:=Lib.hid hSH;clear hSH hfs
     go_wp2_with ((with_reducible refine C4 222 SH (n+1+1) 0 hSA (s7 b2 0 _ (by rw[List.drop_zero];exact List.take_length)) ?_ ?_);(· rfl))
     refine(hput.out wr).mono ?_;rintro e w10 ⟨rfl,hb10⟩
     replace b0:=b0.below hb10 b0.lt
     replace b1:=b1.below hb10 b1.lt
     replace b2:=b2.below hb10 b2.lt
     replace hbw:=hbw.trans (hb10.mono (by omega))
     have hs10:=hb10.size;clear hb10
     go_wp2_with (first | ((with_reducible refine W4 155 w10 #[.int .u8 0, .int .u8 0, .int .u8 0, .int .u8 0, .int .u8 0, .int .u8 0, .int .u8 0, .int .u8 0, .int .u8 0, .int .u8 0, .int .u8 0, .int .u8 0, .int .u8 0, .int .u8 0, .int .u8 0, .int .u8 0, .int .u8 0, .int .u8 0, .int .u8 0, .int .u8 0, .int .u8 0, .int .u8 0, .int .u8 0, .int .u8 0, .int .u8 0, .int .u8 0, .int .u8 0, .int .u8 0, .int .u8 0, .int .u8 0, .int .u8 0, .int .u8 0] C 155 hCa hCs hC1 ?_ ?_ ?_);(· rfl);(· rfl)) | ((with_reducible refine T7 155 C.toList w10.heap.size 0 hCL (T5 _ _ _) ?_ ?_ ?_);(· rfl);(· rfl)) | ((with_reducible refine T7 155 C.toList n 0 hCL (s7 (b0.alloc _) 0 _ (by rw[List.drop_zero];exact List.take_length)) ?_ ?_ ?_);(· rfl);(· rfl)) | ((with_reducible refine C4 222 SH (n+1+1) 0 hSA (s7 (b2.alloc _) 0 _ (by rw[List.drop_zero];exact List.take_length)) ?_ ?_);(· rfl)) | ((with_reducible refine Z8 222 (n+1) 0 222 (shc zeros16 0 0 0 0 0 0 0) SH.toArray hSC (b1.alloc _) hfit hS1 ?_ ?_ ?_);(· rfl);(· rfl);intro w12 c1 g12 s12;rw[hspl.out]at c1))
     exact bodyPost_ret (J3 Tryz.results218 _ _ (n+1) 222 SH.toArray c1 hSC rfl) rfl ⟨by rw[hg.out.1,hg.out.2,<- b6C,HSH.out];rfl,by rw[Hn.out];exact(hbw.alloc (by omega) _).grown g12 (by simp;omega) (λk hk=>by injection hk with hk;omega)⟩
    ·have hg:=Lib.hid (show S.getV p=Sh.zero/\S.getE p=1 by unfold S.getV S.getE;rw[hgd];simp[hpp]);have heq:=λW=>a2k (S.put (S.fields p)) p hpl h W;rw[HC.out]at heq;have hde:decide (S.put (S.fields p)=p)=false:=by simp[hpp]
     rw[hde]at heq;have hPa:AggT Tryz.prog 155 ((S.put (S.fields p)).map bv).toArray.size:=by simp only[List.size_toArray,List.length_map,hpl];exact a1J
     have hPs:(#[.int .u8 0, .int .u8 0, .int .u8 0, .int .u8 0, .int .u8 0, .int .u8 0, .int .u8 0, .int .u8 0, .int .u8 0, .int .u8 0, .int .u8 0, .int .u8 0, .int .u8 0, .int .u8 0, .int .u8 0, .int .u8 0, .int .u8 0, .int .u8 0, .int .u8 0, .int .u8 0, .int .u8 0, .int .u8 0, .int .u8 0, .int .u8 0, .int .u8 0, .int .u8 0, .int .u8 0, .int .u8 0, .int .u8 0, .int .u8 0, .int .u8 0, .int .u8 0]:Array Value).size=((S.put (S.fields p)).map bv).toArray.size:=by simp[hpl]
     have hP1:=U4 (S.put (S.fields p));have hCL:AggT Tryz.prog 155 C.toList.length:=by rw[<- HC.out];simpa[h]using a1J
     generalize((S.put (S.fields p)).map bv).toArray=PG at*;have hPL:AggT Tryz.prog 155 PG.toList.length:=hPa;clear hpno hpyes hgd hmay hfd h1c hde hpl hpp;generalize S.fields p=fs at*;generalize fs.cells=SH at*
     go_wp2_with ((with_reducible refine C4 222 SH (n+1+1) 0 hSA (s7 b2 0 _ (by rw[List.drop_zero];exact List.take_length)) ?_ ?_);(· rfl))
     refine(hput.out wr).mono ?_;rintro e w10 ⟨rfl,hb10⟩
     replace b0:=b0.below hb10 b0.lt
     replace b1:=b1.below hb10 b1.lt
     replace hbw:=hbw.trans (hb10.mono (by omega))
     have hs10:=hb10.size;clear hb10 b2
     go_wp2_with (first | ((with_reducible refine W4 155 w10 #[.int .u8 0, .int .u8 0, .int .u8 0, .int .u8 0, .int .u8 0, .int .u8 0, .int .u8 0, .int .u8 0, .int .u8 0, .int .u8 0, .int .u8 0, .int .u8 0, .int .u8 0, .int .u8 0, .int .u8 0, .int .u8 0, .int .u8 0, .int .u8 0, .int .u8 0, .int .u8 0, .int .u8 0, .int .u8 0, .int .u8 0, .int .u8 0, .int .u8 0, .int .u8 0, .int .u8 0, .int .u8 0, .int .u8 0, .int .u8 0, .int .u8 0, .int .u8 0] PG 155 hPa hPs hP1 ?_ ?_ ?_);(· rfl);(· rfl)) | ((with_reducible refine T7 155 PG.toList w10.heap.size 0 hPL (T5 _ _ _) ?_ ?_ ?_);(· rfl);(· rfl)) | ((with_reducible refine T7 155 C.toList n 0 hCL (s7 (b0.alloc _) 0 _ (by rw[List.drop_zero];exact List.take_length)) ?_ ?_ ?_);(· rfl);(· rfl)) | ((with_reducible refine Z8 222 (n+1) 0 222 (shc zeros16 0 0 0 0 0 0 0) #[.int .u8 0, .int .u8 0, .int .u8 0, .int .u8 0, .int .u8 0, .int .u8 0, .int .u8 0, .int .u8 0, .int .u8 0, .int .u8 0, .int .u8 0, .int .u8 0, .int .u8 0, .int .u8 0, .int .u8 0, .int .u8 0, .int .i64 0, .int .i64 0, .int .i64 0, .int .i64 0, .int .i64 0, .int .i64 0, .int .i64 0] a7p (b1.alloc _) b4H b3C ?_ ?_ ?_);(· rfl);(· rfl);intro w12 c1 g12 s12))
     exact bodyPost_ret (J3 Tryz.results218 _ _ (n+1) 222 #[.int .u8 0, .int .u8 0, .int .u8 0, .int .u8 0, .int .u8 0, .int .u8 0, .int .u8 0, .int .u8 0, .int .u8 0, .int .u8 0, .int .u8 0, .int .u8 0, .int .u8 0, .int .u8 0, .int .u8 0, .int .u8 0, .int .i64 0, .int .i64 0, .int .i64 0, .int .i64 0, .int .i64 0, .int .i64 0, .int .i64 0] c1 a7p rfl) rfl ⟨by rw[hg.out.1,hg.out.2];exact b4J,by rw[Hn.out];exact(hbw.alloc (by omega) _).grown g12 (by simp;omega) (λk hk=>by injection hk with hk;omega)⟩
end Go.Proofs.YtgkpkpbnonmopaaGreat
namespace Go.Proofs.YtgkpkpbnonmopaaGreat
open Go Go.RowKit
theorem b0u (n:Int):Fn Tryz.prog 208 [.int .i64 n] [] (λv As=>v= .int .i64 (L.all n)/\As=[]):=Fn.of_same (a8h n)
theorem b0t (m d:Int):Fn Tryz.prog 120 [.int .i64 m, .int .i64 d] [] (λv As=>v= .bool (L.has m d)/\As=[]):=Fn.of_same (V3 m d)
theorem a6O (m d:Int):Fn Tryz.prog 147 [.int .i64 m, .int .i64 d] [] (λv As=>v= .int .i64 (L.with_ m d)/\As=[]):=Fn.of_same (b1t m d)
theorem a5K (m d:Int):Fn Tryz.prog 196 [.int .i64 m, .int .i64 d] [] (λv As=>v= .int .i64 (L.without m d)/\As=[]):=Fn.of_same (X2 m d)
theorem b6p (m:Int):Fn Tryz.prog 192 [.int .i64 m] [] (λv As=>v= .int .i64 (L.count m)/\As=[]):=Fn.of_same (x7 m)
theorem b9n (m i:Int) (hi0: -1000000<=i) (hi1:i<=1000000):Fn Tryz.prog 195 [.int .i64 m, .int .i64 i] [] (λv As=>v= .int .i64 (L.at_ m i)/\As=[]):=Fn.of_same (a6N m i hi0 hi1)
theorem b7P (m d:Int):Fn Tryz.prog 326 [.int .i64 m, .int .i64 d] [] (λv As=>v= .int .i64 (L.spot m d)/\As=[]):=Fn.of_same (a5J m d)
theorem L6 (m:Int):Fn Tryz.prog 132 [.int .i64 m] [] (λv As=>v= .int .i64 (G.slots m)/\As=[]):=Fn.of_same (b1Q m)
theorem V6 (m b r:Int):Fn Tryz.prog 164 [.int .i64 m, .int .i64 b, .int .i64 r] [] (λv As=>v= .int .i64 (G.parity m b r)/\As=[]):=Fn.of_drew (Q7 m b r)
theorem b0w (m b r s:Int) (h0: -1000000<=s) (h1:s<=1000000):Fn Tryz.prog 136 [.int .i64 m, .int .i64 b, .int .i64 r, .int .i64 s] [] (λv As=>v= .int .i64 (G.die m b r s)/\As=[]):=Fn.of_drew (b6B m b r s h0 h1)
theorem b4C (m b r s:Int):Fn Tryz.prog 322 [.int .i64 m, .int .i64 b, .int .i64 r, .int .i64 s] [] (λv As=>v= .int .i64 (G.slot m b r s)/\As=[]):=Fn.of_drew (b4B m b r s)
def shL (s:Sh):List Value:=[byC s.data 0,byC s.data 1,byC s.data 2,byC s.data 3,byC s.data 4,byC s.data 5,byC s.data 6,byC s.data 7,byC s.data 8,byC s.data 9,byC s.data 10,byC s.data 11,byC s.data 12,byC s.data 13,byC s.data 14,byC s.data 15,
 .int .i64 s.role, .int .i64 s.lpn, .int .i64 s.seq, .int .i64 s.kind, .int .i64 s.block, .int .i64 s.row, .int .i64 s.mask]
abbrev shV (s:Sh):Value:= .agg (shL s).toArray
theorem b7w (s:Sh) (h:s.data.length=16):shL s=s.cells:=by
 rw[Sh.cells,<- W0 s.data h];rfl
theorem a8Y (s:Sh) (h:s.data.length=16):s.v=shV s:=by rw[Sh.v,shV,b7w s h]
abbrev pgV (p:List UInt8):Value:= .agg (H4 p).toArray
theorem a3S (p:List UInt8) (h:p.length=32): .agg (p.map bv).toArray=pgV p:=by rw[pgV,U3 p h]
theorem b4x (role lpn seq:Int):Fn Tryz.prog 262 [.int .i64 role, .int .i64 lpn, .int .i64 seq] [] (λv As=>v= .int .u64 (S.meta_ role lpn seq)/\As=[]):=Fn.of_same (a3D role lpn seq)
theorem b7U (m:Nat) (hm:m<18446744073709551616):Fn Tryz.prog 247 [.int .u64 m] [] (λv As=>v= .tuple #[.int .i64 (m/72057594037927936:Nat), .int .i64 (m/1099511627776 % 65536:Nat), .int .i64 (m % 1099511627776:Nat)]/\As=[]):=Fn.of_same (a7I m hm)
theorem a8p (s:Sh) (h:s.data.length=16):Fn Tryz.prog 244 [shV s] [] (λv As=>v= .bool (S.may s)/\As=[]):=by
 rw[<- a8Y s h];exact Fn.of_below (a1U s h)
def J4 (s:Sh):List UInt8:=if S.may s then S.put s else zeros32
theorem U1 (s:Sh) (h:s.data.length=16):(J4 s).length=32:=by
 unfold J4;split
 ·exact S.length_put s h
 ·rfl
theorem b7i (s:Sh) (h:s.data.length=16):Fn Tryz.prog 233 [shV s] [] (λv As=>v= .tuple #[pgV (J4 s), .bool (S.may s)]/\As=[]):=by
 rw[<- a8Y s h];cases hm:S.may s with
 | true=>
  rw[<- a3S _ (U1 s h),J4,if_pos hm];exact Fn.of_below (a0I s h hm)
 | false=>
  rw[<- a3S _ (U1 s h),J4,if_neg (by simp[hm])];exact Fn.of_below (a1k s h hm)
theorem a8r (p:List UInt8) (h:p.length=32):(S.getV p).data.length=16:=by
 unfold S.getV S.get;split
 ·simp[S.fields,h]
 ·rfl
theorem b4y (p:List UInt8) (h:p.length=32):Fn Tryz.prog 218 [pgV p] [] (λv As=>v= .tuple #[shV (S.getV p), .int .i64 (S.getE p)]/\As=[]):=by
 rw[<- a3S p h,<- a8Y _ (a8r p h)];exact Fn.of_below (b0W p h)
structure En where
 lpn:Int
 seq:Int
 role:Int
 data:List UInt8
def enL (e:En):List Value:=[iI e.lpn,iI e.seq,iI e.role,byC e.data 0,byC e.data 1,byC e.data 2,byC e.data 3,byC e.data 4,byC e.data 5,byC e.data 6,byC e.data 7,byC e.data 8,byC e.data 9,byC e.data 10,byC e.data 11,byC e.data 12,byC e.data 13,byC e.data 14,byC e.data 15]
abbrev enV (e:En):Value:= .agg (enL e).toArray
namespace W
def sh (b r m:Int) (e:En):Sh:=⟨e.data,e.role,e.lpn,e.seq,1,b,r,m⟩
def ok (b r m:Int) (e:En):Bool:=S.may (sh b r m e)
def own (b r m:Int) (e:En):Sh:=if ok b r m e then sh b r m e else Sh.zero
end W
theorem a7y (b r m:Int) (e:En) (h:e.data.length=16):FP 232 [iI b,iI r,iI m,enV e] [] (Ps (.tuple #[shV (W.own b r m e), .bool (W.ok b r m e)]) []):=by
 refine FE [0,0,0,0] Tryz.func232 λX F hX=>?_;refine J.qp (a8p (W.sh b r m e) h) [] λ_=>?_;refine J.qd (λ_ h1=>?_) λ_ h1=>?_
 ·simp only[Bool.not_eq_true']at h1;refine J.qr [] λ_=>?_;exact⟨by rw[W.own,W.ok,h1];rfl,rfl⟩
 ·simp only[Bool.not_eq_false']at h1;refine J.qr [] λ_=>?_;exact⟨by rw[W.own,W.ok,h1];rfl,rfl⟩
section
variable {P : Program} {T : Tab} {E : Env} {w : World} {n0 : Nat} {a : Act}
theorem a6W (hT:TabOK P T) {o:Oper} {ty e len:Nat} {x y:Operand} {k1 k2 t1 t2:Nat} {g1 g2:G} {ik:IntKind} {i:Int} {cs:Array Value} {v:Value} {ti:TI} (hop:o.op= .index ty x y) (hx:ev E x=some ⟨k1, .agg cs,t1,g1⟩) (hy:ev E y=some ⟨k2, .int ik i,t2,g2⟩) (he:EnvOK n0 E a) (v1:g1.on=true) (v2:g2.on=true)
  (hd:P.underlying ty=some (.array len e)) (hti:T.get e=some ti) (h1:ti.d.one=true) (hs:Nat.beq ti.size 1=true) (h0:0<=i) (hl:i<(len:Int)) (hv:cs[i.toNat]? =some v):(execOp a.eval o).run P w= .ok (.value v) w:=by
 have ex:=j3 he hx;have ey:=j3 he hy;simp only[Slot.val,v1,v2]at ex ey;obtain⟨d,f,z,ok⟩:=g7 (hT.get hti);have hsz:f.size=1:=by rw[<- ok.hsize];exact Nat.eq_of_beq_eq_true hs
 have hp:=a3T (P:=P) (w:=w) ok.hd ok.hf cs i.toNat
 rw[ok.one h1,hv]at hp;simp only[execOp,hop,ex,ey,Instr.index,asIntOf,Sem.run_bind,Sem.run_pure,Result.andThen_ok,d7 hd,if_pos (And.intro h0 hl),m7 ok.hf,hsz,Nat.mul_one,hp];simp
end
namespace W
def mix (x s:List UInt8) (k:Nat):List UInt8:=(List.zipWith (· ^^^ ·) x s).take k++x.drop k
def ovM (m x:Int):Int:=IntKind.u64.wrap ((BitVec.ofInt 64 m ^^^ BitVec.ofInt 64 x).toNat:Int)
def over1 (x:List UInt8×Int) (s:Sh):List UInt8×Int:=(mix x.1 s.data 16,ovM x.2 (S.meta_ s.role s.lpn s.seq))
def over (l:List Sh):List UInt8×Int:=l.foldl over1 (zeros16,0)
end W
def m9 (l:List Sh):List Value:=l.flatMap shL
theorem b0a (s:Sh):(shL s).length=23:=rfl
theorem a0G:∀(l:List Sh) (r:List Value) (k:Nat) (x:Sh),l[k]? =some x->((m9 l++r).drop (k*23)).take 23=shL x
 | [],_,_,_,h=>by simp at h
 | y::l,r,0,x,h=>by
  simp at h;subst h;rw[Nat.zero_mul,List.drop_zero];simp only[m9,List.flatMap_cons,List.append_assoc];exact List.take_left' (b0a y)
 | y::l,r,k+1,x,h=>by
  have:=a0G l r k x (by simpa using h);rw[show(k+1)*23=23+k*23 from by omega,<- List.drop_drop];simp only[m9,List.flatMap_cons,List.append_assoc]at this ⊢;rw[List.drop_left' (b0a y)];exact this
theorem a6J {x s:List UInt8} (hx:x.length=16) (hs:s.length=16) (k:Nat) (hk:k<=16):(W.mix x s k).length=16:=by simp[W.mix,hx,hs];omega
theorem b6j {x s:List UInt8} (hx:x.length=16) (hs:s.length=16) {k:Nat} (hk:k<16):(W.mix x s k).getD k 0=x.getD k 0:=by
 have e:(W.mix x s k)[k]? =x[k]?:=by
  rw[W.mix,List.getElem?_append_right (by simp[hx,hs];omega),List.getElem?_drop];congr 1;simp[hx,hs];omega
 rw[List.getD_eq_getElem?_getD,e,List.getD_eq_getElem?_getD]
theorem b6i {x s:List UInt8} (hx:x.length=16) (hs:s.length=16) {k:Nat} (hk:k<16):(W.mix x s k).set k (x.getD k 0 ^^^ s.getD k 0)=W.mix x s (k+1):=by
 apply List.ext_getElem?;intro j;rw[List.getElem?_set,a6J hx hs k (by omega)];simp only[W.mix,List.getElem?_append,List.length_take,List.length_zipWith,hx,hs,Nat.min_self,List.getElem?_take,List.getElem?_drop]
 by_cases e:k=j
 ·subst e;rw[if_pos rfl,if_pos hk,if_pos (by omega),if_pos (by omega)];simp[List.getElem?_zipWith,hx,hs,hk]
 ·rw[if_neg e]
  by_cases h1:j<k
  ·rw[if_pos (show j<min k 16 by omega),if_pos h1,if_pos (show j<min (k+1) 16 by omega),if_pos (show j<k+1 by omega)]
  ·rw[if_neg (show¬j<min k 16 by omega),if_neg (show¬j<min (k+1) 16 by omega),show k+(j-min k 16)=j from by omega,show k+1+(j-min (k+1) 16)=j from by omega]
theorem u81:Tryz.prog.underlying 29=some (.array 16 5):=by kernel_rfl
theorem a6b {x:List UInt8} (h:x.length=16) {k:Nat} (hk:k<16):(n7 x)[k]? =some (bv (x.getD k 0)):=by
 rw[W0 x h,List.getElem?_map];simp[h,hk]
theorem b2b {x:List UInt8} (h:x.length=16) {k:Nat} {b:UInt8}:(n7 x).set k (bv b)=n7 (x.set k b):=by
 rw[W0 x h,W0 _ (by simpa using h),List.map_set]
theorem b5j (b c:UInt8):IntKind.u8.wrap ((BitVec.ofInt IntKind.u8.bits (b.toNat:Int) ^^^ BitVec.ofInt IntKind.u8.bits (c.toNat:Int)).toNat:Int)=((b ^^^ c).toNat:Int):=by
 have h:=b2o b (c.toNat:Int);have h1:((c.toNat:Int) % 256)=c.toNat:=by have:=c.toNat_lt;omega
 have h2:IntKind.u8.wrap (c.toNat:Int)=(c.toNat:Int):=by
  have:IntKind.u8.wrap (c.toNat:Int)=(c.toNat:Int) % 256:=by simp[IntKind.wrap,IntKind.bits,IntKind.signed]
  rw[this,h1]
 rw[h2,h1]at h;simpa using h
theorem V7 {l:List Sh} (hd:∀s∈l,s.data.length=16):∀(x:List UInt8×Int),x.1.length=16->(l.foldl W.over1 x).1.length=16:=by
 induction l with
 | nil=>intro x h;exact h
 | cons s l ih=>intro x h;exact ih (λt ht=>hd t (by simp[ht])) _ (a6J h (hd s (by simp)) 16 (by omega))
theorem P6 (a:Option Nat) (n cap:Nat) (l:List Sh) (hl:l.length=n) (hn:n<=1000) (hd:∀s∈l,s.data.length=16):FP 245 [slv a n cap] [c9 222 23 a n cap (m9 l)]
  (Ps (.tuple #[.agg (n7 (W.over l).1).toArray, .int .u64 (W.over l).2]) [c9 222 23 a n cap (m9 l)]):=by
 refine FE [0] Tryz.func245 λX F hX=>?_;refine J.q λbb=>?_;refine J.l (α:=Nat) (λk=>k<=n) (λk=>[si 12 k,si 11 n,sv 10 (slv a n cap),⟨5, .int .u64 ((l.take k).foldl W.over1 (zeros16,0)).2,0, .tt⟩,⟨4,pp (bb (0+1)),4, .tt⟩,⟨2,pp (bb 0),3, .tt⟩]) [3] (λk=>[.pt (bb (0+1)) 29 (n7 ((l.take k).foldl W.over1 (zeros16,0)).1)]) (λk=>n-k) (0) (Nat.zero_le _) λk hI=>?_;have hxl:((l.take k).foldl W.over1 (zeros16,0)).1.length=16:=V7 (λt ht=>hd t (List.mem_of_mem_take ht)) _ rfl;refine J.qd (λ_ h1=>?_) λ_ h1=>?_
 ·simp only[decide_eq_true_eq,Int.ofNat_lt]at h1;obtain⟨s,hs⟩:∃s,l[k]? =some s:=⟨_,List.getElem?_eq_getElem (by omega)⟩;have hsl:s.data.length=16:=hd s (List.mem_of_getElem? hs);have hnext:(l.take (k+1)).foldl W.over1 (zeros16,0)=W.over1 ((l.take k).foldl W.over1 (zeros16,0)) s:=by
   rw[List.take_add_one,hs];simp
  generalize(l.take k).foldl W.over1 (zeros16,0)=x at hxl hnext;cases a with
  | none=>
   refine J.know (λh' s=>(s.get (i:=1) rfl).2.1) λhn0=>?_;omega
  | some g=>
   refine J.q λ_=>?_;refine J.v (shV s) rfl rfl (λhg a w he hw=>?_) ?_
   ·exact p6 tk rfl rfl he rfl rfl rfl (hw.get (i:=1) rfl) (by rw[show 0+(k:Int).toNat*23=k*23 from by omega];have:=a0G l [] k s hs;rwa [List.append_nil]at this) rfl
   refine J.q λcc=>?_;refine J.lo (α:=Nat) (λi=>i<=16) (λi=>[si 18 i,⟨17, .agg (n7 s.data).toArray,0, .tt⟩,⟨7,pp (cc 0),5, .tt⟩,si 12 k,si 11 n,sv 10 (slv (some g) n cap),⟨5, .int .u64 x.2,0, .tt⟩,⟨4,pp (bb (0+1)),4, .tt⟩,⟨2,pp (bb 0),3, .tt⟩]) [3] (λi=>[.pt (bb (0+1)) 29 (n7 (W.mix x.1 s.data i))]) (λi=>16-i) (0) (Nat.zero_le _) rfl ?_ (λ_=>rfl) λi hI=>?_
   ·rw[show W.mix x.1 s.data 0=x.1 from by simp[W.mix]];rfl
   have hml:=a6J hxl hsl i hI;refine J.qd (λ_ h2=>?_) λ_ h2=>?_
   ·simp only[decide_eq_true_eq]at h2;have h3:i<16:=by omega
    refine J.q λ_=>?_;refine J.v (bv (s.data.getD i 0)) rfl rfl (λhg a w he hw=>?_) ?_
    ·exact a6W tk rfl rfl rfl he rfl rfl u81 rfl rfl rfl (by omega) (by omega) (by rw[Int.toNat_natCast];have:=a6b hsl h3;simpa using this)
    refine J.q λ_=>?_;refine J.v (bv (x.1.getD i 0)) rfl rfl (λhg a w he hw=>?_) ?_
    ·exact i7 tk rfl rfl he rfl rfl rfl (hw.get (i:=3) rfl) (by rw[show 0+(i:Int).toNat*1=i from by omega,a6b hml h3,b6j hxl hsl h3])
    refine J.q λ_=>?_;refine J.s1 3 (n7 (W.mix x.1 s.data (i+1))) ?_ ?_ ?_
    ·show 0+(i:Int).toNat*1<16;omega
    ·rw[show 0+(i:Int).toNat*1=i from by omega,b5j,<- b6i hxl hsl h3];exact b2b hml
    refine J.q λ_=>?_;refine J.nx (i+1) (by omega) (by omega) (λ_ s=>s)
   ·simp only[decide_eq_false_iff_not]at h2;obtain rfl:i=16:=by omega
    refine J.qp (b4x s.role s.lpn s.seq) [] λ_=>?_;refine J.q λ_=>?_;have e1:W.mix x.1 s.data 16=((l.take (k+1)).foldl W.over1 (zeros16,0)).1:=by rw[hnext];rfl
    have e2:IntKind.u64.wrap ((BitVec.ofInt IntKind.u64.bits x.2 ^^^ BitVec.ofInt IntKind.u64.bits (S.meta_ s.role s.lpn s.seq)).toNat:Int)=((l.take (k+1)).foldl W.over1 (zeros16,0)).2:=by rw[hnext];rfl
    rw[e1,e2];refine J.q λ_=>?_;refine J.n (k+1) (by omega) (by omega) [0,1,2,3]
 ·simp only[decide_eq_false_iff_not,Int.ofNat_lt]at h1;obtain rfl:k=l.length:=by omega
  rw[List.take_length];exact J.qx [1]
end Go.Proofs.YtgkpkpbnonmopaaGreat
