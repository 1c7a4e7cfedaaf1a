/- Helpers. No condition. -/
import Derived.Test.YtpohajhbfllbbaaGreatD01
import Derived.Test.YtpohajhbfllbbaaGreatD02
import Derived.Test.YtpohajhbfllbbaaGreatD04
import Derived.Test.YtpohajhbfllbbaaGreatD06
import Derived.Test.YtpohajhbfllbbaaGreatD08
import Derived.Laws.AppendOwn
set_option maxRecDepth 20000
set_option linter.all false
namespace Go.Proofs.YtpohajhbfllbbaaGreat
open Go Go.RowKit
theorem Sep.pack {A:Atom} {Pre:List Atom} {h:Hl} (s:Sep (A::Pre) h):Sep [A, .hp (HP.of Pre)] h:=by
 obtain⟨own,hw⟩:=s;refine⟨λb=>min (own b) 1,λi B hB=>?_⟩
 match i,hB with
 | 0,hB=>
  simp at hB;subst hB;refine Atom.up (λb o hb=>?_) (hw 0 A rfl);rw[res_some]at hb ⊢;exact⟨by rw[hb.1];rfl,hb.2⟩
 | 1,hB=>
  simp at hB;subst hB;refine⟨λb=>own b-1,λj B hB=>?_⟩;refine Atom.up (λb o hb=>?_) (hw (j+1) B (by simpa using hB));rw[res_some]at hb ⊢;refine⟨by rw[hb.1];rfl,?_⟩;rw[res_some];exact⟨by rw[hb.1];omega,hb.2⟩
 | k+2,hB=>simp at hB
theorem Sep.unpack {A:Atom} {Pre:List Atom} {h:Hl} (s:Sep [A, .hp (HP.of Pre)] h):Sep (A::Pre) h:=by
 obtain⟨own,hw⟩:=s;obtain⟨own2,hw2⟩:Sep Pre (res h own 1):=hw 1 _ rfl;refine⟨λb=>if own b=1 then own2 b+1 else 0,λi B hB=>?_⟩;cases i with
 | zero=>
  simp at hB;subst hB;refine Atom.up (λb o hb=>?_) (hw 0 A rfl);rw[res_some]at hb ⊢;exact⟨by rw[if_neg (by omega)],hb.2⟩
 | succ j=>
  refine Atom.up (λb o hb=>?_) (hw2 j B (by simpa using hB));rw[res_some]at hb ⊢;have h1:=res_some.1 hb.2;exact⟨by rw[if_pos h1.1,hb.1],h1.2⟩
theorem Fn.pack {P:Program} {f:FuncId} {args:List Value} {Pre:List Atom} {q:Value->Prop} (c:Fn P f args Pre (λv As=>q v/\As=Pre)):Fn P f args [.hp (HP.of Pre)] (λv As=>q v/\As=[.hp (HP.of Pre)]):=by
 intro F w s;refine Calls.mono (c F w (Sep.unpack s)) λe w' ⟨v,As,h1,h2,h3,h4⟩=>?_;obtain⟨h5,rfl⟩:=h2;exact⟨v,_,h1,⟨h5,rfl⟩,Sep.pack h3,h4⟩
section
variable {X : Cx} {P : Program} {T : Tab} {K : List KI} {E : Env} {L : List Atom} {N : Nat} {F : HP} {Post : Value → List Atom → Prop} {rs : List ResultVar}
theorem J.clear (hX:IsCx X P rs N F Post) (hT:TabOK P T) {ops:Array Oper} {C:Cl} {lt:Bool} {i:Nat} {t:PT} {o:Oper} {g:G} {x:Operand} {k1 t1 b off n c st e ty size s1 b1 by_:Nat} {g1:G} {z z1:List Value} {td:TD} {cs:List Value} {E':Value->Env} {L2:List Value->List Atom} (is:Nat)
  (ho:n4 ops.toList i=some o) (hg:gd ops.toList E o=some g) (hgo:g.on=true) (hop:o.op= .call ⟨.builtin .clear,#[x],#[st]⟩) (hx:ev E x=some ⟨k1, .slice (some ⟨b,off,none⟩) n c,t1,g1⟩) (v1:g1.on=true)
  (hst:T.get st=some ⟨.slice e size,s1,z1,b1⟩) (he:T.get e=some ⟨td,size,z,by_⟩) (hz:Nat.beq z.length size=true) (hz1:z.all (·.oneCell')=true) (hL:n4 L is=some (.pt b ty cs)) (hlt:off+n*size<=cs.length)
  (hL2:∀cs',A4 L is (.pt b ty cs')=some (L2 cs')) (hd:∀v,B8 N o.dst v 0 .tt E=some (E' v))
  (hJ:∀cs',cs'.length=cs.length->cs'.take off=cs.take off->Conj (n9 lt C (L2 cs'))/\J X (.reg ops C t::K) (E' (.tuple #[])) (L2 cs')):J X (.reg ops C (.alt lt i t .non)::K) E L:=by
 refine J.op hX (S:=λv' L'=>∃cs',cs'.length=cs.length/\cs'.take off=cs.take off/\v'= .tuple #[]/\L'=L.set is (.pt b ty cs')) 0 ho hg hgo (λa0 w hen hs=>?_) hd (λv L' ⟨cs',q1,q2,e1,e2⟩=>by subst e1;subst e2;rw[<- y8 (hL2 cs')];exact hJ cs' q1 q2);rw[m9]at hL;have ex:=i6 hen hx;simp only[Slot.val,v1]at ex;obtain⟨d,f,zv,ok⟩:=g7 (hT.get hst);obtain⟨fe,rfl,g1',g2'⟩:=ok.slice rfl;obtain⟨d',f',zv',ok'⟩:=g7 (hT.get he);have hzl:zv'.cells.toList=z:=ok'.hzero.symm;have hzn:zv'.cells.size=size:=by rw[<- Array.length_toList,hzl];exact Nat.eq_of_beq_eq_true hz
 have hblk:Blk w b ty cs.toArray:=hs.pt hL;cases n with
 | zero=>
  refine⟨_,L.set is (.pt b ty cs), .value (.tuple #[]),w,⟨cs,rfl,rfl,rfl,rfl⟩,?_, .inl rfl,?_,Ext.refl _⟩
  ·simp[execOp,hop,ex,resolve,invoke,builtin,Builtin.clear_,d7 ok.hd]
  ·have e:L.set is (.pt b ty cs)=L:=by
    apply List.ext_getElem?;intro j;rw[List.getElem?_set];split
    ·rename_i e;subst e;rw[if_pos (List.getElem?_eq_some_iff.1 hL).1,hL]
    ·rfl
   rw[e];exact hs
 | succ n=>
  have hlen:(Builtin.zeroCells zv'.cells (n+1)).toList.length=(n+1)*size:=by rw[Array.length_toList,size_zeroCells,hzn]
  have hall:(Builtin.zeroCells zv'.cells (n+1)).toList.all (·.oneCell')=true:=by
   rw[List.all_eq_true];intro u hu;simp only[Builtin.zeroCells,Array.toList_map,List.mem_map]at hu;obtain⟨k,hk,rfl⟩:=hu;have hk':k<(n+1)*zv'.cells.size:=by simpa using hk
   have hpos:0<zv'.cells.size:=by
    rcases Nat.eq_zero_or_pos zv'.cells.size with h0 | h0
    ·rw[h0]at hk';omega
    ·exact h0
   have hm:=Nat.mod_lt k hpos;rw[getElem!_pos zv'.cells (k % zv'.cells.size) hm];rw[List.all_eq_true]at hz1;apply hz1;rw[<- hzl];simp
  obtain⟨w',r1,r2,r3⟩:=C4 (P:=P) (o:=off) (Builtin.zeroCells zv'.cells (n+1)).toList 0 w cs _ hblk (by rw[Nat.add_zero];exact a2X cs off _ (by rw[hlen];exact hlt)) hall;have hr:(execOp a0.eval o).run P w= .ok (.value (.tuple #[])) w':=by
   simp[execOp,hop,ex,resolve,invoke,builtin,Builtin.clear_,d7 ok.hd,W1 ok'.hf ok'.hz,r1]
  clear r1;generalize Builtin.zeroCells zv'.cells (n+1)=Z at hlen r2;have k1:(cs.take off++Z.toList++cs.drop (off+Z.toList.length)).length=cs.length:=by
   simp only[List.length_append,List.length_take,List.length_drop,hlen];omega
  have k2:(cs.take off++Z.toList++cs.drop (off+Z.toList.length)).take off=cs.take off:=by
   rw[List.append_assoc,List.take_append_of_le_length (by simp;omega),List.take_take,Nat.min_self]
  refine⟨_,L.set is (.pt b ty (cs.take off++Z.toList++cs.drop (off+Z.toList.length))), .value (.tuple #[]),w',⟨_,k1,k2,rfl,rfl⟩,?_, .inl rfl,?_,r3⟩
  ·exact hr
  ·rw[r2];exact hs.setPt _ hL
end
def fnC (c:Nat) (cs:List Value):Value:= .func (.func c) #[] cs.toArray
def b4i (p:A3->Bool) (l:List A3):Int:=match l.findIdx? p with
 | some k=>k
 | none=> -1
theorem a3y {l:List A3} {k:Nat} {x:A3} (h:l[k]? =some x):((j6 l).drop (k*3)).take 3=[iI x.1,iI x.2.1,iI x.2.2]:=by
 have:=D5 l [] k x h
 rwa [List.append_nil]at this
theorem b2k {p:A3->Bool} {l:List A3} {k:Nat} {x:A3} (h:l[k]? =some x) (h0:∀i<k,p (l.getD i d3)=false) (hp:p x=true):l.findIdx? p=some k:=by
 rw[List.findIdx?_eq_some_iff_getElem];obtain⟨h1,h2⟩:=List.getElem?_eq_some_iff.1 h;refine⟨h1,by rw[h2];exact hp,λj hj=>?_⟩;have:=h0 j hj;rw[List.getD_eq_getElem?_getD,List.getElem?_eq_getElem (by omega),Option.getD_some]at this;simp[this]
theorem b2l {p:A3->Bool} {l:List A3} (h0:∀i<l.length,p (l.getD i d3)=false):l.findIdx? p=none:=by
 rw[List.findIdx?_eq_none_iff];intro x hx;obtain⟨i,hi,rfl⟩:=List.mem_iff_getElem.1 hx;have:=h0 i hi
 rwa [List.getD_eq_getElem?_getD,List.getElem?_eq_getElem hi,Option.getD_some]at this
theorem b3f (c:Nat) (cs:List Value) (p:A3->Bool) (A:Atom) (hcal:n5 Tryz.prog c=true) (hf:∀x,Fn Tryz.prog c (L6 x::cs) [A] (λv As=>v= .bool (p x)/\As=[A]))
  (a:Option Nat) (n cap:Nat) (l:List A3) (hl:l.length=n) (hn:n<=4611686018427387904):FP 267 [slv a n cap,fnC c cs] [c9 33 3 a n cap (j6 l),A]
  (λv As=>v=iI (b4i p l)/\As=[c9 33 3 a n cap (j6 l),A]):=by
 refine FE [0,0] Tryz.func267 λX F hX=>?_;refine J.q λ_=>?_;refine J.l (α:=Nat) (λk=>k<=n/\∀i<k,p (l.getD i d3)=false) (λk=>[si 8 k,si 7 n,sv 0 (slv a n cap),⟨1,fnC c cs,0, .tt⟩]) [] (λk=>[]) (λk=>n-k) (0) (⟨by omega,by omega⟩) λk hI=>?_;refine J.qd (λ_ h1=>?_) λ_ h1=>?_
 ·simp only[decide_eq_true_eq,Int.ofNat_lt]at h1;cases a with
  | none=>
   refine J.know (λh' s=>(s.get (i:=1) rfl).2.1) λhn0=>?_;omega
  | some g=>
   have hk:l[k]? =some (l.getD k d3):=by rw[List.getD_eq_getElem?_getD,List.getElem?_eq_getElem (by omega),Option.getD_some]
   refine J.q λ_=>?_;refine J.v (L6 (l.getD k d3)) rfl rfl (λhg a w he hs=>?_) ?_
   ·exact n8 tk rfl rfl he rfl rfl rfl (hs.get (i:=1) rfl) (by rw[show 0+(k:Int).toNat*3=k*3 from by omega];exact a3y hk) rfl
   refine J.q λ_=>?_;refine J.call hX hcal (hf (l.getD k d3)) [2] 0 rfl rfl rfl rfl (by(repeat' (first | exact Conj.nil | refine Conj.cons ?_ ?_ | omega | exact hq0 | (simpa using hq0) | (exactλh=>h) | exact rfl | (intro hq;have hq0:=hq;try simp only[Bool.and_eq_true,Bool.or_eq_true,decide_eq_true_eq,Bool.not_eq_true',decide_eq_false_iff_not]at hq) | (simp;done) | (simp;omega) | decide))) rfl rfl (λ_=>rfl) ?_;refine cpq ⟨_,rfl,trivial,?_⟩;refine J.qd (λ_ h2=>?_) λ_ h2=>?_
   ·refine J.qr [1,2] λ_=>?_;exact⟨by rw[b4i,b2k hk hI.2 h2],rfl⟩
   ·refine J.q λ_=>?_;refine J.nx (k+1) (⟨by omega,λi hi=>by
     rcases Nat.lt_succ_iff_lt_or_eq.1 hi with h3 | h3
     ·exact hI.2 i h3
     ·rw[h3];exact h2⟩) (by omega) (λ_ s=>s)
 ·simp only[decide_eq_false_iff_not,Int.ofNat_lt]at h1;refine J.qr [1,2] λ_=>?_;exact⟨by rw[b4i,b2l (λi hi=>hI.2 i (by omega))],rfl⟩
def DelI (p:A3->Bool) (l m:List A3) (i j:Nat):Prop:=m.length=l.length/\i<j/\j<=l.length/\m.drop j=l.drop j/\m.take i++(l.drop j).filter (λx=>!p x)=l.filter (λx=>!p x)
theorem DelI.start {p:A3->Bool} {l:List A3} {k:Nat} (h:l.findIdx? p=some k):DelI p l l k (k+1):=by
 rw[List.findIdx?_eq_some_iff_getElem]at h;obtain⟨h1,h2,h3⟩:=h;refine⟨rfl,by omega,by omega,rfl,?_⟩;have e:l=l.take k++l[k]::l.drop (k+1):=by rw[<- List.drop_eq_getElem_cons h1,List.take_append_drop]
 have e2:(l.take k).filter (λx=>!p x)=l.take k:=by
  rw[List.filter_eq_self];intro x hx;obtain⟨i,hi,rfl⟩:=List.mem_iff_getElem.1 hx;rw[List.getElem_take];have:=h3 i (by simp at hi;omega);simpa using this
 conv=>rhs;rw[e]
 rw[List.filter_append,e2,List.filter_cons_of_neg (by simp[h2])]
theorem DelI.skip {p:A3->Bool} {l m:List A3} {i j:Nat} (h:DelI p l m i j) (hj:j<l.length) (hp:p (m.getD j d3)=true):DelI p l m i (j+1):=by
 obtain⟨h1,h2,h3,h4,h5⟩:=h;have e1:m[j]? =l[j]?:=by have:=congrArg (λz=>z[0]?) h4;simpa using this
 have hx:l[j]=m.getD j d3:=by rw[List.getD_eq_getElem?_getD,e1,List.getElem?_eq_getElem hj,Option.getD_some]
 refine⟨h1,by omega,by omega,?_,?_⟩
 ·have:=congrArg (List.drop 1) h4;simpa[List.drop_drop]using this
 ·rw[<- h5,List.drop_eq_getElem_cons hj,List.filter_cons_of_neg (by rw[hx,hp];simp)]
theorem DelI.keep {p:A3->Bool} {l m:List A3} {i j:Nat} (h:DelI p l m i j) (hj:j<l.length) (hp:p (m.getD j d3)=false):DelI p l (m.set i (m.getD j d3)) (i+1) (j+1):=by
 obtain⟨h1,h2,h3,h4,h5⟩:=h;have e1:m[j]? =l[j]?:=by have:=congrArg (λz=>z[0]?) h4;simpa using this
 have hx:l[j]=m.getD j d3:=by rw[List.getD_eq_getElem?_getD,e1,List.getElem?_eq_getElem hj,Option.getD_some]
 refine⟨by simp[h1],by omega,by omega,?_,?_⟩
 ·rw[List.drop_set_of_lt (by omega)];have:=congrArg (List.drop 1) h4;simpa[List.drop_drop]using this
 ·rw[<- h5,List.drop_eq_getElem_cons hj,List.filter_cons_of_pos (by rw[hx,hp];simp),hx,List.take_set,List.take_add_one,List.getElem?_eq_getElem (by omega)];rw[List.set_append_right _ _ (by simp;omega)];simp[List.length_take,Nat.min_eq_left (show i<=m.length by omega)]
theorem a5V (c:Nat) (cs:List Value) (p:A3->Bool) (A:Atom) (hcal:n5 Tryz.prog c=true) (hf:∀x,Fn Tryz.prog c (L6 x::cs) [A] (λv As=>v= .bool (p x)/\As=[A]))
  (a:Option Nat) (n cap:Nat) (l:List A3) (hl:l.length=n) (hn:n<=4611686018427387904):FP 251 [slv a n cap,fnC c cs] [c9 33 3 a n cap (j6 l),A]
  (λv As=>∃l',l'=l.filter (λx=>!p x)/\v=slv a l'.length cap/\As=[c9 33 3 a l'.length cap (j6 l'),A]):=by
 refine FE [0,0] Tryz.func251 λX F hX=>?_;refine J.qp (b3f c cs p A hcal hf a n cap l hl hn) [1,2] λ_=>?_;rw[b4i];cases hx:l.findIdx? p with
 | none=>
  dsimp only;refine J.qT λ_=>?_;refine J.qr [1,2] λ_=>?_;have:l.filter (λx=>!p x)=l:=by
   rw[List.filter_eq_self];intro x hm;rw[List.findIdx?_eq_none_iff]at hx;simp[hx x hm]
  exact⟨l,this.symm,by rw[hl],by rw[hl];rfl⟩
 | some k=>
  dsimp only;refine J.qd (λ_ h0=>?_) λ_ h0=>?_
  ·simp only[beq_iff_eq]at h0;omega
  have hk:k<n:=by rw[List.findIdx?_eq_some_iff_getElem]at hx;obtain⟨h1,_⟩:=hx;omega
  cases a with
  | none=>
   refine J.know (λh' s=>(s.get (i:=1) rfl).2.1) λhn0=>?_;omega
  | some g=>
   refine J.openOwn 1 rfl rfl (λ_=>rfl) λr q1 q2 q3 q4=>?_;refine J.q λ_=>?_;rw[show(k:Int)+1=((k+1:Nat):Int)from by omega];refine J.q λ_=>?_;refine J.l (α:=(Nat×Nat×List A3)) (λx=>DelI p l x.2.2 x.1 x.2.1) (λx=>[si 6 x.2.1,si 5 x.1,sv 0 (slv (some g) n cap),⟨1,fnC c cs,0, .tt⟩]) [1] (λx=>[.pt g 33 (j6 x.2.2++r)]) (λx=>n-x.2.1) ((k,k+1,l)) (DelI.start hx) λx hI=>?_;obtain⟨i,j,m⟩:=x;dsimp only at hI ⊢;have hml:m.length=n:=hI.1.trans hl;have hij:i<j:=hI.2.1;have hjn:j<=n:=by have:=hI.2.2.1;omega
   refine J.qd (λ_ h1=>?_) λ_ h1=>?_
   ·simp only[decide_eq_true_eq,Int.ofNat_lt]at h1;have hget:m[j]? =some (m.getD j d3):=by rw[List.getD_eq_getElem?_getD,List.getElem?_eq_getElem (by omega),Option.getD_some]
    refine J.q λ_=>?_;refine J.v (L6 (m.getD j d3)) rfl rfl (λhg a w he hs=>?_) ?_
    ·exact j8 tk rfl rfl he rfl rfl rfl (hs.get (i:=1) rfl) (by rw[show 0+(j:Int).toNat*3=j*3 from by omega];exact D5 m r _ _ hget) rfl
    refine J.q λ_=>?_;refine J.call hX hcal (hf (m.getD j d3)) [2] 0 rfl rfl rfl rfl (by(repeat' (first | exact Conj.nil | refine Conj.cons ?_ ?_ | omega | exact hq0 | (simpa using hq0) | (exactλh=>h) | exact rfl | (intro hq;have hq0:=hq;try simp only[Bool.and_eq_true,Bool.or_eq_true,decide_eq_true_eq,Bool.not_eq_true',decide_eq_false_iff_not]at hq) | (simp;done) | (simp;omega) | decide))) rfl rfl (λ_=>rfl) ?_;refine cpq ⟨_,rfl,trivial,?_⟩;refine J.qd (λ_ h2=>?_) λ_ h2=>?_
    ·simp only[Bool.not_eq_true']at h2;refine J.q λ_=>?_;refine J.storeN hX tk 1 rfl rfl rfl rfl rfl rfl rfl rfl rfl rfl rfl rfl rfl ?_ (j6 (m.set i (m.getD j d3))++r) ?_ rfl (λ_=>rfl) ⟨trivial,?_⟩
     ·rw[List.length_append,s8];show 0+(i:Int).toNat*3+3<=_;omega
     ·rw[show 0+(i:Int).toNat*3=i*3 from by omega];exact J2 m r i _ (by omega)
     refine J.q λ_=>?_;refine J.n ((i+1,j+1,m.set i (m.getD j d3))) (hI.keep (by omega) h2) (by dsimp only;omega) [0,1,2]
    ·simp only[Bool.not_eq_false']at h2;refine J.q λ_=>?_;refine J.n ((i,j+1,m)) (hI.skip (by omega) h2) (by dsimp only;omega) [0,1,2]
   ·simp only[decide_eq_false_iff_not,Int.ofNat_lt]at h1;obtain rfl:j=n:=by omega
    have hfil:m.take i=l.filter (λx=>!p x):=by
     have h5:=hI.2.2.2.2;rw[List.drop_of_length_le (by omega)]at h5;simpa using h5
    refine J.q λ_=>?_;refine J.clear hX tk 1 rfl rfl rfl rfl rfl rfl rfl rfl rfl rfl rfl ?_ (λ_=>rfl) (λ_=>rfl) λcs' z1 z2=>⟨trivial,?_⟩
    ·rw[List.length_append,s8];rw[s8]at q4;show 0+(i:Int).toNat*3+(j-(i:Int).toNat)*3<=_;have:(i:Int).toNat=i:=by omega
     rw[this];omega
    have hilen:(l.filter (λx=>!p x)).length=i:=by rw[<- hfil,List.length_take];omega
    refine J.closeOwn (e:=33) (size:=3) (n:=i) (cap:=cap) (xs:=j6 (l.filter (λx=>!p x))) 1 rfl rfl (by rw[s8,hilen]) (by omega) q3 (by rw[z1,List.length_append,s8,hml];rw[s8,hl]at q4;exact q4) ?_ rfl ?_
    ·have z3:(0+(i:Int).toNat*3)=i*3:=by omega
     rw[z3]at z2;rw[z2,<- hfil];have e:j6 m=j6 (m.take i)++j6 (m.drop i):=by
      conv=>lhs;rw[<- List.take_append_drop i m]
      simp only[j6,List.flatMap_append]
     rw[e,List.append_assoc,List.take_left' (by rw[s8,List.length_take,Nat.min_eq_left (by omega)])]
    refine J.qr [1,2] λ_=>?_;exact⟨_,rfl,by rw[hilen];rfl,by rw[hilen];rfl⟩
theorem b1f (b4 b5:Nat) (die blk:Int) (x:A3):FP 253 (L6 x::[pp b4,pp b5]) [.pt b4 3 [iI die], .pt b5 3 [iI blk]]
  (Ps (.bool ((x.1 !=die)||(x.2.1 !=blk))) [.pt b4 3 [iI die], .pt b5 3 [iI blk]]):=by
 refine FE [0,2,3] Tryz.func253 λX F hX=>?_;exact J.qx [1,2]
theorem b3B (q:Nat) (l:List A3) (hl:l.length<=12) (die blk:Int):FP 223 [pp q,iI die,iI blk] [L9 q l]
  (λv As=>∃a cap l',l'.Perm (l.filter λx=>!((x.1 !=die)||(x.2.1 !=blk)))/\v=slv a l'.length cap/\As=[L9 q l,c9 33 3 a l'.length cap (j6 l')]):=by
 refine FE [2,0,0] Tryz.func223 λX F hX=>?_;refine J.q λbb=>?_;refine J.cb (b6n q l hl) [1] ?_;rintro v As ⟨a,cap,l',hp,rfl,rfl⟩;refine⟨_,rfl,trivial,?_⟩;refine J.q λ_=>?_;refine J.turn1 [2,3] rfl (As:=[.hp (HP.of [.pt (bb 0) 3 [iI die], .pt (bb 1) 3 [iI blk]])]) (λh s=>Sep.hpOf.2 s) rfl ?_;refine J.q λ_=>?_;refine J.ca hX (by kernel_rfl) (a5V 253 [pp (bb 0),pp (bb 1)] (λx=>(x.1 !=die)||(x.2.1 !=blk)) _ (by kernel_rfl) (λx=>Fn.pack (b1f (bb 0) (bb 1) die blk x)) a l'.length cap l' rfl (by rw[hp.length_eq];omega)) [4,2] 0 rfl rfl rfl rfl rfl rfl (λ_=>rfl) ?_;rintro v As ⟨l2,rfl,rfl,rfl⟩;refine⟨_,rfl,trivial,?_⟩;refine J.qr [1,4] λ_=>?_;exact⟨a,cap,_,hp.filter _,rfl,rfl⟩
def ext (l:List NCell) (m:Nat):List NCell:=l++List.replicate m Nand.zcell
theorem b2J (l:List NCell) (m:Nat):ext l m++[Nand.zcell]=ext l (m+1):=by simp[ext,List.replicate_succ']
theorem a0L (l:List NCell) (m:Nat):(ext l m).length=l.length+m:=by simp[ext]
def O0 (l:List NCell) (k:Nat):List NCell:=(l.take k).map (λc=>{c with lost:=true})++l.drop k
theorem a7C (l:List NCell) (k:Nat):(O0 l k).length=l.length:=by simp[O0];omega
theorem a6D {l:List NCell} {k:Nat} (h:k<l.length):(O0 l k).modify k (λc=>{c with lost:=true})=O0 l (k+1):=by
 apply List.ext_getElem?;intro j;rw[List.getElem?_modify];simp only[O0,List.getElem?_append,List.length_map,List.length_take,List.getElem?_map,List.getElem?_take,List.getElem?_drop]
 by_cases e:k=j
 ·subst e;rw[if_neg (by omega),if_pos (by omega),if_pos (by omega),show k+(k-min k l.length)=k from by omega];rw[List.getElem?_eq_getElem h];simp
 ·have e2:(λa:NCell=>if k=j then {a with lost:=true}else a)=id:=by funext a;rw[if_neg e];rfl
  simp only[Option.map_eq_map,e2,Option.map_id_fun,id]
  by_cases h1:j<k
  ·rw[if_pos (show j<min k l.length by omega),if_pos h1,if_pos (show j<min (k+1) l.length by omega),if_pos (show j<k+1 by omega)]
  ·rw[if_neg (show¬j<min k l.length by omega),if_neg (show¬j<min (k+1) l.length by omega),show k+(j-min k l.length)=j from by omega,show k+1+(j-min (k+1) l.length)=j from by omega]
theorem a1C:∀(l' pl:List A3),pl.Nodup->l'.foldl List.erase pl=pl.filter (λx=>decide (x∉l'))
 | [],pl,_=>(List.filter_eq_self.2 (by simp)).symm
 | a::l',pl,h=>by
  rw[List.foldl_cons,a1C l' _ (h.erase a),h.erase_eq_filter,List.filter_filter];apply List.filter_congr;intro x _
  by_cases e:x=a
  ·subst e;simp
  ·simp[e]
theorem b0e {l' pl:List A3} {x y:Int} (h:pl.Nodup) (hp:l'.Perm (pl.filter λa=>!((a.1 !=x)||(a.2.1 !=y)))):l'.foldl List.erase pl=pl.filter λa=>!(decide (a.1=x)&&decide (a.2.1=y)):=by
 rw[a1C l' pl h];apply List.filter_congr;intro a ha;have:a∈l'↔(a.1=x/\a.2.1=y):=by
  rw[hp.mem_iff,List.mem_filter];simp[ha]
 by_cases h1:a.1=x/\a.2.1=y
 ·rw[decide_eq_false (by rw[this];simpa using h1)];simp[h1]
 ·rw[decide_eq_true (by rw[this];exact h1)];simp only[not_and]at h1
  by_cases h2:a.1=x
  ·simp[h2,h1 h2]
  ·simp[h2]
theorem a7M {N:Nand} {x y:Int} (h:N.refuses x y 0=0) (h6:N.cutB=true):N.eraseN x y=N.cutN.setBlk x.toNat y.toNat {N.blk x.toNat y.toNat with cells:=((N.blk x.toNat y.toNat).cells++List.replicate (N.pages-(N.blk x.toNat y.toNat).cells.length) Nand.zcell).map λc=>{c with lost:=true}}:=by
 unfold Nand.eraseN;rw[if_neg (by simp[h]),if_pos h6]
theorem a6T {N:Nand} {x y:Int} (h:N.refuses x y 0=0) (h6:N.cutB=false) (h7:(N.blk x.toNat y.toNat).fails=true):N.eraseN x y=N.cutN.setBlk x.toNat y.toNat {N.blk x.toNat y.toNat with met:=true}:=by
 unfold Nand.eraseN;rw[if_neg (by simp[h]),if_neg (by simp[h6]),if_pos h7]
theorem b0f {N:Nand} {x y:Int} (h:N.refuses x y 0=0) (h6:N.cutB=false) (h7:(N.blk x.toNat y.toNat).fails=false):N.eraseN x y={N.cutN.setBlk x.toNat y.toNat {N.blk x.toNat y.toNat with cells:=[],worn:=(N.blk x.toNat y.toNat).worn+1}with plan:=N.plan.filter λa=>!(decide (a.1=x)&&decide (a.2.1=y))}:=by
 unfold Nand.eraseN;rw[if_neg (by simp[h]),if_neg (by simp[h6]),if_neg (by simp[h7])]
theorem a8u (p:Nat) (N:Nand) (hN:N.Ok) (hR:N.Room) (hpn:N.plan.Nodup) (hpl:N.plan.length<=12) (x y:Int):FP 183 [pp p,iI x,iI y] [i5 p N] (Ps (iI (N.eraseE x y)) [i5 p (N.eraseN x y)]):=by
 have hbd:=hN.bd;have hnum:=hN.num;have hr0:=hR.ops;refine FE [2,0,0] Tryz.func183 λX F hX=>?_;refine J.qp (R2 x y) [] λ_=>?_;refine J.qp (a0Z p N hN x y 0) [1] λ_=>?_;refine J.qd (λ_ h=>?_) λ_ h=>?_
 ·simp only[bne_iff_ne,ne_eq]at h;refine J.qr [1] λ_=>?_;exact⟨by simp only[Nand.eraseE,ne_eq,h,not_false_eq_true,if_pos],by simp only[Nand.eraseN,ne_eq,h,not_false_eq_true,if_pos];rfl⟩
 simp only[bne_eq_false_iff_eq]at h;obtain⟨hoff,hdd,hr⟩:=Nand.refuses_zero h;obtain⟨i,rfl⟩:=Int.eq_ofNat_of_zero_le hr.1;obtain⟨j,rfl⟩:=Int.eq_ofNat_of_zero_le hr.2.2.1;have hi:i<N.dies:=by omega
 have hj:j<N.blocks:=by omega
 have hlen:=(hN.cells i j hi hj).1;refine J.o (α:=NLoc) 1 λY=>?_;refine J.openAt 5 (i*N.blocks+j) rfl rfl (J4 _ _ _ _ _ (a2V hi hj)) rfl ?_;rw[(D9 hj).1,(D9 hj).2];refine J.o (α:=(Option Nat×Nat)) 6 λc=>?_;refine J.p (.of [0,4,8,13,16,20,26,29,32]) [8] [1,2,3,4,5,6,7] λ_=>?_;refine J.qp (R2 i j) [] λ_=>?_;refine J.q λ_=>?_;refine J.valT hX (pp (Y.bp (i*N.blocks+j))) 7 rfl rfl (λ_ a w he hC=>?_) rfl ?_
 ·refine(l8 (key:=((i:Int),(j:Int),0)) I6 V0 (z:= .pointer none) (λw=>by kernel_rfl) rfl rfl rfl rfl he rfl rfl (hC rfl _ (i7 (i:=2) rfl))).trans ?_;simp only[K7 hi hj];rfl
 refine J.qp (b4P p N Y hN hR) [1] λ_=>?_;refine J.qd (λ_ h6=>?_) λ_ h6=>?_
 ·refine J.q λ_=>?_;rw[show(N.blk i j).cells=ext (N.blk i j).cells 0 from by simp[ext]];refine J.q λ_=>?_;refine J.l (α:=(Option Nat×Nat×Nat)) (λz=>(ext (N.blk i j).cells z.2.2).length<=N.pages) (λz=>[⟨8,pp (Y.bp (i*N.blocks+j)),7, .tt⟩,⟨0,pp p,2, .tt⟩]) [6,7] (λz=>[.pt (Y.bp (i*N.blocks+j)) 118 [slv z.1 (ext (N.blk i j).cells z.2.2).length z.2.1,iI (N.blk i j).worn, .bool (N.blk i j).fails, .bool (N.blk i j).met],c9 178 34 z.1 (ext (N.blk i j).cells z.2.2).length z.2.1 (q9 (ext (N.blk i j).cells z.2.2))]) (λz=>N.pages-(ext (N.blk i j).cells z.2.2).length) ((c.1,c.2,0)) (by rw[a0L];omega) λz hI=>?_;obtain⟨a,cap,m⟩:=z;dsimp only at hI ⊢;refine J.p (.of [0,4,8,13,16,20,24,28,32,37,40]) [] [1,2,3,4,5,6,7] λ_=>?_;refine J.qd (λ_ h8=>?_) λ_ h8=>?_
  ·simp only[decide_eq_true_eq,Int.ofNat_lt]at h8;rw[show N.cutN.pages=N.pages from rfl]at h8;refine J.q λ_=>?_;refine J.append hX tk 7 8 0 rfl rfl rfl rfl rfl rfl rfl rfl rfl rfl rfl rfl rfl rfl rfl rfl ?_ ?_ (λ_=>rfl) λa' cap'=>⟨_,b0Z Nand.zcell rfl rfl,trivial,?_⟩
   ·simp only[maxLen];omega
   ·omega
   refine J.q λ_=>?_;rw[a5c _ Nand.zcell,b2J];refine J.q λ_=>?_;refine J.n ((a',cap',m+1)) (by dsimp only;rw[a0L]at h8 ⊢;omega) (by dsimp only;rw[a0L]at h8 ⊢;rw[a0L];omega) [0,1,2,3,4,5,6,7]
  ·simp only[decide_eq_false_iff_not,Int.ofNat_lt]at h8;rw[show N.cutN.pages=N.pages from rfl]at h8;have hm:(ext (N.blk i j).cells m).length=N.pages:=by omega
   have hm2:m=N.pages-(N.blk i j).cells.length:=by rw[a0L]at hm;omega
   have hext:ext (N.blk i j).cells m=(N.blk i j).cells++List.replicate (N.pages-(N.blk i j).cells.length) Nand.zcell:=by rw[hm2];rfl
   generalize ext (N.blk i j).cells m=B at hm hext;refine J.know (λh' s=>i9 (c:=(a,cap)) (by omega) (s.get (i:=7) rfl)) λhg=>?_;obtain⟨g,hg⟩:=hg;simp only at hg;subst hg;refine J.openOwn 7 rfl rfl (λ_=>rfl) λr q1 q2 q3 q4=>?_;refine J.q λ_=>?_;refine J.l (α:=Nat) (λk=>k<=B.length) (λk=>[si 56 k,si 55 B.length,⟨8,pp (Y.bp (i*N.blocks+j)),7, .tt⟩]) [7] (λk=>[.pt g 178 (q9 (O0 B k)++r)]) (λk=>B.length-k) (0) (Nat.zero_le _) λk hI=>?_;refine J.qd (λ_ h9=>?_) λ_ h9=>?_
   ·simp only[decide_eq_true_eq,Int.ofNat_lt]at h9;refine J.q λ_=>?_;have hbl:(O0 B k).length=B.length:=a7C B k;obtain⟨cl,hcl⟩:∃cl,(O0 B k)[k]? =some cl:=⟨_,List.getElem?_eq_getElem (by omega)⟩;refine J.s1 7 (q9 (O0 B (k+1))++r) ?_ ?_ ?_
    ·rw[List.length_append,l9];show 0+(k:Int).toNat*34+32<_;simp only[Int.toNat_natCast];omega
    ·rw[show 0+(k:Int).toNat*34+32=k*34+32 from by simp,List.set_append_left _ _ (by rw[l9];omega)];rw[O7 _ k 32 _ (λc=>{c with lost:=true}) cl hcl (by omega) rfl,a6D h9]
    refine J.q λ_=>?_;refine J.nx (k+1) (by omega) (by omega) (λ_ s=>s)
   ·simp only[decide_eq_false_iff_not,Int.ofNat_lt]at h9;obtain rfl:k=B.length:=by omega
    have hall:O0 B B.length=B.map λc=>{c with lost:=true}:=by simp[O0]
    rw[hall];have hmb:(B.map λc=>{c with lost:=true}).length=B.length:=by simp
    generalize hB':(B.map λc=>{c with lost:=true})=B' at hmb;refine J.closeOwn (e:=178) (size:=34) (n:=B.length) (cap:=cap) (xs:=q9 B') 7 rfl rfl (by rw[l9,hmb]) q2 q3 (by rw[List.length_append,l9,hmb];rw[l9]at q4;exact q4) (by rw[List.take_left' (by rw[l9,hmb])]) rfl ?_;rw[<- hmb];refine J.q λ_=>?_;refine J.closeN p N (N.cutN.setBlk i j {N.blk i j with cells:=B'}) Y i j hj ({N.blk i j with cells:=B'}) (some g,cap) [1,2,3,4,5,6,7] rfl rfl rfl rfl (rfl) rfl ?_;refine J.qr [1] λ_=>?_;exact⟨by simp[Nand.eraseE,h,h6],by rw[a7M h h6,<- hB',hext];rfl⟩
 refine J.qd (λ_ h7=>?_) λ_ h7=>?_
 ·refine J.q λ_=>?_;refine J.closeN p N (N.cutN.setBlk i j {N.blk i j with met:=true}) Y i j hj ({N.blk i j with met:=true}) _ [1,2,3,4,5,6,7] rfl rfl rfl rfl (rfl) rfl ?_;refine J.qr [1] λ_=>?_;exact⟨by simp[Nand.eraseE,h,h6,h7],by rw[a6T h h6 h7];rfl⟩
 have hw:=(hnum.2.2 i j);refine J.q λ_=>?_;refine J.turn1 [7] rfl (As:=[c9 178 34 none 0 0 (q9 [])]) (λh s=>Sep.one ⟨rfl,rfl,rfl⟩) rfl ?_;refine J.qc (b3B Y.q N.plan hpl i j) [3] λ_=>?_;rintro v As ⟨a,cap,l',hp,rfl,rfl⟩;have hl12:l'.length<=12:=by rw[hp.length_eq];exact Nat.le_trans (List.length_filter_le _ _) hpl
 refine⟨_,rfl,trivial,?_⟩;refine J.q λ_=>?_;refine J.l (α:=Nat) (λk=>k<=l'.length) (λk=>[si 92 k,si 91 l'.length,sv 90 (slv a l'.length cap),⟨0,pp p,2, .tt⟩]) [3] (λk=>[L9 Y.q ((l'.take k).foldl List.erase N.plan)]) (λk=>l'.length-k) (0) (Nat.zero_le _) λk hI=>?_;refine J.qd (λ_ h9=>?_) λ_ h9=>?_
 ·simp only[decide_eq_true_eq,Int.ofNat_lt]at h9;cases a with
  | none=>
   refine J.know (λh' s=>(s.get (i:=8) rfl).2.1) λhn0=>?_;omega
  | some g=>
   have hk:l'[k]? =some (l'.getD k d3):=by rw[List.getD_eq_getElem?_getD,List.getElem?_eq_getElem h9,Option.getD_some]
   refine J.q λ_=>?_;refine J.v (L6 (l'.getD k d3)) rfl rfl (λhg a w he hs=>?_) ?_
   ·exact n8 tk rfl rfl he rfl rfl rfl (hs.get (i:=8) rfl) (by rw[show 0+(k:Int).toNat*3=k*3 from by omega];exact a3y hk) rfl
   refine J.p (.of [0,4,8,13,17,22]) [] [1,2,4,5,6,7,8,9] λ_=>?_;refine J.qp (b1e Y.q ((l'.take k).foldl List.erase N.plan) (l'.getD k d3).1 (l'.getD k d3).2.1 (l'.getD k d3).2.2) [3] λ_=>?_;refine J.q λ_=>?_;have hst:((l'.take k).foldl List.erase N.plan).erase (l'.getD k d3)=(l'.take (k+1)).foldl List.erase N.plan:=by
    rw[List.take_add_one,hk];simp
   rw[show(((l'.getD k d3).1,(l'.getD k d3).2.1,(l'.getD k d3).2.2):A3)=l'.getD k d3 from rfl,hst];refine J.q λ_=>?_;refine J.n (k+1) (by omega) (by omega) [0,1,2,3,4,5,6,7,8]
 ·simp only[decide_eq_false_iff_not,Int.ofNat_lt]at h9;obtain rfl:k=l'.length:=by omega
  rw[List.take_length,b0e hpn hp];refine J.q λ_=>?_;refine J.closeN p N ({N.cutN.setBlk i j {N.blk i j with cells:=[],worn:=(N.blk i j).worn+1}with plan:=N.plan.filter λa=>!(decide (a.1=(i:Int))&&decide (a.2.1=(j:Int)))}) Y i j hj ({N.blk i j with cells:=[],worn:=(N.blk i j).worn+1}) (none,0) [1,2,3,4,5,6,7] rfl rfl rfl rfl (rfl) rfl ?_;refine J.qr [1] λ_=>?_;exact⟨by simp[Nand.eraseE,h,h6,h7],by rw[b0f h h6 h7];rfl⟩
def rdP (a:Option Addr) (size n:Nat) (xs:List Value) (h:Hl):Prop:=
 xs.length=n*size/\(0<n->∃b o cs ty fr,a=some ⟨b,o,none⟩/\h b=some (.cells cs ty fr)/\(cs.toList.drop o).take (n*size)=xs)
theorem rdP.up {a:Option Addr} {size n:Nat} {xs:List Value} {h h':Hl} (l:Hle h h') (s:rdP a size n xs h):rdP a size n xs h':=
 ⟨s.1,λhn=>let⟨b,o,cs,ty,fr,h1,h2,h3⟩:=s.2 hn;⟨b,o,cs,ty,fr,h1,l _ _ h2,h3⟩⟩
def Rd (A:Atom) (a:Option Addr) (size n:Nat) (xs:List Value):Prop:=∀h,A.sat h->rdP a size n xs h
theorem Rd.addr {a:Option Addr} {size n:Nat} {xs:List Value} {h:Hl} (s:rdP a size n xs h) (hn:0<n):∃g o,a=some ⟨g,o,none⟩:=let⟨b,o,_,_,_,e,_⟩:=s.2 hn;⟨b,o,e⟩
def oad (a:Option Nat):Option Addr:=match a with | some g=>some ⟨g,0,none⟩ | none=>none
theorem C6 (e size:Nat) (a:Option Nat) (n cap:Nat) (xs:List Value):Rd (c9 e size a n cap xs) (oad a) size n xs:=by
 intro h s;obtain⟨h0,h1⟩:=s;refine⟨h0,λhn=>?_⟩;cases a with
 | none=>omega
 | some g=>
  obtain⟨cur,q1,q2,q3,q4,q5⟩:=h1;exact⟨g,0,cur,e,(0,0),rfl,q1,by simpa using q5⟩
theorem V3 (b t:Nat) (cs:List Value) (size n:Nat) (h:cs.length=n*size):Rd (.pt b t cs) (some ⟨b,0,none⟩) size n cs:=by
 intro h' s;exact⟨h,λ_=>⟨b,0,cs.toArray,t,(0,0),rfl,s,by simp[<- h]⟩⟩
theorem Rd.take {A:Atom} {a:Option Addr} {size n:Nat} {xs:List Value} (h:Rd A a size n xs) (k:Nat) (hk:k<=n):Rd A a size k (xs.take (k*size)):=by
 intro h' s;obtain⟨h0,h1⟩:=h h' s;have hle:k*size<=n*size:=Nat.mul_le_mul_right _ hk;refine⟨by rw[List.length_take,h0];omega,λhk0=>?_⟩;obtain⟨b,o,cs,ty,fr,e1,e2,e3⟩:=h1 (by omega);refine⟨b,o,cs,ty,fr,e1,e2,?_⟩;rw[<- e3,List.take_take,Nat.min_eq_left hle]
section
variable {P : Program} {T : Tab} {E : Env} {n : Nat} {a : Act} {w : World}
theorem a1Z {b o size m:Nat} {xs:List Value} (hb:rdP (some ⟨b,o,none⟩) size m xs (hl w)) (hm:0<m) {j:Nat} {v:Value} (hv:xs[j]? =some v):w.cell? ⟨b,o+j,none⟩=some v:=by
 obtain⟨b',o',cs,ty,fr,e1,e2,e3⟩:=hb.2 hm;simp only[Option.some.injEq,Addr.mk.injEq,and_true]at e1;obtain⟨rfl,rfl⟩:=e1;rw[cell_of_row w b (o+j) cs ty fr e2];rw[<- e3,List.getElem?_take]at hv;split at hv
 ·rw[List.getElem?_drop]at hv;simpa using hv
 ·cases hv
theorem Y3 (hT:TabOK P T) {oo:Oper} {t:TypeId} {x:Operand} {k tg b off o j size m:Nat} {g:G} {ti:TI} {xs l:List Value} (hop:oo.op= .load t x) (hx:ev E x=some ⟨k, .pointer (some ⟨b,off,none⟩),tg,g⟩) (he:EnvOK n E a) (hg:g.on=true) (hti:T.get t=some ti) (h1:ti.d.one=false)
  (hb:rdP (some ⟨b,o,none⟩) size m xs (hl w)) (hm:0<m) (hoff:off=o+j) (hv:(xs.drop j).take ti.size=l) (hl:l.length=ti.size):(execOp a.eval oo).run P w= .ok (.value (.agg l.toArray)) w:=by
 have ex:=i6 he hx;simp only[Slot.val,hg]at ex;obtain⟨d,f,z,ok⟩:=g7 (hT.get hti);have hmm:=ok.many h1;have hr:w.rangeAt b off l:=by
  intro i v hi;subst hoff;rw[<- hv,List.getElem?_take]at hi;split at hi
  ·rw[List.getElem?_drop]at hi;rw[Nat.add_assoc];exact a1Z hb hm hi
  ·cases hi
 have hr2:=run_loadVar_mid (P:=P) w b off t l d hr ok.hd (by cases d<;>simp_all [D8,TypeDesc.isRow]) (by rw[ok.hf];simp[hl,ok.hsize]);simp only[execOp,hop,ex,Instr.loadAt,Instr.sureAddr,Sem.run_bind,Sem.run_pure,Result.andThen_ok,hr2]
theorem a5j (hT:TabOK P T) {oo:Oper} {t:TypeId} {x:Operand} {k tg b off o j size m:Nat} {g:G} {ti:TI} {xs:List Value} {v:Value} (hop:oo.op= .load t x) (hx:ev E x=some ⟨k, .pointer (some ⟨b,off,none⟩),tg,g⟩) (he:EnvOK n E a) (hg:g.on=true) (hti:T.get t=some ti) (h1:ti.d.one=true)
  (hb:rdP (some ⟨b,o,none⟩) size m xs (hl w)) (hm:0<m) (hoff:off=o+j) (hv:xs[j]? =some v):(execOp a.eval oo).run P w= .ok (.value v) w:=by
 have ex:=i6 he hx;simp only[Slot.val,hg]at ex;obtain⟨d,f,z,ok⟩:=g7 (hT.get hti);subst hoff;simp only[execOp,hop,ex,Instr.loadAt,Instr.sureAddr,Sem.run_bind,Sem.run_pure,Result.andThen_ok,O1 ok.hd (ok.one h1) (a1Z hb hm hv)]
end
section
variable {X : Cx} {P : Program} {T : Tab} {K : List KI} {E : Env} {L : List Atom} {N : Nat} {F : HP} {Post : Value → List Atom → Prop} {rs : List ResultVar}
theorem J.appendR (hX:IsCx X P rs N F Post) (hT:TabOK P T) {ops:Array Oper} {C:Cl} {lt:Bool} {i:Nat} {t:PT} {o:Oper} {g:G} {x y:Operand} {st e size by_:Nat} {ks tgs:Nat} {gs:G} {a:Option Nat} {n cap:Nat} {xs:List Value} {ky tgy:Nat} {gy:G} {b oo m c:Nat} {cs:List Value} {s1 b1:Nat} {z1:List Value} {E':Value->Env} {Ay:Atom} (is iy tag:Nat)
  (ho:n4 ops.toList i=some o) (hg:gd ops.toList E o=some g) (hgo:g.on=true) (hop:o.op= .call ⟨.builtin .append,#[x,y],#[st,st]⟩)
  (hx:ev E x=some ⟨ks,slv a n cap,tgs,gs⟩) (hvx:gs.on=true) (hy:ev E y=some ⟨ky, .slice (some ⟨b,oo,none⟩) m c,tgy,gy⟩) (hvy:gy.on=true)
  (hLs:n4 L is=some (c9 e size a n cap xs)) (hLy:n4 L iy=some Ay) (hrd:Rd Ay (some ⟨b,oo,none⟩) size m cs) (hst:T.get st=some ⟨.slice e size,s1,z1,b1⟩) {td:TD} {z:List Value} (he:T.get e=some ⟨td,size,z,by_⟩) (hz:Nat.beq z.length size=true)
  (hsz:Nat.blt 0 size=true) (h1:∀u∈cs,u.oneCell'=true) (h63:n+m<=maxLen) (hbytes:(n+m)*by_<=140737488355328)
  (hd:∀v,B8 N o.dst v tag .tt E=some (E' v))
  (hJ:∀a' cap',∃L',A4 L is (c9 e size a' (n+m) cap' (xs++cs))=some L'/\Conj (n9 lt C L')/\J X (.reg ops C t::K) (E' (slv a' (n+m) cap')) L'):J X (.reg ops C (.alt lt i t .non)::K) E L:=by
 refine J.op hX (S:=λv L'=>∃a' cap',v=slv a' (n+m) cap'/\L'=L.set is (c9 e size a' (n+m) cap' (xs++cs))) tag ho hg hgo (λa0 w hen hs=>?_) hd (λv L' ⟨a',cap',e1,e2⟩=>by subst e1;subst e2;obtain⟨L2,q1,q2⟩:=hJ a' cap';rw[<- y8 q1];exact q2);obtain⟨d,f,zv,ok⟩:=g7 (hT.get hst);obtain⟨fe,rfl,g1,g2⟩:=ok.slice rfl;obtain⟨d',f',zv',ok'⟩:=g7 (hT.get he);have hf:fe=f':=by have:=g1.symm.trans ok'.hf;injection this
 subst hf;have hzz:z=zv'.cells.toList:=ok'.hzero;subst hzz;rw[m9]at hLs hLy;have hrow:=a2K (hs.get hLs);have hrd2:=hrd _ (hs.get hLy);have hnews:∀j u,cs[j]? =some u->w.cell? ((⟨b,oo,none⟩:Addr).add j)=some u:=λj u hu=>by
  rw[Addr.add_none];refine a1Z hrd2 ?_ hu;rcases Nat.eq_zero_or_pos m with h0 | h0
  ·have:=hrd2.1;rw[h0,Nat.zero_mul]at this;rw[List.eq_nil_of_length_eq_zero this]at hu;simp at hu
  ·exact h0
 obtain⟨v',w',r1,r2,r3,_,r5⟩:=run_append_own_at (P:=P) w 0 st o.type e fe zv' size by_ ok.hd ok'.hf ok'.hz g2 ok'.hbytes.symm (by have:=Nat.eq_of_beq_eq_true hz;simpa using this) (Nat.le_of_ble_eq_true hsz) _ n xs hrow ⟨b,oo,none⟩ m c cs hrd2.1 hnews h1 h63 hbytes (Nat.zero_le _);obtain⟨a',cap',e1,e2,e3⟩:=a6k r2;subst e1;have ex:=i6 hen hx;have ey:=i6 hen hy;simp only[Slot.val,hvx,hvy]at ex ey;refine⟨_,_, .value (slv a' (n+m) cap'),w',⟨a',cap',rfl,rfl⟩,?_, .inl rfl,?_,Ext.grown r3⟩
 ·simp only[execOp,hop,resolve,Sem.run_bind,Sem.run_pure,Result.andThen_ok,invoke,builtin,List.map_toArray,List.map_cons,List.map_nil,ex,ey,r1]
 ·refine Sep.step hs hLs (x:=(slv a n cap).ownBlock) (x':=a') (λh g0 hh he0=>?_) r3 (by rw[<- e3];exact r5) (λh hh=>⟨e2.1,?_⟩)
  ·cases a with
   | none=>simp[slv,Value.ownBlock]at he0
   | some ga=>
    simp only[slv,Value.ownBlock,Option.some.injEq]at he0;subst he0;obtain⟨cur,h1,_⟩:=hh.2;exact⟨_,h1⟩
  ·have e22:=e2.2;cases a' with
   | none=>exact e22
   | some ga=>
    obtain⟨cur,q1,q2⟩:=e22;exact⟨cur,(hh ga rfl).trans q1,q2⟩
end
theorem a9W {w:World} {g:Nat} {cur cs:Array Value} {t:TypeId} (h:w.heap[g]? =some (.cells cur t (0,0))):hl (w.setRow g cs)=A5 (hl w) g (.cells cs t (0,0)):=by
 funext x;unfold A5
 by_cases e:x=g
 ·subst e;rw[if_pos rfl];exact setRow_heap w x cur cs t _ h
 ·rw[if_neg e];exact setRow_other w g x _ e
section
variable {X : Cx} {P : Program} {T : Tab} {K : List KI} {E : Env} {L : List Atom} {N : Nat} {F : HP} {Post : Value → List Atom → Prop} {rs : List ResultVar}
theorem J.copy (hX:IsCx X P rs N F Post) (hT:TabOK P T) {ops:Array Oper} {C:Cl} {lt:Bool} {i:Nat} {t:PT} {o:Oper} {g:G} {x y:Operand} {dT sT e by_:Nat} {kx tx ky ty:Nat} {gx gy:G} {b off dl dc b2 oo sl sc tb:Nat} {old xs:List Value} {s1 b1:Nat} {z1:List Value} {E':Value->Env} {Ay:Atom} (is iy:Nat)
  (ho:n4 ops.toList i=some o) (hg:gd ops.toList E o=some g) (hgo:g.on=true) (hop:o.op= .call ⟨.builtin .copy,#[x,y],#[dT,sT]⟩)
  (hx:ev E x=some ⟨kx, .slice (some ⟨b,off,none⟩) dl dc,tx,gx⟩) (hvx:gx.on=true) (hy:ev E y=some ⟨ky, .slice (some ⟨b2,oo,none⟩) sl sc,ty,gy⟩) (hvy:gy.on=true)
  (hLx:n4 L is=some (.pt b tb old)) (hLy:n4 L iy=some Ay) (hrd:Rd Ay (some ⟨b2,oo,none⟩) 1 sl xs) (hst:T.get dT=some ⟨.slice e 1,s1,z1,b1⟩) {td:TD} {z:List Value} (he:T.get e=some ⟨td,1,z,by_⟩)
  (cs:List Value) (hcs:xs.take (Nat.min sl dl)=cs) (hlt:off+cs.length<=old.length) (h1:∀u∈xs,u.oneCell'=true) (cs':List Value) (hcs':old.take off++cs++old.drop (off+cs.length)=cs') {L2:List Atom} (hL2:A4 L is (.pt b tb cs')=some L2)
  (hd:∀v,B8 N o.dst v 0 .tt E=some (E' v)) (hJ:Conj (n9 lt C L2)/\J X (.reg ops C t::K) (E' (goInt cs.length)) L2):J X (.reg ops C (.alt lt i t .non)::K) E L:=by
 refine J.op hX (S:=λv' L'=>v'=goInt cs.length/\L'=L.set is (.pt b tb cs')) 0 ho hg hgo (λa0 w hen hs=>?_) hd (λv L' ⟨e1,e2⟩=>by subst e1;subst e2;rw[<- y8 hL2];exact hJ);rw[m9]at hLx hLy;have ex:=i6 hen hx;have ey:=i6 hen hy;simp only[Slot.val,hvx,hvy]at ex ey;obtain⟨d,f,zv,ok⟩:=g7 (hT.get hst);obtain⟨fe,rfl,g1,g2⟩:=ok.slice rfl;have hblk:Blk w b tb old.toArray:=hs.pt hLx;have hrd2:=hrd _ (hs.get hLy);have hxl:xs.length=sl:=by rw[hrd2.1,Nat.mul_one]
 have hn:cs.length=Nat.min sl dl:=by
  rw[<- hcs,List.length_take,hxl];exact Nat.min_eq_left (Nat.min_le_left sl dl)
 have hsrc:∀j v,cs[j]? =some v->w.cell? ((⟨b2,oo,none⟩:Addr).add j)=some v:=λj u hu=>by
  have hj:j<cs.length:=(List.getElem?_eq_some_iff.1 hu).1;rw[<- hcs,List.getElem?_take]at hu;split at hu
  ·rw[Addr.add_none];refine a1Z hrd2 ?_ hu;have:=(List.getElem?_eq_some_iff.1 hu).1;omega
  ·cases hu
 have h1':∀v∈cs,v.oneCell'=true:=λv hv=>h1 v (by rw[<- hcs]at hv;exact List.mem_of_mem_take hv);have hsz:(P.info? e).map (·.size)=some 1:=by rw[g1];exact congrArg some g2
 have hrun:=run_copy_row (P:=P) w dT sT o.type e b off dl dc ⟨b2,oo,none⟩ sl sc old.toArray tb cs ok.hd hsz hblk hn hsrc (by simpa using hlt) h1';have harr:(old.toArray.toList.take off++cs++old.toArray.toList.drop (off+cs.length)).toArray=cs'.toArray:=congrArg List.toArray hcs';rw[harr]at hrun;refine⟨_,_, .value (goInt cs.length),w.setRow b cs'.toArray,⟨rfl,rfl⟩,?_, .inl rfl,?_,Ext.grown (a5B w b _)⟩
 ·simp only[execOp,hop,resolve,Sem.run_bind,Sem.run_pure,Result.andThen_ok,invoke,builtin,List.map_toArray,List.map_cons,List.map_nil,ex,ey,hrun]
 ·rw[a9W hblk];exact hs.setPt cs' hLx
end
end Go.Proofs.YtpohajhbfllbbaaGreat
namespace Go.Proofs.YtpohajhbfllbbaaGreat
open Go.RowKit

theorem b5e (s:Nat) (h:s<2147483648):bits .and .u32 (s:Int) 2147483648=0:=by
 rw[show(2147483648:Int)=((2147483648:Nat):Int)from rfl,u32_and_nat _ _ (by omega) (by omega),show(2147483648:Nat)=2^31 from rfl,nat_bit];have:s/2^31=0:=by omega
 rw[this];rfl
theorem b3s (s:Nat) (h:2147483648<=s) (h2:s<4294967296):bits .and .u32 (s:Int) 2147483648=2147483648:=by
 rw[show(2147483648:Int)=((2147483648:Nat):Int)from rfl,u32_and_nat _ _ (by omega) (by omega),show(2147483648:Nat)=2^31 from rfl,nat_bit];have:s/2^31=1:=by omega
 rw[this]

set_option maxRecDepth 100000 in
set_option maxHeartbeats 400000 in
theorem a4x (s x:Nat) (hs:s<4294967296) (hx:x<256) (w:World):
  Calls Tryz.prog 264 #[.int .u32 s, .int .u8 x] w λe w'=>e= .returned (.int .u32 (K.step s x))/\w=w':=by
 have e1:IntKind.u32.wrap ((x:Int)*16777216)=((x*16777216:Nat):Int):=by rw[IntWalk.u32_in _ (by omega)];omega
 have e2:bits .xor .u32 (s:Int) ((x*16777216:Nat):Int)=((s ^^^ x*16777216:Nat):Int):=u32_xor_nat _ _ hs (by omega);have hlt0:s ^^^ x*16777216<4294967296:=Nat.xor_lt_two_pow (n:=32) (by omega) (by omega);have hst:=Lib.hid (show K.step s x=K.rounds 8 (s ^^^ x*16777216)from rfl);generalize s ^^^ x*16777216=s0 at*;generalize hX:x*16777216=X at*;have HX:=Lib.hid hX;clear hX
 go_enter Tryz.func264,Tryz.ntmps264
 go_wp2
 go_loop [0,11] (λv c=>∃k:Nat,k<=8/\c= .int .i64 k/\v= .int .u32 (K.rounds k s0)) (λ_ c=>8-(intOf c).toNat)
 case atStart=>exact⟨0,by omega,rfl,rfl⟩
 case round=>
  obtain⟨k,hk,rfl,rfl⟩:=hrel;clear e1 e2
  by_cases hlt:k<8
  ·have hr:=K.rounds_lt k s0 hlt0;have hn:K.round (K.rounds k s0)=K.rounds (k+1) s0:=rfl;generalize K.rounds k s0=t at*
   by_cases ht:t<2147483648
   ·have e3:=b5e t ht;have e4:K.round t=t*2:=by simp[K.round,ht]
    have Hn:=Lib.hid (e4.symm.trans hn);clear e4 hn
    go_wp2
    go_round
    case rel=>exact⟨k+1,by omega,by go_num,by rw[<- Hn.out];go_num⟩
    case measure=>simp[intOf];omega
   ·have e3:=b3s t (by omega) hr;have e4:K.round t=(t*2 % 4294967296) ^^^ 1947962583:=by simp[K.round,ht]
    have e5:bits .xor .u32 ((t*2 % 4294967296:Nat):Int) 1947962583=(((t*2 % 4294967296) ^^^ 1947962583:Nat):Int):=u32_xor_nat _ 1947962583 (by omega) (by omega);have e6:IntKind.u32.wrap ((t:Int)*2)=((t*2 % 4294967296:Nat):Int):=by rw[IntKind.wrap_u32'];omega
    have Hn:=Lib.hid (e4.symm.trans hn);clear e4 hn;generalize t*2 % 4294967296=t2 at*;generalize t2 ^^^ 1947962583=t3 at*
    go_wp2
    go_round
    case rel=>exact⟨k+1,by omega,by go_num,by rw[<- Hn.out]⟩
    case measure=>simp[intOf];omega
  ·have:k=8:=by omega
   subst this
   go_wp2
   go_ret
   exact⟨by rw[hst.out];rfl,rfl⟩

end Go.Proofs.YtpohajhbfllbbaaGreat
