/- Helpers. No condition. -/
import Derived.Test.YtmafiplddapokaaGreatU05
import Derived.Laws.AppendOwn
set_option maxRecDepth 20000
set_option linter.all false
namespace Go.Proofs.YtmafiplddapokaaGreat
section
open Go Go.RowKit
theorem Sep.pack {A:Atom} {Pre:List Atom} {h:Hl} (s:Sep (A::Pre) h):Sep [A, .hp (HP.of Pre)] h:=by
 obtain⟨own,hw⟩:=s;refine⟨λb=>min (own b) 1,λi B hB=>?_⟩
 match i,hB with
 | 0,hB=>
  simp at hB;subst hB;refine Atom.up (λb o hb=>?_) (hw 0 A rfl);rw[res_some]at hb ⊢;exact⟨by rw[hb.1];rfl,hb.2⟩
 | 1,hB=>
  simp at hB;subst hB;refine⟨λb=>own b-1,λj B hB=>?_⟩;refine Atom.up (λb o hb=>?_) (hw (j+1) B (by simpa using hB));rw[res_some]at hb ⊢;refine⟨by rw[hb.1];rfl,?_⟩;rw[res_some];exact⟨by rw[hb.1];omega,hb.2⟩
 | k+2,hB=>simp at hB
theorem Sep.unpack {A:Atom} {Pre:List Atom} {h:Hl} (s:Sep [A, .hp (HP.of Pre)] h):Sep (A::Pre) h:=by
 obtain⟨own,hw⟩:=s;obtain⟨own2,hw2⟩:Sep Pre (res h own 1):=hw 1 _ rfl;refine⟨λb=>if own b=1 then own2 b+1 else 0,λi B hB=>?_⟩;cases i with
 | zero=>
  simp at hB;subst hB;refine Atom.up (λb o hb=>?_) (hw 0 A rfl);rw[res_some]at hb ⊢;exact⟨by rw[d6 (by omega)],hb.2⟩
 | succ j=>
  refine Atom.up (λb o hb=>?_) (hw2 j B (by simpa using hB));rw[res_some]at hb ⊢;have h1:=res_some.1 hb.2;exact⟨by rw[d8 h1.1,hb.1],h1.2⟩
theorem Fn.pack {P:Program} {f:FuncId} {args:List Value} {Pre:List Atom} {q:Value->Prop} (c:Fn P f args Pre (λv As=>q v/\As=Pre)):Fn P f args [.hp (HP.of Pre)] (λv As=>q v/\As=[.hp (HP.of Pre)]):=by
 intro F w s;refine Calls.mono (c F w (Sep.unpack s)) λe w' ⟨v,As,h1,h2,h3,h4⟩=>?_;obtain⟨h5,rfl⟩:=h2;exact⟨v,_,h1,⟨h5,rfl⟩,Sep.pack h3,h4⟩
section
variable {X : Cx} {P : Program} {T : Tab} {K : List KI} {E : Env} {L : List Atom} {N : Nat} {F : HP} {Post : Value → List Atom → Prop} {rs : List ResultVar}
theorem J.clear (hX:IsCx X P rs N F Post) (hT:TabOK P T) {ops:Array Oper} {C:Cl} {lt:Bool} {i:Nat} {t:PT} {o:Oper} {g:G} {x:Operand} {k1 t1 b off n c st e ty size s1 b1 by_:Nat} {g1:G} {z z1:List Value} {td:TD} {cs:List Value} {E':Value->Env} {L2:List Value->List Atom} (is:Nat)
  (ho:J3 ops.toList i=some o) (hg:gd ops.toList E o=some g) (hgo:g.on=true) (hop:o.op= .call ⟨.builtin .clear,#[x],#[st]⟩) (hx:ev E x=some ⟨k1, .slice (some ⟨b,off,none⟩) n c,t1,g1⟩) (v1:g1.on=true)
  (hst:T.get st=some ⟨.slice e size,s1,z1,b1⟩) (he:T.get e=some ⟨td,size,z,by_⟩) (hz:Nat.beq z.length size=true) (hz1:z.all (·.oneCell')=true) (hL:J3 L is=some (.pt b ty cs)) (hlt:off+n*size<=cs.length)
  (hL2:∀cs',U3 L is (.pt b ty cs')=some (L2 cs')) (hd:∀v,W5 N o.dst v 0 .tt E=some (E' v))
  (hJ:∀cs',cs'.length=cs.length->cs'.take off=cs.take off->Conj (M3 lt C (L2 cs'))/\J X (.reg ops C t::K) (E' (.tuple #[])) (L2 cs')):J X (.reg ops C (.alt lt i t .non)::K) E L:=by
 refine J.op hX (S:=λv' L'=>∃cs',cs'.length=cs.length/\cs'.take off=cs.take off/\v'= .tuple #[]/\L'=L.set is (.pt b ty cs')) 0 ho hg hgo (λa0 w hen hs=>?_) hd (λv L' ⟨cs',q1,q2,e1,e2⟩=>by subst e1;subst e2;rw[<- T8 (hL2 cs')];exact hJ cs' q1 q2);rw[J2]at hL;have ex:=C5 hen hx;simp only[Slot.val,v1]at ex;obtain⟨d,f,zv,ok⟩:=B4 (hT.get hst);obtain⟨fe,rfl,g1',g2'⟩:=ok.slice rfl;obtain⟨d',f',zv',ok'⟩:=B4 (hT.get he);have hzl:zv'.cells.toList=z:=ok'.hzero.symm;have hzn:zv'.cells.size=size:=by rw[<- Q8,hzl];exact C8 hz
 have hblk:Blk w b ty cs.toArray:=hs.pt hL;cases n with
 | zero=>
  refine⟨_,L.set is (.pt b ty cs), .value (.tuple #[]),w,⟨cs,rfl,rfl,rfl,rfl⟩,?_, .inl rfl,?_,Ext.refl _⟩
  ·simp[execOp,hop,ex,resolve,invoke,builtin,Builtin.clear_,s8 ok.hd]
  ·have e:L.set is (.pt b ty cs)=L:=by
    apply x9;intro j;rw[z8];split
    ·rename_i e;subst e;rw[d8 (List.getElem?_eq_some_iff.1 hL).1,hL]
    ·rfl
   rw[e];exact hs
 | succ n=>
  have hlen:(Builtin.zeroCells zv'.cells (n+1)).toList.length=(n+1)*size:=by rw[Q8,size_zeroCells,hzn]
  have hall:(Builtin.zeroCells zv'.cells (n+1)).toList.all (·.oneCell')=true:=by
   rw[D9];intro u hu;simp only[Builtin.zeroCells,Q0,P9]at hu;obtain⟨k,hk,rfl⟩:=hu;have hk':k<(n+1)*zv'.cells.size:=by simpa using hk
   have hpos:0<zv'.cells.size:=by
    rcases P5 zv'.cells.size with h0 | h0
    ·rw[h0]at hk';omega
    ·exact h0
   have hm:=a3t k hpos;rw[a4L zv'.cells (k % zv'.cells.size) hm];rw[D9]at hz1;apply hz1;rw[<- hzl];simp
  obtain⟨w',r1,r2,r3⟩:=Y3 (P:=P) (o:=off) (Builtin.zeroCells zv'.cells (n+1)).toList 0 w cs _ hblk (by rw[R3];exact a8a cs off _ (by rw[hlen];exact hlt)) hall;have hr:(execOp a0.eval o).run P w= .ok (.value (.tuple #[])) w':=by
   simp[execOp,hop,ex,resolve,invoke,builtin,Builtin.clear_,s8 ok.hd,a3y ok'.hf ok'.hz,r1]
  clear r1;generalize Builtin.zeroCells zv'.cells (n+1)=Z at hlen r2;have k1:(cs.take off++Z.toList++cs.drop (off+Z.toList.length)).length=cs.length:=by
   simp only[f8,j9,C1,hlen];omega
  have k2:(cs.take off++Z.toList++cs.drop (off+Z.toList.length)).take off=cs.take off:=by
   rw[m7,List.take_append_of_le_length (by simp;omega),a5D,Nat.min_self]
  refine⟨_,L.set is (.pt b ty (cs.take off++Z.toList++cs.drop (off+Z.toList.length))), .value (.tuple #[]),w',⟨_,k1,k2,rfl,rfl⟩,?_, .inl rfl,?_,r3⟩
  ·exact hr
  ·rw[r2];exact hs.setPt _ hL
end
def fnC (c:Nat) (cs:List Value):Value:= .func (.func c) #[] cs.toArray
def b9H (p:A3->Bool) (l:List A3):Int:=match l.findIdx? p with
 | some k=>k
 | none=> -1
theorem a8y {l:List A3} {k:Nat} {x:A3} (h:l[k]? =some x):((D7 l).drop (k*3)).take 3=[iI x.1,iI x.2.1,iI x.2.2]:=by
 have:=X3 l [] k x h
 rwa [m6]at this
theorem b7A {p:A3->Bool} {l:List A3} {k:Nat} {x:A3} (h:l[k]? =some x) (h0:∀i<k,p (l.getD i d3)=false) (hp:p x=true):l.findIdx? p=some k:=by
 rw[n9];obtain⟨h1,h2⟩:=List.getElem?_eq_some_iff.1 h;refine⟨h1,by rw[h2];exact hp,λj hj=>?_⟩;have:=h0 j hj;rw[d7,c9 (by omega),j3]at this;simp[this]
theorem b7B {p:A3->Bool} {l:List A3} (h0:∀i<l.length,p (l.getD i d3)=false):l.findIdx? p=none:=by
 rw[D0];intro x hx;obtain⟨i,hi,rfl⟩:=List.mem_iff_getElem.1 hx;have:=h0 i hi
 rwa [d7,c9 hi,j3]at this
theorem b8y (c:Nat) (cs:List Value) (p:A3->Bool) (A:Atom) (hcal:K0 Tryz.prog c=true) (hf:∀x,Fn Tryz.prog c (a1v x::cs) [A] (λv As=>v= .bool (p x)/\As=[A]))
  (a:Option Nat) (n cap:Nat) (l:List A3) (hl:l.length=n) (hn:n<=4611686018427387904):FP 264 [slv a n cap,fnC c cs] [m9 39 3 a n cap (D7 l),A]
  (λv As=>v=iI (b9H p l)/\As=[m9 39 3 a n cap (D7 l),A]):=by
 refine FE [0,0] Tryz.func264 λX F hX=>?_;refine J.q λ_=>?_;refine J.l (α:=Nat) (λk=>k<=n/\∀i<k,p (l.getD i d3)=false) (λk=>[si 8 k,si 7 n,sv 0 (slv a n cap),⟨1,fnC c cs,0, .tt⟩]) [] (λk=>[]) (λk=>n-k) (0) (⟨by omega,by omega⟩) λk hI=>?_;refine J.qd (λ_ h1=>?_) λ_ h1=>?_
 ·simp only[d5,i5]at h1;cases a with
  | none=>
   refine J.know (λh' s=>(s.get (i:=1) rfl).2.1) λhn0=>?_;omega
  | some g=>
   have hk:l[k]? =some (l.getD k d3):=by rw[d7,c9 (by omega),j3]
   refine J.q λ_=>?_;refine J.v (a1v (l.getD k d3)) rfl rfl (λhg a w he hs=>?_) ?_
   ·exact J8 tk rfl rfl he rfl rfl rfl (hs.get (i:=1) rfl) (by rw[show 0+(k:Int).toNat*3=k*3 from by omega];exact a8y hk) rfl
   refine J.q λ_=>?_;refine J.call hX hcal (hf (l.getD k d3)) [2] 0 rfl rfl rfl rfl (by(repeat' (first | exact Conj.nil | refine Conj.cons ?_ ?_ | omega | exact hq0 | (simpa using hq0) | (exactλh=>h) | exact rfl | (intro hq;have hq0:=hq;try simp only[f7,j6,d5,i4,c8]at hq) | (simp;done) | (simp;omega) | decide))) rfl rfl (λ_=>rfl) ?_;refine cpq ⟨_,rfl,trivial,?_⟩;refine J.qd (λ_ h2=>?_) λ_ h2=>?_
   ·refine J.qr [1,2] λ_=>?_;exact⟨by rw[b9H,b7A hk hI.2 h2],rfl⟩
   ·refine J.q λ_=>?_;refine J.nx (k+1) (⟨by omega,λi hi=>by
     rcases Nat.lt_succ_iff_lt_or_eq.1 hi with h3 | h3
     ·exact hI.2 i h3
     ·rw[h3];exact h2⟩) (by omega) (λ_ s=>s)
 ·simp only[c8,i5]at h1;refine J.qr [1,2] λ_=>?_;exact⟨by rw[b9H,b7B (λi hi=>hI.2 i (by omega))],rfl⟩
def DelI (p:A3->Bool) (l m:List A3) (i j:Nat):Prop:=m.length=l.length/\i<j/\j<=l.length/\m.drop j=l.drop j/\m.take i++(l.drop j).filter (λx=>!p x)=l.filter (λx=>!p x)
theorem DelI.start {p:A3->Bool} {l:List A3} {k:Nat} (h:l.findIdx? p=some k):DelI p l l k (k+1):=by
 rw[n9]at h;obtain⟨h1,h2,h3⟩:=h;refine⟨rfl,by omega,by omega,rfl,?_⟩;have e:l=l.take k++l[k]::l.drop (k+1):=by rw[<- t6 h1,C9]
 have e2:(l.take k).filter (λx=>!p x)=l.take k:=by
  rw[W2];intro x hx;obtain⟨i,hi,rfl⟩:=List.mem_iff_getElem.1 hx;rw[a0a];have:=h3 i (by simp at hi;omega);simpa using this
 conv=>rhs;rw[e]
 rw[R7,e2,S9 (by simp[h2])]
theorem DelI.skip {p:A3->Bool} {l m:List A3} {i j:Nat} (h:DelI p l m i j) (hj:j<l.length) (hp:p (m.getD j d3)=true):DelI p l m i (j+1):=by
 obtain⟨h1,h2,h3,h4,h5⟩:=h;have e1:m[j]? =l[j]?:=by have:=congrArg (λz=>z[0]?) h4;simpa using this
 have hx:l[j]=m.getD j d3:=by rw[d7,e1,c9 hj,j3]
 refine⟨h1,by omega,by omega,?_,?_⟩
 ·have:=congrArg (List.drop 1) h4;simpa[C0]using this
 ·rw[<- h5,t6 hj,S9 (by rw[hx,hp];simp)]
theorem DelI.keep {p:A3->Bool} {l m:List A3} {i j:Nat} (h:DelI p l m i j) (hj:j<l.length) (hp:p (m.getD j d3)=false):DelI p l (m.set i (m.getD j d3)) (i+1) (j+1):=by
 obtain⟨h1,h2,h3,h4,h5⟩:=h;have e1:m[j]? =l[j]?:=by have:=congrArg (λz=>z[0]?) h4;simpa using this
 have hx:l[j]=m.getD j d3:=by rw[d7,e1,c9 hj,j3]
 refine⟨by simp[h1],by omega,by omega,?_,?_⟩
 ·rw[List.drop_set_of_lt (by omega)];have:=congrArg (List.drop 1) h4;simpa[C0]using this
 ·rw[<- h5,t6 hj,a2v (by rw[hx,hp];simp),hx,a3U,D3,c9 (by omega)];rw[R0 _ _ (by simp;omega)];simp[j9,L8 (show i<=m.length by omega)]
theorem b1d (c:Nat) (cs:List Value) (p:A3->Bool) (A:Atom) (hcal:K0 Tryz.prog c=true) (hf:∀x,Fn Tryz.prog c (a1v x::cs) [A] (λv As=>v= .bool (p x)/\As=[A]))
  (a:Option Nat) (n cap:Nat) (l:List A3) (hl:l.length=n) (hn:n<=4611686018427387904):FP 248 [slv a n cap,fnC c cs] [m9 39 3 a n cap (D7 l),A]
  (λv As=>∃l',l'=l.filter (λx=>!p x)/\v=slv a l'.length cap/\As=[m9 39 3 a l'.length cap (D7 l'),A]):=by
 refine FE [0,0] Tryz.func248 λX F hX=>?_;refine J.qp (b8y c cs p A hcal hf a n cap l hl hn) [1,2] λ_=>?_;rw[b9H];cases hx:l.findIdx? p with
 | none=>
  dsimp only;refine J.qT λ_=>?_;refine J.qr [1,2] λ_=>?_;have:l.filter (λx=>!p x)=l:=by
   rw[W2];intro x hm;rw[D0]at hx;simp[hx x hm]
  exact⟨l,this.symm,by rw[hl],by rw[hl];rfl⟩
 | some k=>
  dsimp only;refine J.qd (λ_ h0=>?_) λ_ h0=>?_
  ·simp only[A4]at h0;omega
  have hk:k<n:=by rw[n9]at hx;obtain⟨h1,_⟩:=hx;omega
  cases a with
  | none=>
   refine J.know (λh' s=>(s.get (i:=1) rfl).2.1) λhn0=>?_;omega
  | some g=>
   refine J.openOwn 1 rfl rfl (λ_=>rfl) λr q1 q2 q3 q4=>?_;refine J.q λ_=>?_;rw[show(k:Int)+1=((k+1:Nat):Int)from by omega];refine J.q λ_=>?_;refine J.l (α:=(Nat×Nat×List A3)) (λx=>DelI p l x.2.2 x.1 x.2.1) (λx=>[si 6 x.2.1,si 5 x.1,sv 0 (slv (some g) n cap),⟨1,fnC c cs,0, .tt⟩]) [1] (λx=>[.pt g 39 (D7 x.2.2++r)]) (λx=>n-x.2.1) ((k,k+1,l)) (DelI.start hx) λx hI=>?_;obtain⟨i,j,m⟩:=x;dsimp only at hI ⊢;have hml:m.length=n:=hI.1.trans hl;have hij:i<j:=hI.2.1;have hjn:j<=n:=by have:=hI.2.2.1;omega
   refine J.qd (λ_ h1=>?_) λ_ h1=>?_
   ·simp only[d5,i5]at h1;have hget:m[j]? =some (m.getD j d3):=by rw[d7,c9 (by omega),j3]
    refine J.q λ_=>?_;refine J.v (a1v (m.getD j d3)) rfl rfl (λhg a w he hs=>?_) ?_
    ·exact H9 tk rfl rfl he rfl rfl rfl (hs.get (i:=1) rfl) (by rw[show 0+(j:Int).toNat*3=j*3 from by omega];exact X3 m r _ _ hget) rfl
    refine J.q λ_=>?_;refine J.call hX hcal (hf (m.getD j d3)) [2] 0 rfl rfl rfl rfl (by(repeat' (first | exact Conj.nil | refine Conj.cons ?_ ?_ | omega | exact hq0 | (simpa using hq0) | (exactλh=>h) | exact rfl | (intro hq;have hq0:=hq;try simp only[f7,j6,d5,i4,c8]at hq) | (simp;done) | (simp;omega) | decide))) rfl rfl (λ_=>rfl) ?_;refine cpq ⟨_,rfl,trivial,?_⟩;refine J.qd (λ_ h2=>?_) λ_ h2=>?_
    ·simp only[i4]at h2;refine J.q λ_=>?_;refine J.storeN hX tk 1 rfl rfl rfl rfl rfl rfl rfl rfl rfl rfl rfl rfl rfl ?_ (D7 (m.set i (m.getD j d3))++r) ?_ rfl (λ_=>rfl) ⟨trivial,?_⟩
     ·rw[f8,M8];show 0+(i:Int).toNat*3+3<=_;omega
     ·rw[show 0+(i:Int).toNat*3=i*3 from by omega];exact a1b m r i _ (by omega)
     refine J.q λ_=>?_;refine J.n ((i+1,j+1,m.set i (m.getD j d3))) (hI.keep (by omega) h2) (by dsimp only;omega) [0,1,2]
    ·simp only[A9]at h2;refine J.q λ_=>?_;refine J.n ((i,j+1,m)) (hI.skip (by omega) h2) (by dsimp only;omega) [0,1,2]
   ·simp only[c8,i5]at h1;obtain rfl:j=n:=by omega
    have hfil:m.take i=l.filter (λx=>!p x):=by
     have h5:=hI.2.2.2.2;rw[E7 (by omega)]at h5;simpa using h5
    refine J.q λ_=>?_;refine J.clear hX tk 1 rfl rfl rfl rfl rfl rfl rfl rfl rfl rfl rfl ?_ (λ_=>rfl) (λ_=>rfl) λcs' z1 z2=>⟨trivial,?_⟩
    ·rw[f8,M8];rw[M8]at q4;show 0+(i:Int).toNat*3+(j-(i:Int).toNat)*3<=_;have:(i:Int).toNat=i:=by omega
     rw[this];omega
    have hilen:(l.filter (λx=>!p x)).length=i:=by rw[<- hfil,j9];omega
    refine J.closeOwn (e:=39) (size:=3) (n:=i) (cap:=cap) (xs:=D7 (l.filter (λx=>!p x))) 1 rfl rfl (by rw[M8,hilen]) (by omega) q3 (by rw[z1,f8,M8,hml];rw[M8,hl]at q4;exact q4) ?_ rfl ?_
    ·have z3:(0+(i:Int).toNat*3)=i*3:=by omega
     rw[z3]at z2;rw[z2,<- hfil];have e:D7 m=D7 (m.take i)++D7 (m.drop i):=by
      conv=>lhs;rw[<- C9 i m]
      simp only[D7,K1]
     rw[e,m7,D6 (by rw[M8,j9,L8 (by omega)])]
    refine J.qr [1,2] λ_=>?_;exact⟨_,rfl,by rw[hilen];rfl,by rw[hilen];rfl⟩
theorem b6u (b4 b5:Nat) (die blk:Int) (x:A3):FP 250 (a1v x::[pp b4,pp b5]) [.pt b4 3 [iI die], .pt b5 3 [iI blk]]
  (Ps (.bool ((x.1 !=die)||(x.2.1 !=blk))) [.pt b4 3 [iI die], .pt b5 3 [iI blk]]):=by
 refine FE [0,2,3] Tryz.func250 λX F hX=>?_;exact J.qx [1,2]
theorem b8V (q:Nat) (l:List A3) (hl:l.length<=1000) (die blk:Int):FP 220 [pp q,iI die,iI blk] [a1z q l]
  (λv As=>∃a cap l',l'.Perm (l.filter λx=>!((x.1 !=die)||(x.2.1 !=blk)))/\v=slv a l'.length cap/\As=[a1z q l,m9 39 3 a l'.length cap (D7 l')]):=by
 refine FE [2,0,0] Tryz.func220 λX F hX=>?_;refine J.q λbb=>?_;refine J.cb (c1Q q l hl) [1] ?_;rintro v As ⟨a,cap,l',hp,rfl,rfl⟩;refine⟨_,rfl,trivial,?_⟩;refine J.q λ_=>?_;refine J.turn1 [2,3] rfl (As:=[.hp (HP.of [.pt (bb 0) 3 [iI die], .pt (bb 1) 3 [iI blk]])]) (λh s=>Sep.hpOf.2 s) rfl ?_;refine J.q λ_=>?_;refine J.ca hX (by kernel_rfl) (b1d 250 [pp (bb 0),pp (bb 1)] (λx=>(x.1 !=die)||(x.2.1 !=blk)) _ (by kernel_rfl) (λx=>Fn.pack (b6u (bb 0) (bb 1) die blk x)) a l'.length cap l' rfl (by rw[hp.length_eq];omega)) [4,2] 0 rfl rfl rfl rfl rfl rfl (λ_=>rfl) ?_;rintro v As ⟨l2,rfl,rfl,rfl⟩;refine⟨_,rfl,trivial,?_⟩;refine J.qr [1,4] λ_=>?_;exact⟨a,cap,_,hp.filter _,rfl,rfl⟩
def ext (l:List NCell) (m:Nat):List NCell:=l++List.replicate m Nand.zcell
theorem b8c (l:List NCell) (m:Nat):ext l m++[Nand.zcell]=ext l (m+1):=by simp[ext,List.replicate_succ']
theorem a5p (l:List NCell) (m:Nat):(ext l m).length=l.length+m:=by simp[ext]
def a1M (l:List NCell) (k:Nat):List NCell:=(l.take k).map (λc=>{c with lost:=true})++l.drop k
theorem b2R (l:List NCell) (k:Nat):(a1M l k).length=l.length:=by simp[a1M];omega
theorem b1K {l:List NCell} {k:Nat} (h:k<l.length):(a1M l k).modify k (λc=>{c with lost:=true})=a1M l (k+1):=by
 apply x9;intro j;rw[a1s];simp only[a1M,I9,l7,j9,i9,C2,K8]
 by_cases e:k=j
 ·subst e;rw[d6 (by omega),d8 (by omega),d8 (by omega),show k+(k-min k l.length)=k from by omega];rw[c9 h];simp
 ·have e2:(λa:NCell=>if k=j then {a with lost:=true}else a)=id:=by funext a;rw[d6 e];rfl
  simp only[Option.map_eq_map,e2,Option.map_id_fun,id]
  by_cases h1:j<k
  ·rw[d8 (show j<min k l.length by omega),d8 h1,d8 (show j<min (k+1) l.length by omega),d8 (show j<k+1 by omega)]
  ·rw[d6 (show¬j<min k l.length by omega),d6 (show¬j<min (k+1) l.length by omega),show k+(j-min k l.length)=j from by omega,show k+1+(j-min (k+1) l.length)=j from by omega]
theorem a6A:∀(l' pl:List A3),pl.Nodup->l'.foldl List.erase pl=pl.filter (λx=>decide (x∉l'))
 | [],pl,_=>(List.filter_eq_self.2 (by simp)).symm
 | a::l',pl,h=>by
  rw[A6,a6A l' _ (h.erase a),h.erase_eq_filter,List.filter_filter];apply List.filter_congr;intro x _
  by_cases e:x=a
  ·subst e;simp
  ·simp[e]
theorem b5v {l' pl:List A3} {x y:Int} (h:pl.Nodup) (hp:l'.Perm (pl.filter λa=>!((a.1 !=x)||(a.2.1 !=y)))):l'.foldl List.erase pl=pl.filter λa=>!(decide (a.1=x)&&decide (a.2.1=y)):=by
 rw[a6A l' pl h];apply List.filter_congr;intro a ha;have:a∈l'↔(a.1=x/\a.2.1=y):=by
  rw[hp.mem_iff,List.mem_filter];simp[ha]
 by_cases h1:a.1=x/\a.2.1=y
 ·rw[n8 (by rw[this];simpa using h1)];simp[h1]
 ·rw[i6 (by rw[this];exact h1)];simp only[not_and]at h1
  by_cases h2:a.1=x
  ·simp[h2,h1 h2]
  ·simp[h2]
theorem b3b {N:Nand} {x y:Int} (h:N.refuses x y 0=0) (h6:N.cutB=true):N.eraseN x y=N.cutN.setBlk x.toNat y.toNat {N.blk x.toNat y.toNat with cells:=((N.blk x.toNat y.toNat).cells++List.replicate (N.pages-(N.blk x.toNat y.toNat).cells.length) Nand.zcell).map λc=>{c with lost:=true}}:=by
 unfold Nand.eraseN;rw[d6 (by simp[h]),d8 h6]
theorem b2d {N:Nand} {x y:Int} (h:N.refuses x y 0=0) (h6:N.cutB=false) (h7:(N.blk x.toNat y.toNat).fails=true):N.eraseN x y=N.cutN.setBlk x.toNat y.toNat {N.blk x.toNat y.toNat with met:=true}:=by
 unfold Nand.eraseN;rw[d6 (by simp[h]),d6 (by simp[h6]),d8 h7]
theorem b5w {N:Nand} {x y:Int} (h:N.refuses x y 0=0) (h6:N.cutB=false) (h7:(N.blk x.toNat y.toNat).fails=false):N.eraseN x y={N.cutN.setBlk x.toNat y.toNat {N.blk x.toNat y.toNat with cells:=[],worn:=(N.blk x.toNat y.toNat).worn+1}with plan:=N.plan.filter λa=>!(decide (a.1=x)&&decide (a.2.1=y))}:=by
 unfold Nand.eraseN;rw[d6 (by simp[h]),d6 (by simp[h6]),d6 (by simp[h7])]
theorem b3K (p:Nat) (N:Nand) (hN:N.Ok) (hR:N.Room) (hpn:N.plan.Nodup) (hpl:N.plan.length<=1000) (x y:Int):FP 179 [pp p,iI x,iI y] [B8 p N] (Ps (iI (N.eraseE x y)) [B8 p (N.eraseN x y)]):=by
 have hbd:=hN.bd;have hnum:=hN.num;have hr0:=hR.ops;refine FE [2,0,0] Tryz.func179 λX F hX=>?_;refine J.qp (a2A x y) [] λ_=>?_;refine J.qp (a5T p N hN x y 0) [1] λ_=>?_;refine J.qd (λ_ h=>?_) λ_ h=>?_
 ·simp only[E6,H5]at h;refine J.qr [1] λ_=>?_;exact⟨by simp only[Nand.eraseE,H5,h,not_false_eq_true,d8],by simp only[Nand.eraseN,H5,h,not_false_eq_true,d8];rfl⟩
 simp only[z7]at h;obtain⟨hoff,hdd,hr⟩:=Nand.refuses_zero h;obtain⟨i,rfl⟩:=f9 hr.1;obtain⟨j,rfl⟩:=f9 hr.2.2.1;have hi:i<N.dies:=by omega
 have hj:j<N.blocks:=by omega
 have hlen:=(hN.cells i j hi hj).1;refine J.o (α:=NLoc) 1 λY=>?_;refine J.openAt 5 (i*N.blocks+j) rfl rfl (a1d _ _ _ _ _ (a7Y hi hj)) rfl ?_;rw[(a0j hj).1,(a0j hj).2];refine J.o (α:=(Option Nat×Nat)) 6 λc=>?_;refine J.p (.of [0,4,8,13,16,20,26,29,32]) [8] [1,2,3,4,5,6,7] λ_=>?_;refine J.qp (a2A i j) [] λ_=>?_;refine J.q λ_=>?_;refine J.valT hX (pp (Y.bp (i*N.blocks+j))) 7 rfl rfl (λ_ a w he hC=>?_) rfl ?_
 ·refine(I5 (key:=((i:Int),(j:Int),0)) a0T a3k (z:= .pointer none) (λw=>by kernel_rfl) rfl rfl rfl rfl he rfl rfl (hC rfl _ (B6 (i:=2) rfl))).trans ?_;simp only[a1r hi hj];rfl
 refine J.qp (c0o p N Y hN hR) [1] λ_=>?_;refine J.qd (λ_ h6=>?_) λ_ h6=>?_
 ·refine J.q λ_=>?_;rw[show(N.blk i j).cells=ext (N.blk i j).cells 0 from by simp[ext]];refine J.q λ_=>?_;refine J.l (α:=(Option Nat×Nat×Nat)) (λz=>(ext (N.blk i j).cells z.2.2).length<=N.pages) (λz=>[⟨8,pp (Y.bp (i*N.blocks+j)),7, .tt⟩,⟨0,pp p,2, .tt⟩]) [6,7] (λz=>[.pt (Y.bp (i*N.blocks+j)) 107 [slv z.1 (ext (N.blk i j).cells z.2.2).length z.2.1,iI (N.blk i j).worn, .bool (N.blk i j).fails, .bool (N.blk i j).met],m9 112 34 z.1 (ext (N.blk i j).cells z.2.2).length z.2.1 (O6 (ext (N.blk i j).cells z.2.2))]) (λz=>N.pages-(ext (N.blk i j).cells z.2.2).length) ((c.1,c.2,0)) (by rw[a5p];omega) λz hI=>?_;obtain⟨a,cap,m⟩:=z;dsimp only at hI ⊢;refine J.p (.of [0,4,8,13,16,20,24,28,32,37,40]) [] [1,2,3,4,5,6,7] λ_=>?_;refine J.qd (λ_ h8=>?_) λ_ h8=>?_
  ·simp only[d5,i5]at h8;rw[show N.cutN.pages=N.pages from rfl]at h8;refine J.q λ_=>?_;refine J.append hX tk 7 8 0 rfl rfl rfl rfl rfl rfl rfl rfl rfl rfl rfl rfl rfl rfl rfl rfl ?_ ?_ (λ_=>rfl) λa' cap'=>⟨_,b6p Nand.zcell rfl rfl,trivial,?_⟩
   ·simp only[maxLen];omega
   ·omega
   refine J.q λ_=>?_;rw[b0l _ Nand.zcell,b8c];refine J.q λ_=>?_;refine J.n ((a',cap',m+1)) (by dsimp only;rw[a5p]at h8 ⊢;omega) (by dsimp only;rw[a5p]at h8 ⊢;rw[a5p];omega) [0,1,2,3,4,5,6,7]
  ·simp only[c8,i5]at h8;rw[show N.cutN.pages=N.pages from rfl]at h8;have hm:(ext (N.blk i j).cells m).length=N.pages:=by omega
   have hm2:m=N.pages-(N.blk i j).cells.length:=by rw[a5p]at hm;omega
   have hext:ext (N.blk i j).cells m=(N.blk i j).cells++List.replicate (N.pages-(N.blk i j).cells.length) Nand.zcell:=by rw[hm2];rfl
   generalize ext (N.blk i j).cells m=B at hm hext;refine J.know (λh' s=>D1 (c:=(a,cap)) (by omega) (s.get (i:=7) rfl)) λhg=>?_;obtain⟨g,hg⟩:=hg;simp only at hg;subst hg;refine J.openOwn 7 rfl rfl (λ_=>rfl) λr q1 q2 q3 q4=>?_;refine J.q λ_=>?_;refine J.l (α:=Nat) (λk=>k<=B.length) (λk=>[si 56 k,si 55 B.length,⟨8,pp (Y.bp (i*N.blocks+j)),7, .tt⟩]) [7] (λk=>[.pt g 112 (O6 (a1M B k)++r)]) (λk=>B.length-k) (0) (j7 _) λk hI=>?_;refine J.qd (λ_ h9=>?_) λ_ h9=>?_
   ·simp only[d5,i5]at h9;refine J.q λ_=>?_;have hbl:(a1M B k).length=B.length:=b2R B k;obtain⟨cl,hcl⟩:∃cl,(a1M B k)[k]? =some cl:=⟨_,c9 (by omega)⟩;refine J.s1 7 (O6 (a1M B (k+1))++r) ?_ ?_ ?_
    ·rw[f8,I6];show 0+(k:Int).toNat*34+32<_;simp only[j4];omega
    ·rw[show 0+(k:Int).toNat*34+32=k*34+32 from by simp,P7 _ _ (by rw[I6];omega)];rw[a1T _ k 32 _ (λc=>{c with lost:=true}) cl hcl (by omega) rfl,b1K h9]
    refine J.q λ_=>?_;refine J.nx (k+1) (by omega) (by omega) (λ_ s=>s)
   ·simp only[c8,i5]at h9;obtain rfl:k=B.length:=by omega
    have hall:a1M B B.length=B.map λc=>{c with lost:=true}:=by simp[a1M]
    rw[hall];have hmb:(B.map λc=>{c with lost:=true}).length=B.length:=by simp
    generalize hB':(B.map λc=>{c with lost:=true})=B' at hmb;refine J.closeOwn (e:=112) (size:=34) (n:=B.length) (cap:=cap) (xs:=O6 B') 7 rfl rfl (by rw[I6,hmb]) q2 q3 (by rw[f8,I6,hmb];rw[I6]at q4;exact q4) (by rw[D6 (by rw[I6,hmb])]) rfl ?_;rw[<- hmb];refine J.q λ_=>?_;refine J.closeN p N (N.cutN.setBlk i j {N.blk i j with cells:=B'}) Y i j hj ({N.blk i j with cells:=B'}) (some g,cap) [1,2,3,4,5,6,7] rfl rfl rfl rfl (rfl) rfl ?_;refine J.qr [1] λ_=>?_;exact⟨by simp[Nand.eraseE,h,h6],by rw[b3b h h6,<- hB',hext];rfl⟩
 refine J.qd (λ_ h7=>?_) λ_ h7=>?_
 ·refine J.q λ_=>?_;refine J.closeN p N (N.cutN.setBlk i j {N.blk i j with met:=true}) Y i j hj ({N.blk i j with met:=true}) _ [1,2,3,4,5,6,7] rfl rfl rfl rfl (rfl) rfl ?_;refine J.qr [1] λ_=>?_;exact⟨by simp[Nand.eraseE,h,h6,h7],by rw[b2d h h6 h7];rfl⟩
 have hw:=(hnum.2.2 i j);refine J.q λ_=>?_;refine J.turn1 [7] rfl (As:=[m9 112 34 none 0 0 (O6 [])]) (λh s=>Sep.one ⟨rfl,rfl,rfl⟩) rfl ?_;refine J.qc (b8V Y.q N.plan hpl i j) [3] λ_=>?_;rintro v As ⟨a,cap,l',hp,rfl,rfl⟩;have hl12:l'.length<=1000:=by rw[hp.length_eq];exact I7 (H8 _ _) hpl
 refine⟨_,rfl,trivial,?_⟩;refine J.q λ_=>?_;refine J.l (α:=Nat) (λk=>k<=l'.length) (λk=>[si 92 k,si 91 l'.length,sv 90 (slv a l'.length cap),⟨0,pp p,2, .tt⟩]) [3] (λk=>[a1z Y.q ((l'.take k).foldl List.erase N.plan)]) (λk=>l'.length-k) (0) (j7 _) λk hI=>?_;refine J.qd (λ_ h9=>?_) λ_ h9=>?_
 ·simp only[d5,i5]at h9;cases a with
  | none=>
   refine J.know (λh' s=>(s.get (i:=8) rfl).2.1) λhn0=>?_;omega
  | some g=>
   have hk:l'[k]? =some (l'.getD k d3):=by rw[d7,c9 h9,j3]
   refine J.q λ_=>?_;refine J.v (a1v (l'.getD k d3)) rfl rfl (λhg a w he hs=>?_) ?_
   ·exact J8 tk rfl rfl he rfl rfl rfl (hs.get (i:=8) rfl) (by rw[show 0+(k:Int).toNat*3=k*3 from by omega];exact a8y hk) rfl
   refine J.p (.of [0,4,8,13,17,22]) [] [1,2,4,5,6,7,8,9] λ_=>?_;refine J.qp (b6t Y.q ((l'.take k).foldl List.erase N.plan) (l'.getD k d3).1 (l'.getD k d3).2.1 (l'.getD k d3).2.2) [3] λ_=>?_;refine J.q λ_=>?_;have hst:((l'.take k).foldl List.erase N.plan).erase (l'.getD k d3)=(l'.take (k+1)).foldl List.erase N.plan:=by
    rw[D3,hk];simp
   rw[show(((l'.getD k d3).1,(l'.getD k d3).2.1,(l'.getD k d3).2.2):A3)=l'.getD k d3 from rfl,hst];refine J.q λ_=>?_;refine J.n (k+1) (by omega) (by omega) [0,1,2,3,4,5,6,7,8]
 ·simp only[c8,i5]at h9;obtain rfl:k=l'.length:=by omega
  rw[S8,b5v hpn hp];refine J.q λ_=>?_;refine J.closeN p N ({N.cutN.setBlk i j {N.blk i j with cells:=[],worn:=(N.blk i j).worn+1}with plan:=N.plan.filter λa=>!(decide (a.1=(i:Int))&&decide (a.2.1=(j:Int)))}) Y i j hj ({N.blk i j with cells:=[],worn:=(N.blk i j).worn+1}) (none,0) [1,2,3,4,5,6,7] rfl rfl rfl rfl (rfl) rfl ?_;refine J.qr [1] λ_=>?_;exact⟨by simp[Nand.eraseE,h,h6,h7],by rw[b5w h h6 h7];rfl⟩
def rdP (a:Option Addr) (size n:Nat) (xs:List Value) (h:Hl):Prop:=
 xs.length=n*size/\(0<n->∃b o cs ty fr,a=some ⟨b,o,none⟩/\h b=some (.cells cs ty fr)/\(cs.toList.drop o).take (n*size)=xs)
theorem rdP.up {a:Option Addr} {size n:Nat} {xs:List Value} {h h':Hl} (l:Hle h h') (s:rdP a size n xs h):rdP a size n xs h':=
 ⟨s.1,λhn=>let⟨b,o,cs,ty,fr,h1,h2,h3⟩:=s.2 hn;⟨b,o,cs,ty,fr,h1,l _ _ h2,h3⟩⟩
def Rd (A:Atom) (a:Option Addr) (size n:Nat) (xs:List Value):Prop:=∀h,A.sat h->rdP a size n xs h
theorem Rd.addr {a:Option Addr} {size n:Nat} {xs:List Value} {h:Hl} (s:rdP a size n xs h) (hn:0<n):∃g o,a=some ⟨g,o,none⟩:=let⟨b,o,_,_,_,e,_⟩:=s.2 hn;⟨b,o,e⟩
def oad (a:Option Nat):Option Addr:=match a with | some g=>some ⟨g,0,none⟩ | none=>none
theorem Y5 (e size:Nat) (a:Option Nat) (n cap:Nat) (xs:List Value):Rd (m9 e size a n cap xs) (oad a) size n xs:=by
 intro h s;obtain⟨h0,h1⟩:=s;refine⟨h0,λhn=>?_⟩;cases a with
 | none=>omega
 | some g=>
  obtain⟨cur,q1,q2,q3,q4,q5⟩:=h1;exact⟨g,0,cur,e,(0,0),rfl,q1,by simpa using q5⟩
theorem a3m (b t:Nat) (cs:List Value) (size n:Nat) (h:cs.length=n*size):Rd (.pt b t cs) (some ⟨b,0,none⟩) size n cs:=by
 intro h' s;exact⟨h,λ_=>⟨b,0,cs.toArray,t,(0,0),rfl,s,by simp[<- h]⟩⟩
theorem Rd.take {A:Atom} {a:Option Addr} {size n:Nat} {xs:List Value} (h:Rd A a size n xs) (k:Nat) (hk:k<=n):Rd A a size k (xs.take (k*size)):=by
 intro h' s;obtain⟨h0,h1⟩:=h h' s;have hle:k*size<=n*size:=B5 _ hk;refine⟨by rw[j9,h0];omega,λhk0=>?_⟩;obtain⟨b,o,cs,ty,fr,e1,e2,e3⟩:=h1 (by omega);refine⟨b,o,cs,ty,fr,e1,e2,?_⟩;rw[<- e3,a5D,L8 hle]
section
variable {P : Program} {T : Tab} {E : Env} {n : Nat} {a : Act} {w : World}
theorem a7a {b o size m:Nat} {xs:List Value} (hb:rdP (some ⟨b,o,none⟩) size m xs (hl w)) (hm:0<m) {j:Nat} {v:Value} (hv:xs[j]? =some v):w.cell? ⟨b,o+j,none⟩=some v:=by
 obtain⟨b',o',cs,ty,fr,e1,e2,e3⟩:=hb.2 hm;simp only[l6,Addr.mk.injEq,and_true]at e1;obtain⟨rfl,rfl⟩:=e1;rw[cell_of_row w b (o+j) cs ty fr e2];rw[<- e3,C2]at hv;split at hv
 ·rw[K8]at hv;simpa using hv
 ·cases hv
theorem a3Z (hT:TabOK P T) {oo:Oper} {t:TypeId} {x:Operand} {k tg b off o j size m:Nat} {g:G} {ti:TI} {xs l:List Value} (hop:oo.op= .load t x) (hx:ev E x=some ⟨k, .pointer (some ⟨b,off,none⟩),tg,g⟩) (he:EnvOK n E a) (hg:g.on=true) (hti:T.get t=some ti) (h1:ti.d.one=false)
  (hb:rdP (some ⟨b,o,none⟩) size m xs (hl w)) (hm:0<m) (hoff:off=o+j) (hv:(xs.drop j).take ti.size=l) (hl:l.length=ti.size):(execOp a.eval oo).run P w= .ok (.value (.agg l.toArray)) w:=by
 have ex:=C5 he hx;simp only[Slot.val,hg]at ex;obtain⟨d,f,z,ok⟩:=B4 (hT.get hti);have hmm:=ok.many h1;have hr:w.rangeAt b off l:=by
  intro i v hi;subst hoff;rw[<- hv,C2]at hi;split at hi
  ·rw[K8]at hi;rw[Nat.add_assoc];exact a7a hb hm hi
  ·cases hi
 have hr2:=run_loadVar_mid (P:=P) w b off t l d hr ok.hd (by cases d<;>simp_all [a0i,TypeDesc.isRow]) (by rw[ok.hf];simp[hl,ok.hsize]);simp only[execOp,hop,ex,Instr.loadAt,Instr.sureAddr,Sem.run_bind,Sem.run_pure,Result.andThen_ok,hr2]
theorem a4X (hT:TabOK P T) {oo:Oper} {t:TypeId} {x:Operand} {k tg b off o j size m:Nat} {g:G} {ti:TI} {xs:List Value} {v:Value} (hop:oo.op= .load t x) (hx:ev E x=some ⟨k, .pointer (some ⟨b,off,none⟩),tg,g⟩) (he:EnvOK n E a) (hg:g.on=true) (hti:T.get t=some ti) (h1:ti.d.one=true)
  (hb:rdP (some ⟨b,o,none⟩) size m xs (hl w)) (hm:0<m) (hoff:off=o+j) (hv:xs[j]? =some v):(execOp a.eval oo).run P w= .ok (.value v) w:=by
 have ex:=C5 he hx;simp only[Slot.val,hg]at ex;obtain⟨d,f,z,ok⟩:=B4 (hT.get hti);subst hoff;simp only[execOp,hop,ex,Instr.loadAt,Instr.sureAddr,Sem.run_bind,Sem.run_pure,Result.andThen_ok,a1O ok.hd (ok.one h1) (a7a hb hm hv)]
end
section
variable {X : Cx} {P : Program} {T : Tab} {K : List KI} {E : Env} {L : List Atom} {N : Nat} {F : HP} {Post : Value → List Atom → Prop} {rs : List ResultVar}
theorem J.appendR (hX:IsCx X P rs N F Post) (hT:TabOK P T) {ops:Array Oper} {C:Cl} {lt:Bool} {i:Nat} {t:PT} {o:Oper} {g:G} {x y:Operand} {st e size by_:Nat} {ks tgs:Nat} {gs:G} {a:Option Nat} {n cap:Nat} {xs:List Value} {ky tgy:Nat} {gy:G} {b oo m c:Nat} {cs:List Value} {s1 b1:Nat} {z1:List Value} {E':Value->Env} {Ay:Atom} (is iy tag:Nat)
  (ho:J3 ops.toList i=some o) (hg:gd ops.toList E o=some g) (hgo:g.on=true) (hop:o.op= .call ⟨.builtin .append,#[x,y],#[st,st]⟩)
  (hx:ev E x=some ⟨ks,slv a n cap,tgs,gs⟩) (hvx:gs.on=true) (hy:ev E y=some ⟨ky, .slice (some ⟨b,oo,none⟩) m c,tgy,gy⟩) (hvy:gy.on=true)
  (hLs:J3 L is=some (m9 e size a n cap xs)) (hLy:J3 L iy=some Ay) (hrd:Rd Ay (some ⟨b,oo,none⟩) size m cs) (hst:T.get st=some ⟨.slice e size,s1,z1,b1⟩) {td:TD} {z:List Value} (he:T.get e=some ⟨td,size,z,by_⟩) (hz:Nat.beq z.length size=true)
  (hsz:Nat.blt 0 size=true) (h1:∀u∈cs,u.oneCell'=true) (h63:n+m<=maxLen) (hbytes:(n+m)*by_<=140737488355328)
  (hd:∀v,W5 N o.dst v tag .tt E=some (E' v))
  (hJ:∀a' cap',∃L',U3 L is (m9 e size a' (n+m) cap' (xs++cs))=some L'/\Conj (M3 lt C L')/\J X (.reg ops C t::K) (E' (slv a' (n+m) cap')) L'):J X (.reg ops C (.alt lt i t .non)::K) E L:=by
 refine J.op hX (S:=λv L'=>∃a' cap',v=slv a' (n+m) cap'/\L'=L.set is (m9 e size a' (n+m) cap' (xs++cs))) tag ho hg hgo (λa0 w hen hs=>?_) hd (λv L' ⟨a',cap',e1,e2⟩=>by subst e1;subst e2;obtain⟨L2,q1,q2⟩:=hJ a' cap';rw[<- T8 q1];exact q2);obtain⟨d,f,zv,ok⟩:=B4 (hT.get hst);obtain⟨fe,rfl,g1,g2⟩:=ok.slice rfl;obtain⟨d',f',zv',ok'⟩:=B4 (hT.get he);have hf:fe=f':=by have:=g1.symm.trans ok'.hf;injection this
 subst hf;have hzz:z=zv'.cells.toList:=ok'.hzero;subst hzz;rw[J2]at hLs hLy;have hrow:=a7M (hs.get hLs);have hrd2:=hrd _ (hs.get hLy);have hnews:∀j u,cs[j]? =some u->w.cell? ((⟨b,oo,none⟩:Addr).add j)=some u:=λj u hu=>by
  rw[Addr.add_none];refine a7a hrd2 ?_ hu;rcases P5 m with h0 | h0
  ·have:=hrd2.1;rw[h0,P8]at this;rw[n5 this]at hu;simp at hu
  ·exact h0
 obtain⟨v',w',r1,r2,r3,_,r5⟩:=run_append_own_at (P:=P) w 0 st o.type e fe zv' size by_ ok.hd ok'.hf ok'.hz g2 ok'.hbytes.symm (by have:=C8 hz;simpa using this) (L5 hsz) _ n xs hrow ⟨b,oo,none⟩ m c cs hrd2.1 hnews h1 h63 hbytes (j7 _);obtain⟨a',cap',e1,e2,e3⟩:=b1r r2;subst e1;have ex:=C5 hen hx;have ey:=C5 hen hy;simp only[Slot.val,hvx,hvy]at ex ey;refine⟨_,_, .value (slv a' (n+m) cap'),w',⟨a',cap',rfl,rfl⟩,?_, .inl rfl,?_,Ext.grown r3⟩
 ·simp only[execOp,hop,resolve,Sem.run_bind,Sem.run_pure,Result.andThen_ok,invoke,builtin,a3w,n4,R5,ex,ey,r1]
 ·refine Sep.step hs hLs (x:=(slv a n cap).ownBlock) (x':=a') (λh g0 hh he0=>?_) r3 (by rw[<- e3];exact r5) (λh hh=>⟨e2.1,?_⟩)
  ·cases a with
   | none=>simp[slv,Value.ownBlock]at he0
   | some ga=>
    simp only[slv,Value.ownBlock,l6]at he0;subst he0;obtain⟨cur,h1,_⟩:=hh.2;exact⟨_,h1⟩
  ·have e22:=e2.2;cases a' with
   | none=>exact e22
   | some ga=>
    obtain⟨cur,q1,q2⟩:=e22;exact⟨cur,(hh ga rfl).trans q1,q2⟩
end
theorem b5n {w:World} {g:Nat} {cur cs:Array Value} {t:TypeId} (h:w.heap[g]? =some (.cells cur t (0,0))):hl (w.setRow g cs)=U4 (hl w) g (.cells cs t (0,0)):=by
 funext x;unfold U4
 by_cases e:x=g
 ·subst e;rw[d8 rfl];exact setRow_heap w x cur cs t _ h
 ·rw[d6 e];exact setRow_other w g x _ e
section
variable {X : Cx} {P : Program} {T : Tab} {K : List KI} {E : Env} {L : List Atom} {N : Nat} {F : HP} {Post : Value → List Atom → Prop} {rs : List ResultVar}
theorem J.copy (hX:IsCx X P rs N F Post) (hT:TabOK P T) {ops:Array Oper} {C:Cl} {lt:Bool} {i:Nat} {t:PT} {o:Oper} {g:G} {x y:Operand} {dT sT e by_:Nat} {kx tx ky ty:Nat} {gx gy:G} {b off dl dc b2 oo sl sc tb:Nat} {old xs:List Value} {s1 b1:Nat} {z1:List Value} {E':Value->Env} {Ay:Atom} (is iy:Nat)
  (ho:J3 ops.toList i=some o) (hg:gd ops.toList E o=some g) (hgo:g.on=true) (hop:o.op= .call ⟨.builtin .copy,#[x,y],#[dT,sT]⟩)
  (hx:ev E x=some ⟨kx, .slice (some ⟨b,off,none⟩) dl dc,tx,gx⟩) (hvx:gx.on=true) (hy:ev E y=some ⟨ky, .slice (some ⟨b2,oo,none⟩) sl sc,ty,gy⟩) (hvy:gy.on=true)
  (hLx:J3 L is=some (.pt b tb old)) (hLy:J3 L iy=some Ay) (hrd:Rd Ay (some ⟨b2,oo,none⟩) 1 sl xs) (hst:T.get dT=some ⟨.slice e 1,s1,z1,b1⟩) {td:TD} {z:List Value} (he:T.get e=some ⟨td,1,z,by_⟩)
  (cs:List Value) (hcs:xs.take (Nat.min sl dl)=cs) (hlt:off+cs.length<=old.length) (h1:∀u∈xs,u.oneCell'=true) (cs':List Value) (hcs':old.take off++cs++old.drop (off+cs.length)=cs') {L2:List Atom} (hL2:U3 L is (.pt b tb cs')=some L2)
  (hd:∀v,W5 N o.dst v 0 .tt E=some (E' v)) (hJ:Conj (M3 lt C L2)/\J X (.reg ops C t::K) (E' (goInt cs.length)) L2):J X (.reg ops C (.alt lt i t .non)::K) E L:=by
 refine J.op hX (S:=λv' L'=>v'=goInt cs.length/\L'=L.set is (.pt b tb cs')) 0 ho hg hgo (λa0 w hen hs=>?_) hd (λv L' ⟨e1,e2⟩=>by subst e1;subst e2;rw[<- T8 hL2];exact hJ);rw[J2]at hLx hLy;have ex:=C5 hen hx;have ey:=C5 hen hy;simp only[Slot.val,hvx,hvy]at ex ey;obtain⟨d,f,zv,ok⟩:=B4 (hT.get hst);obtain⟨fe,rfl,g1,g2⟩:=ok.slice rfl;have hblk:Blk w b tb old.toArray:=hs.pt hLx;have hrd2:=hrd _ (hs.get hLy);have hxl:xs.length=sl:=by rw[hrd2.1,V0]
 have hn:cs.length=Nat.min sl dl:=by
  rw[<- hcs,j9,hxl];exact L8 (Nat.min_le_left sl dl)
 have hsrc:∀j v,cs[j]? =some v->w.cell? ((⟨b2,oo,none⟩:Addr).add j)=some v:=λj u hu=>by
  have hj:j<cs.length:=(List.getElem?_eq_some_iff.1 hu).1;rw[<- hcs,C2]at hu;split at hu
  ·rw[Addr.add_none];refine a7a hrd2 ?_ hu;have:=(List.getElem?_eq_some_iff.1 hu).1;omega
  ·cases hu
 have h1':∀v∈cs,v.oneCell'=true:=λv hv=>h1 v (by rw[<- hcs]at hv;exact I8 hv);have hsz:(P.info? e).map (·.size)=some 1:=by rw[g1];exact congrArg some g2
 have hrun:=run_copy_row (P:=P) w dT sT o.type e b off dl dc ⟨b2,oo,none⟩ sl sc old.toArray tb cs ok.hd hsz hblk hn hsrc (by simpa using hlt) h1';have harr:(old.toArray.toList.take off++cs++old.toArray.toList.drop (off+cs.length)).toArray=cs'.toArray:=congrArg List.toArray hcs';rw[harr]at hrun;refine⟨_,_, .value (goInt cs.length),w.setRow b cs'.toArray,⟨rfl,rfl⟩,?_, .inl rfl,?_,Ext.grown (b0J w b _)⟩
 ·simp only[execOp,hop,resolve,Sem.run_bind,Sem.run_pure,Result.andThen_ok,invoke,builtin,a3w,n4,R5,ex,ey,hrun]
 ·rw[b5n hblk];exact hs.setPt cs' hLx
end
end
section
open Go.RowKit

theorem c0D (s:Nat) (h:s<2147483648):bits .and .u32 (s:Int) 2147483648=0:=by
 rw[show(2147483648:Int)=((2147483648:Nat):Int)from rfl,u32_and_nat _ _ (by omega) (by omega),show(2147483648:Nat)=2^31 from rfl,nat_bit];have:s/2^31=0:=by omega
 rw[this];rfl
theorem b8M (s:Nat) (h:2147483648<=s) (h2:s<4294967296):bits .and .u32 (s:Int) 2147483648=2147483648:=by
 rw[show(2147483648:Int)=((2147483648:Nat):Int)from rfl,u32_and_nat _ _ (by omega) (by omega),show(2147483648:Nat)=2^31 from rfl,nat_bit];have:s/2^31=1:=by omega
 rw[this]

set_option maxRecDepth 100000 in
set_option maxHeartbeats 400000 in
theorem a9D (s x:Nat) (hs:s<4294967296) (hx:x<256) (w:World):
  Calls Tryz.prog 261 #[.int .u32 s, .int .u8 x] w λe w'=>e= .returned (.int .u32 (K.step s x))/\w=w':=by
 have e1:IntKind.u32.wrap ((x:Int)*16777216)=((x*16777216:Nat):Int):=by rw[IntWalk.u32_in _ (by omega)];omega
 have e2:bits .xor .u32 (s:Int) ((x*16777216:Nat):Int)=((s ^^^ x*16777216:Nat):Int):=u32_xor_nat _ _ hs (by omega);have hlt0:s ^^^ x*16777216<4294967296:=X4 (n:=32) (by omega) (by omega);have hst:=Lib.hid (show K.step s x=K.rounds 8 (s ^^^ x*16777216)from rfl);generalize s ^^^ x*16777216=s0 at*;generalize hX:x*16777216=X at*;have HX:=Lib.hid hX;clear hX
 go_enter Tryz.func261,Tryz.ntmps261
 go_wp2
 go_loop [0,11] (λv c=>∃k:Nat,k<=8/\c= .int .i64 k/\v= .int .u32 (K.rounds k s0)) (λ_ c=>8-(intOf c).toNat)
 case atStart=>exact⟨0,by omega,rfl,rfl⟩
 case round=>
  obtain⟨k,hk,rfl,rfl⟩:=hrel;clear e1 e2
  by_cases hlt:k<8
  ·have hr:=K.rounds_lt k s0 hlt0;have hn:K.round (K.rounds k s0)=K.rounds (k+1) s0:=rfl;generalize K.rounds k s0=t at*
   by_cases ht:t<2147483648
   ·have e3:=c0D t ht;have e4:K.round t=t*2:=by simp[K.round,ht]
    have Hn:=Lib.hid (e4.symm.trans hn);clear e4 hn
    go_wp2
    go_round
    case rel=>exact⟨k+1,by omega,by go_num,by rw[<- Hn.out];go_num⟩
    case measure=>simp[intOf];omega
   ·have e3:=b8M t (by omega) hr;have e4:K.round t=(t*2 % 4294967296) ^^^ 1947962583:=by simp[K.round,ht]
    have e5:bits .xor .u32 ((t*2 % 4294967296:Nat):Int) 1947962583=(((t*2 % 4294967296) ^^^ 1947962583:Nat):Int):=u32_xor_nat _ 1947962583 (by omega) (by omega);have e6:IntKind.u32.wrap ((t:Int)*2)=((t*2 % 4294967296:Nat):Int):=by rw[IntKind.wrap_u32'];omega
    have Hn:=Lib.hid (e4.symm.trans hn);clear e4 hn;generalize t*2 % 4294967296=t2 at*;generalize t2 ^^^ 1947962583=t3 at*
    go_wp2
    go_round
    case rel=>exact⟨k+1,by omega,by go_num,by rw[<- Hn.out]⟩
    case measure=>simp[intOf];omega
  ·have:k=8:=by omega
   subst this
   go_wp2
   go_ret
   exact⟨by rw[hst.out];rfl,rfl⟩

end
section
open Go Go.RowKit
theorem b4f (n:Int):FP 259 [iI n] [] (Ps (.bool (decide (n>=1)&&decide (n<=64))) []):=by
 refine FE [0] Tryz.func259 λX F hX=>?_;exact J.qx []
theorem a5m (u j k:Nat) (h:j<=k):(u:Int).fdiv (2^min (j:Int).toNat k)=((u/2^j:Nat):Int):=by
 rw[Int.fdiv_eq_ediv_of_nonneg _ (Int.le_of_lt (Int.pow_pos (by decide))),j4,L8 h];simp
theorem b8J (u j:Nat) (hu:u<18446744073709551616) (h:j<=64):IntKind.u64.wrap (BitVec.ofInt IntKind.u64.bits ((u:Int).fdiv (2^min (j:Int).toNat IntKind.u64.bits))&&& BitVec.ofInt IntKind.u64.bits 1).toNat=((u.testBit j).toNat:Int):=by
 show bits .and .u64 _ 1=_;have hb:u/2^j<=u:=Nat.div_le_self _ _;rw[a5m u j IntKind.u64.bits h,show(1:Int)=((1:Nat):Int)from rfl,u64_and_nat _ _ (by omega) (by omega),nat_mask1,a2O];rcases Nat.mod_two_eq_zero_or_one (u/2^j)with h | h<;>simp[h]
theorem c0C (x j:Nat) (hx:x<256) (h:j<=8):IntKind.u8.wrap (BitVec.ofInt IntKind.u8.bits ((x:Int).fdiv (2^min (j:Int).toNat IntKind.u8.bits))&&& BitVec.ofInt IntKind.u8.bits 1).toNat=((x.testBit j).toNat:Int):=by
 show bits .and .u8 _ 1=_;have hb:x/2^j<=x:=Nat.div_le_self _ _;rw[a5m x j IntKind.u8.bits h,show(1:Int)=((1:Nat):Int)from rfl,u8_and_nat _ _ (by omega) (by omega),nat_mask1,a2O];rcases Nat.mod_two_eq_zero_or_one (x/2^j)with h | h<;>simp[h]
theorem c0M (u n:Nat) (h1:1<=n) (h2:n<=64) (hu:u<2^n):((u:Int).fdiv (2^min ((n:Int)-1).toNat IntKind.u64.bits)).fdiv (2^min (Int.toNat 1) IntKind.u64.bits)=0:=by
 rw[show(n:Int)-1=((n-1:Nat):Int)from by omega,a5m u (n-1) IntKind.u64.bits (show n-1<=64 by omega),show(1:Int)=((1:Nat):Int)from rfl,a5m _ 1 IntKind.u64.bits (by decide),Nat.div_div_eq_div_mul,<- Nat.pow_add,show n-1+1=n from by omega,Nat.div_eq_of_lt hu];rfl
theorem t8 (m:Nat):(m:Int).tdiv 8=((m/8:Nat):Int)/\(m:Int).tmod 8=((m % 8:Nat):Int):=⟨(Int.ofNat_tdiv m 8).symm,(Int.ofNat_tmod m 8).symm⟩
theorem b8k (L:List Bool) (b:Bool) (s:Int) (hs:s=7-((L.length % 8:Nat):Int)):(0<=((b.toNat:Nat):Int)*2^min s.toNat IntKind.u8.bits/\((b.toNat:Nat):Int)*2^min s.toNat IntKind.u8.bits<=255)/\
  bits .or .u8 (Bt.byteAt L (8*(L.length/8)):Int) (((b.toNat:Nat):Int)*2^min s.toNat IntKind.u8.bits)=((Bt.byteAt L (8*(L.length/8))+b.toNat*2^(7-L.length % 8):Nat):Int)/\Bt.byteAt L (8*(L.length/8))+b.toNat*2^(7-L.length % 8)<256:=by
 have hm:min s.toNat IntKind.u8.bits=7-L.length % 8:=by rw[show IntKind.u8.bits=8 from rfl];omega
 have hb:=a1Y b;have hp:2^(7-L.length % 8)<=2^7:=Z8 (by omega) (by omega);have hmul:=R1 hb hp;have hlt:=Bt.byteAt_lt (L++[b]) (8*(L.length/8));rw[Bt.byteAt_snoc,d8 (by omega),show L.length-8*(L.length/8)=L.length % 8 from by omega]at hlt;have e:((b.toNat:Nat):Int)*2^(7-L.length % 8)=((b.toNat*2^(7-L.length % 8):Nat):Int):=by simp
 rw[hm,e];exact⟨by omega,by rw[u8_or_nat _ _ (Bt.byteAt_lt _ _) (by omega),Bt.byte_or],hlt⟩
def b1E (q:Nat) (l:List Bool) (x:Option Nat×Nat):List Atom:=[.pt q 293 [slv x.1 ((l.length+7)/8) x.2,iI l.length],m9 5 1 x.1 ((l.length+7)/8) x.2 ((Bt.pack l).map bv)]
def a5z (q:Nat) (l:List Bool):Atom:=exA (b1E q l)
theorem b4g (q u n:Nat) (l:List Bool) (h1:1<=n) (h2:n<=64) (hu:u<2^n) (hl:l.length+n<=4096):FP 236 [pp q, .int .u64 u,iI n] [a5z q l] (Ps (.bool true) [a5z q (l++Bt.bits u n)]):=by
 have hu64:u<18446744073709551616:=a5C hu (show 2^n<=2^64 from Z8 (by omega) h2);refine FE [2,0,0] Tryz.func236 λX F hX=>?_;refine J.qp (b4f n) [] λ_=>?_;rw[show decide ((n:Int)>=1)=true from i6 (by omega),show decide ((n:Int)<=64)=true from i6 (by omega)];have hp:=c0M u n h1 h2 hu;refine J.o (α:=(Option Nat×Nat)) 1 λx=>?_;obtain⟨a,c⟩:=x;refine J.qd (λ_ h=>?_) λ_ h=>?_
 ·simp only[hp]at h;simp at h;omega
 have hn1:(n:Int)-1-(0:Nat)=(n:Int)-1:=by omega
 refine J.cl (b1E q l) (a,c) [1,2] ?_;refine J.turn1 [1] rfl (As:=[a5z q (l++(Bt.bits u n).take 0)]) (λh s=>by rw[List.take_zero,m6];exact s) rfl ?_;refine J.q λ_=>?_;refine J.l (α:=(Nat×Int)) (λz=>z.1<=n/\z.2=(n:Int)-1-z.1) (λz=>[si 7 z.2,⟨0,pp q,2, .tt⟩,⟨1, .int .u64 u,0, .tt⟩]) [1] (λz=>[a5z q (l++(Bt.bits u n).take z.1)]) (λz=>n-z.1) ((0,(n:Int)-1)) (⟨j7 _,by simp⟩) λz hI=>?_;obtain⟨k,i⟩:=z;dsimp only at hI ⊢;obtain⟨hk,hi⟩:=hI;refine J.qd (λ_ h=>?_) λ_ h=>?_
 ·simp only[d5]at h;obtain⟨j,rfl⟩:=f9 h;have hs:l++(Bt.bits u n).take (k+1)=(l++(Bt.bits u n).take k)++[u.testBit j]:=by
   rw[Bt.take_bits_succ u n k (by omega),m7,show n-1-k=j from by omega]
  have hL:(l++(Bt.bits u n).take k).length=l.length+k:=by rw[f8,j9,Bt.length_bits];omega
  generalize l++(Bt.bits u n).take k=L at hs hL ⊢;obtain⟨t1,t2⟩:=t8 L.length;obtain⟨v1,v2,v3⟩:=b8k L (u.testBit j) (7-(L.length:Int).tmod 8) (by rw[t2]);have hbit:=b8J u j hu64 (by omega);rw[<- hbit]at v1 v2;have hbl:=a1Y (u.testBit j);have hz:=Bt.length_packZ L;refine J.o (α:=(Option Nat×Nat)) 1 λx=>?_;obtain⟨a,c⟩:=x;refine J.q λ_=>?_;refine J.join (α:=Nat×Nat) (λy=>[si 7 j,⟨0,pp q,2, .tt⟩,⟨1, .int .u64 u,0, .tt⟩]) (λy=>[.hp F, .pt q 293 [slv (some y.1) (L.length/8+1) y.2,iI L.length],m9 5 1 (some y.1) (L.length/8+1) y.2 ((Bt.packZ L).map bv)]) (λhj=>?_) (λy=>?_)
  ·refine J.cond rfl (λh=>?_) (λh=>?_)
   ·rw[t2,A4]at h;have h8:L.length % 8=0:=by omega
    have hm:(L.length+7)/8=L.length/8:=by omega
    rw[hm];have hpz:Bt.packZ L=Bt.pack L++[0]:=by rw[Bt.packZ,d8 h8]
    refine J.q λ_=>?_;refine J.append hX tk 3 4 0 rfl rfl rfl rfl rfl rfl rfl rfl rfl rfl rfl rfl rfl rfl rfl rfl (by simp only[maxLen];omega) (by omega) (λ_=>rfl) λa' c'=>⟨_,rfl,trivial,?_⟩;refine J.know (λh' s=>D1 (c:=(a',c')) (Nat.succ_pos _) (s.get (i:=3) rfl)) λhg=>?_;obtain⟨ga,rfl⟩:=hg;refine J.qn 4 λ_=>?_;exact J.goto [0,1,3] (hj (ga,c')) ⟨rfl,rfl,rfl,trivial⟩ rfl (by rw[hpz,t7];rfl)
   ·rw[t2,l8]at h;have h8:¬L.length % 8=0:=by omega
    have hm:(L.length+7)/8=L.length/8+1:=by omega
    rw[hm];have hpz:Bt.packZ L=Bt.pack L:=by rw[Bt.packZ,d6 h8]
    refine J.know (λh' s=>D1 (c:=(a,c)) (Nat.succ_pos _) (s.get (i:=3) rfl)) λhg=>?_;obtain⟨ga,rfl⟩:=hg;refine J.qn 1 λ_=>?_;exact J.goto [0,1,3] (hj (ga,c)) ⟨rfl,rfl,rfl,trivial⟩ rfl (by rw[hpz];rfl)
  obtain⟨g,c⟩:=y;refine J.openOwn 2 rfl rfl (λ_=>rfl) λr q1 q2 q3 q4=>?_;refine J.pq (.of [0,4,8,13,16,20,24,29,32,36,41,44,48,52,56,60,64,68,72,77,80,84,88,92,96,103]) [24,25] [1,2] λ_ _=>?_;refine J.vT (bv (UInt8.ofNat (Bt.byteAt L (8*(L.length/8))))) rfl rfl (λhg a w he hC=>?_) ?_
  ·exact D4 tk rfl rfl he hg rfl rfl (hC rfl _ (B6 (i:=2) rfl)) (by
    rw[show 0+((L.length:Int).tdiv 8).toNat*1=L.length/8 from by omega,D8 (by rw[l7];omega),i9,Bt.packZ_get _ _ (by omega)];rfl)
  refine J.q λ_=>?_;refine J.s1 2 ((Bt.pack (L++[u.testBit j])).map bv++r) ?_ ?_ ?_
  ·rw[f8,l7];omega
  ·rw[show 0+((L.length:Int).tdiv 8).toNat*1=L.length/8 from by omega,P7 _ _ (by rw[l7];omega),Bt.pack_snoc,L7];congr 2;show Value.int .u8 (bits .or .u8 ((UInt8.ofNat (Bt.byteAt L (8*(L.length/8)))).toNat:Int) _)=_;rw[show(UInt8.ofNat (Bt.byteAt L (8*(L.length/8)))).toNat=_ from K4 (Bt.byteAt_lt _ _),v2];simp[bv,K4 v3]
  have hpl:(Bt.pack (L++[u.testBit j])).length=L.length/8+1:=by rw[Bt.length_pack,f8];simp only[U0];omega
  have hl1:(L++[u.testBit j]).length=L.length+1:=by simp
  refine J.closeOwn (e:=5) (size:=1) (n:=L.length/8+1) (cap:=c) (xs:=(Bt.pack (L++[u.testBit j])).map bv) 2 rfl rfl (by rw[l7,hpl,V0]) q2 q3 (by rw[f8,l7]at*;omega) (by rw[D6 (by rw[l7,hpl,V0])]) rfl ?_;refine J.q λ_=>?_;refine J.turn1 [1,2] rfl (As:=[a5z q (l++(Bt.bits u n).take (k+1))]) (λh s=>Sep.one ⟨(some g,c),by
   rw[hs,b1E,hl1,show(L.length+1+7)/8=L.length/8+1 from by omega];exact s⟩) rfl ?_
  refine J.q λ_=>?_;refine J.n ((k+1,(j:Int)-1)) (⟨by dsimp only;omega,by dsimp only;omega⟩) (by dsimp only;omega) [0,1,2]
 ·simp only[c8]at h;have hkn:k=n:=by omega
  have ht:(Bt.bits u n).take k=Bt.bits u n:=B1 (by rw[Bt.length_bits];omega);rw[ht];exact J.qx [1]
theorem b5Q (a:Option Nat) (n cap:Nat) (l:List Value) (hl:l.length=n) (h1:∀u∈l,u.oneCell'=true) (hn:n<=1000000):FP 260 [slv a n cap] [m9 5 1 a n cap l]
  (λv As=>∃a' c',v=slv a' n c'/\As=[m9 5 1 a n cap l,m9 5 1 a' n c' l]):=by
 refine FE [0] Tryz.func260 λX F hX=>?_;cases a with
 | none=>
  refine J.know (λh' s=>(s.get (i:=1) rfl).2) λhn0=>?_;obtain⟨rfl,rfl⟩:=hn0;have:l=[]:=n5 hl;subst this;refine J.qT λ_=>?_;refine J.turn1 [] rfl (As:=[m9 5 1 none 0 0 []]) (λh s=>Sep.one ⟨rfl,rfl,rfl⟩) rfl ?_;refine J.qr [1,2] λ_=>?_;exact⟨none,0,rfl,rfl⟩
 | some g=>
  refine J.qF λ_=>?_;refine J.qn 5 λbb=>?_;refine J.closeOwn (e:=5) (size:=1) (n:=0) (cap:=0) (xs:=[]) 2 rfl rfl rfl (i7 _) (j7 _) rfl rfl rfl ?_;refine J.q λ_=>?_;refine J.appendR hX tk (a:=some (bb 0)) (n:=0) (cap:=0) (xs:=[]) (oo:=0) (Ay:=m9 5 1 (some g) n cap l) 2 1 0 rfl rfl rfl rfl rfl rfl rfl rfl rfl rfl (Y5 _ _ (some g) _ _ _) rfl rfl rfl rfl h1 ?_ ?_ (λ_=>rfl) λa' c'=>⟨_,rfl,trivial,?_⟩
  ·simp only[maxLen];omega
  ·omega
  rw[J6 n,R4];refine J.qr [1,2] λ_=>?_;exact⟨a',c',rfl,rfl⟩
theorem b0Y (q:Nat) (l:List Bool) (hl:l.length<=65536):FP 238 [pp q] [a5z q l]
  (λv As=>∃a' c',v=slv a' ((l.length+7)/8) c'/\As=[a5z q l,m9 5 1 a' ((l.length+7)/8) c' ((Bt.pack l).map bv)]):=by
 refine FE [2] Tryz.func238 λX F hX=>?_;refine J.qF λ_=>?_;refine J.o (α:=(Option Nat×Nat)) 1 λx=>?_;obtain⟨a,c⟩:=x;refine J.q λ_=>?_;refine J.ca hX (by kernel_rfl) (b5Q a ((l.length+7)/8) c ((Bt.pack l).map bv) (by rw[l7,Bt.length_pack]) (λu hu=>by obtain⟨b,_,rfl⟩:=List.mem_map.1 hu;rfl) (by omega)) [2] 0 rfl rfl rfl rfl rfl rfl (λ_=>rfl) ?_;rintro v As ⟨a',c',rfl,rfl⟩;refine⟨_,rfl,trivial,?_⟩;refine J.cl (b1E q l) (a,c) [1,2] ?_;refine J.qr [1,3] λ_=>?_;exact⟨a',c',rfl,rfl⟩
theorem b8o (a:Option Addr) (n cap:Nat):FP 241 [.slice a n cap] [] (λv As=>∃g,v=pp g/\As=[.pt g 319 [.slice a n cap,iI 0]]):=by
 refine FE [0] Tryz.func241 λX F hX=>?_;refine J.q λbb=>?_;refine J.ru hX [1] ?_;exact⟨bb 0,rfl,rfl⟩
theorem c1w (q:Nat) (u:Int) (n:Nat) (l:List Bool) (h1:1<=n) (h2:n<=64) (h0:0<=u) (hu:u.toNat<2^n) (hl:l.length+n<=4096):FP 236 [pp q, .int .u64 u,iI n] [a5z q l] (Ps (.bool true) [a5z q (l++Bt.bits u.toNat n)]):=by
 obtain⟨u,rfl⟩:=f9 h0;exact b4g q u n l h1 h2 hu hl
theorem b3k (g:Nat) (a:Option Addr) (n cap:Nat) (k:Nat) (h:k<=8*n) (hn:n<=65536):FP 262 [pp g] [.pt g 319 [.slice a n cap,iI k]]
  (Ps (iI (8*(n:Int)-k)) [.pt g 319 [.slice a n cap,iI k]]):=by
 refine FE [2] Tryz.func262 λX F hX=>?_;refine J.qF λ_=>?_;refine J.p (.of [0,4,8,13,16,20,24,28,32,37,40,44]) [11] [1] λ_=>?_;exact J.qx [1]
theorem c0R (u:Nat) (hu:u*2<18446744073709551616) (y:Bool):IntKind.u64.wrap (BitVec.ofInt IntKind.u64.bits ((u:Int)*2)||| BitVec.ofInt IntKind.u64.bits (y.toNat:Int)).toNat=((2*u+y.toNat:Nat):Int):=by
 have hy:=a1Y y;show bits .or .u64 _ _=_;rw[show(u:Int)*2=((2*u:Nat):Int)from by omega,u64_or_nat _ _ (by omega) (by omega),nat_join 1 (2*u) y.toNat (by omega) (by omega)]
theorem b8p (g:Nat) (A:Atom) (a:Option Addr) (n cap:Nat) (l:List UInt8) (hA:Rd A a 1 n (l.map bv)) (hl:l.length=n) (hn:n<=65536) (k w:Nat) (h1:1<=w) (h2:w<=64) (h3:k+w<=8*n):FP 242 [pp g,iI w] [.pt g 319 [.slice a n cap,iI k],A]
  (Ps (.tuple #[.int .u64 (Bt.numAt l k w:Nat), .bool true]) [.pt g 319 [.slice a n cap,iI (k+w:Nat)],A]):=by
 refine FE [2,0] Tryz.func242 λX F hX=>?_;refine J.qp (b4f w) [] λ_=>?_;rw[show decide ((w:Int)>=1)=true from i6 (by omega),show decide ((w:Int)<=64)=true from i6 (by omega)];refine J.qp (b3k g a n cap k (by omega) hn) [1] λ_=>?_;refine J.qd (λ_ h=>?_) λ_ h=>?_
 ·simp at h;omega
 refine J.q λ_=>?_;refine J.l (α:=Nat) (λj=>j<=w) (λj=>[⟨6, .int .u64 (Bt.numAt l k j:Nat),0, .tt⟩,si 7 (k+w:Int),⟨0,pp g,2, .tt⟩]) [1] (λj=>[.pt g 319 [.slice a n cap,iI (k+j:Nat)]]) (λj=>w-j) (0) (j7 _) λj hI=>?_;refine J.qd (λ_ h=>?_) λ_ h=>?_
 ·simp only[d5]at h;refine J.know (p:=∃g o,a=some ⟨g,o,none⟩) (λh' s=>Rd.addr (hA _ (s.get (i:=2) rfl)) (by omega)) λhk=>?_;obtain⟨gm,om,rfl⟩:=hk;obtain⟨t1,t2⟩:=t8 (k+j);have hx:l[(k+j)/8]? =some l[(k+j)/8]:=c9 (by omega);have hlt:=a5C (Bt.numAt_lt l k j) (show 2^j<=2^63 from Z8 (by omega) (by omega));have hb:Bt.bitAt l (k+j)=l[(k+j)/8].toNat.testBit (7-(k+j) % 8):=by rw[Bt.bitAt,d7,hx];rfl
  have hs:Bt.numAt l k (j+1)=2*Bt.numAt l k j+(Bt.bitAt l (k+j)).toNat:=rfl;generalize l[(k+j)/8]=x at hx hb;have hbit:=c0C x.toNat (7-(k+j) % 8) x.toNat_lt (by omega);rw[<- hb]at hbit;rw[show((7-(k+j) % 8:Nat):Int)=7-((k+j:Nat):Int).tmod 8 from by omega]at hbit;have hbl:=a1Y (Bt.bitAt l (k+j));have h21:((Bt.numAt l k j:Nat):Int)*2^min (Int.toNat 1) IntKind.u64.bits=(Bt.numAt l k j:Nat)*2:=congrArg (_* ·) (by decide);have hor:=c0R (Bt.numAt l k j) (by omega) (Bt.bitAt l (k+j));rw[<- hs,<- hbit]at hor;refine J.pq (.of [0,4,8,12,16,21,24,28,32,37,40,44,49,52,56,60,65,68,72,76,80,84,88,92]) [23] [1,2] λ_ _=>?_;refine J.vT (bv x) rfl rfl (λhg a w he hC=>a4X tk rfl rfl he rfl rfl rfl (hA _ (hC rfl _ (B6 (i:=2) rfl))) (by omega) (j:=(k+j)/8) (by omega) (by rw[i9,hx];rfl)) ?_;refine J.q λ_=>?_;rw[h21,hor];refine J.q λ_=>?_;refine J.n (j+1) (by omega) (by omega) [0,1,2]
 ·simp only[c8]at h;obtain rfl:j=w:=by omega
  exact J.qx [1,2]
theorem c2q (A:Atom) (a:Option Addr) (n cap:Nat) (l:List UInt8) (hA:Rd A a 1 n (l.map bv)) (hl:l.length=n) (hn:n<=65536):FP 239 [.slice a n cap] [A] (Ps (.int .u32 (K.sum l:Nat)) [A]):=by
 refine FE [0] Tryz.func239 λX F hX=>?_;refine J.q λ_=>?_;refine J.l (α:=Nat) (λk=>k<=n) (λk=>[si 8 k,si 7 n,sv 6 (.slice a n cap),⟨3, .int .u32 (K.sum (l.take k):Nat),0, .tt⟩]) [] (λk=>[]) (λk=>n-k) (0) (j7 _) λk hI=>?_;refine J.qd (λ_ h=>?_) λ_ h=>?_
 ·simp only[d5,i5]at h;refine J.know (p:=∃g o,a=some ⟨g,o,none⟩) (λh' s=>Rd.addr (hA _ (s.get (i:=1) rfl)) (by omega)) λhk=>?_;obtain⟨gm,om,rfl⟩:=hk;obtain⟨x,hx⟩:∃x,l[k]? =some x:=⟨_,c9 (by omega)⟩;have hs:=K.sum_snoc l k x hx;refine J.q λ_=>?_;refine J.v (bv x) rfl rfl (λhg a w he hw=>a4X tk rfl rfl he rfl rfl rfl (hA _ (hw.get (i:=1) rfl)) (by omega) (j:=k) (by omega) (by rw[i9,hx];rfl)) ?_;refine J.qp ((Fn.of_same (a9D (K.sum (l.take k)) x.toNat (K.sum_lt _) x.toNat_lt))) [] λ_=>?_;rw[<- hs];refine J.q λ_=>?_;refine J.n (k+1) (by omega) (by omega) [0,1]
 simp only[c8,i5]at h;have htk:l.take k=l:=B1 (by omega);rw[htk];exact J.qx [1]
end
section
open Go.RowKit

theorem b9v (role lpn seq:Int):
  bits BinOp.or IntKind.u64 (bits BinOp.or IntKind.u64 (IntKind.u64.wrap (IntKind.u64.wrap role*72057594037927936)) (IntKind.u64.wrap (bits BinOp.and IntKind.u64 (IntKind.u64.wrap lpn) 65535*1099511627776))) (bits BinOp.and IntKind.u64 (IntKind.u64.wrap seq) 1099511627775)=(S.meta_ role lpn seq:Int):=by
 have w64:∀n:Int,IntKind.u64.wrap n=((n % 18446744073709551616).toNat:Int):=λn=>by
  have:IntKind.u64.wrap n=n % 18446744073709551616:=by simp[IntKind.wrap,IntKind.bits,IntKind.signed]
  rw[this];omega
 have hl:bits BinOp.and IntKind.u64 (IntKind.u64.wrap lpn) 65535=((lpn % 65536).toNat:Int):=by
  rw[w64,show(65535:Int)=((65535:Nat):Int)from rfl,u64_and_nat _ _ (by omega) (by omega),nat_mask16];omega
 have hs:bits BinOp.and IntKind.u64 (IntKind.u64.wrap seq) 1099511627775=((seq % 1099511627776).toNat:Int):=by
  rw[w64,show(1099511627775:Int)=((2^40-1:Nat):Int)from rfl,u64_and_nat _ _ (by omega) (by omega),Nat.and_two_pow_sub_one_eq_mod];omega
 have hr:IntKind.u64.wrap (IntKind.u64.wrap role*72057594037927936)=(((role % 256).toNat*72057594037927936:Nat):Int):=by rw[w64 role,w64];omega
 have hl2:IntKind.u64.wrap (((lpn % 65536).toNat:Int)*1099511627776)=(((lpn % 65536).toNat*1099511627776:Nat):Int):=by rw[w64];omega
 rw[hl,hs,hr,hl2,u64_or_nat _ _ (by omega) (by omega),nat_join 56 _ _ (by omega) (by omega),u64_or_nat _ _ (by omega) (by omega),nat_join 40 _ _ (by omega) (by omega)];unfold S.meta_;omega

set_option maxRecDepth 100000 in
set_option maxHeartbeats 400000 in
theorem a7z (role lpn seq:Int) (w:World):
  Calls Tryz.prog 237 #[.int .i64 role, .int .i64 lpn, .int .i64 seq] w λe w'=>e= .returned (.int .u64 (S.meta_ role lpn seq))/\w=w':=by
 have he:=Lib.hid (b9v role lpn seq)
 go_enter Tryz.func237,Tryz.ntmps237
 go_wp2
 go_ret
 exact⟨b0r he.out,rfl⟩

set_option maxRecDepth 100000 in
set_option maxHeartbeats 400000 in
theorem b1p (m:Nat) (hm:m<18446744073709551616) (w:World):
  Calls Tryz.prog 230 #[.int .u64 m] w λe w'=>e= .returned (.tuple #[.int .i64 (m/72057594037927936:Nat), .int .i64 (m/1099511627776 % 65536:Nat), .int .i64 (m % 1099511627776:Nat)])/\w=w':=by
 have e1:bits BinOp.and IntKind.u64 ((m:Int)/1099511627776) 65535=((m/1099511627776 % 65536:Nat):Int):=by
  rw[show(m:Int)/1099511627776=((m/1099511627776:Nat):Int)from rfl,show(65535:Int)=((65535:Nat):Int)from rfl,u64_and_nat _ _ (by omega) (by omega),nat_mask16]
 have e2:bits BinOp.and IntKind.u64 (m:Int) 1099511627775=((m % 1099511627776:Nat):Int):=by
  rw[show(1099511627775:Int)=((2^40-1:Nat):Int)from rfl,u64_and_nat _ _ (by omega) (by omega),Nat.and_two_pow_sub_one_eq_mod]
 have e3:wrap64 ((m/1099511627776 % 65536:Nat):Int)=((m/1099511627776 % 65536:Nat):Int):=IntWalk.wrap64_in _ (by omega);have e4:wrap64 ((m % 1099511627776:Nat):Int)=((m % 1099511627776:Nat):Int):=IntWalk.wrap64_in _ (by omega);have E1:=Lib.hid e1;have E2:=Lib.hid e2;have E3:=Lib.hid e3;have E4:=Lib.hid e4;clear e1 e2 e3 e4
 go_enter Tryz.func230,Tryz.ntmps230
 go_wp2
 go_ret3
 refine⟨?_,rfl⟩;show Ending.returned (Value.tuple #[.int .i64 ((m:Int)/72057594037927936), .int .i64 (wrap64 (bits BinOp.and IntKind.u64 ((m:Int)/1099511627776) 65535)), .int .i64 (wrap64 (bits BinOp.and IntKind.u64 (m:Int) 1099511627775))])=_;rw[E1.out,E2.out,E3.out,E4.out];rfl

theorem a2t:∀(l m:List UInt8),H4 (l.map bv) (m.map bv)=decide (l=m)
 | [],[]=>rfl
 | x::l,y::m=>by
  simp only[n4,H4,bv,a4G,a2t l m]
  by_cases h:x=y
  ·subst h;simp
  ·have:¬x.toNat=y.toNat:=λe=>h (UInt8.toNat_inj.1 e);have h2:((x.toNat:Int)==(y.toNat:Int))=false:=by simp;omega
   simp[h2,h]
 | [],_::_=>by simp[H4]
 | _::_,[]=>by simp[H4]
end
section
open Go Go.RowKit
theorem Rd.drop {A:Atom} {b o size n:Nat} {xs:List Value} (h:Rd A (some ⟨b,o,none⟩) size n xs) (k:Nat) (hk:k<=n):Rd A (some ⟨b,o+k*size,none⟩) size (n-k) (xs.drop (k*size)):=by
 intro h' s;obtain⟨h0,h1⟩:=h h' s;have hle:k*size<=n*size:=B5 _ hk;refine⟨by rw[C1,h0,Nat.sub_mul],λhk0=>?_⟩;obtain⟨b',o',cs,ty,fr,e1,e2,e3⟩:=h1 (by omega);simp only[l6,Addr.mk.injEq,and_true]at e1;obtain⟨rfl,rfl⟩:=e1;refine⟨b,_,cs,ty,fr,rfl,e2,?_⟩;rw[<- e3,List.drop_take,C0,Nat.sub_mul]
section
variable {P : Program} {E : Env} {n : Nat} {a : Act} {w : World}
theorem X1 {lv:List Lk} {o:Oper} {t:TypeId} {x y:Operand} {k1 k2 u1 u2 t2:Nat} {g1 g2:G} {xs ys:List Value} (hop:o.op= .binOp .eql t x y t2) (hx:ev E x=some ⟨k1, .agg xs.toArray,u1,g1⟩) (hy:ev E y=some ⟨k2, .agg ys.toArray,u2,g2⟩) (he:EnvOK n E a) (v1:g1.on=true) (v2:g2.on=true)
  (hl:V7 P 100 t=some lv) (fx:Fits lv xs) (fy:Fits lv ys) (hm:∀zs,mkV P t zs= .agg zs.toArray) (hg:P.eqGuardType P.depth t=false):(execOp a.eval o).run P w= .ok (.value (.bool (H4 xs ys))) w:=by
 have ex:=C5 he hx;have ey:=C5 he hy;simp only[Slot.val,v1,v2]at ex ey;have h:=a7G (w:=w) hl fx fy (hm _) (hm _);simp[execOp,hop,ex,ey,eqGuard,hg,h,Sem.run_bind]
theorem a2z {lv:List Lk} {o:Oper} {t:TypeId} {x y:Operand} {k1 k2 u1 u2 t2:Nat} {g1 g2:G} {xs ys:List Value} (hop:o.op= .binOp .neq t x y t2) (hx:ev E x=some ⟨k1, .agg xs.toArray,u1,g1⟩) (hy:ev E y=some ⟨k2, .agg ys.toArray,u2,g2⟩) (he:EnvOK n E a) (v1:g1.on=true) (v2:g2.on=true)
  (hl:V7 P 100 t=some lv) (fx:Fits lv xs) (fy:Fits lv ys) (hm:∀zs,mkV P t zs= .agg zs.toArray) (hg:P.eqGuardType P.depth t=false):(execOp a.eval o).run P w= .ok (.value (.bool (!H4 xs ys))) w:=by
 have ex:=C5 he hx;have ey:=C5 he hy;simp only[Slot.val,v1,v2]at ex ey;have h:=a7E (w:=w) hl fx fy (hm _) (hm _);simp[execOp,hop,ex,ey,eqGuard,hg,h,Sem.run_bind]
end
def c2a:List Lk:=[.int .u8, .int .u8, .int .u8, .int .u8, .int .u8, .int .u8, .int .u8, .int .u8, .int .u8, .int .u8, .int .u8, .int .u8, .int .u8, .int .u8, .int .u8, .int .u8, .int .u8, .int .u8, .int .u8, .int .u8, .int .u8, .int .u8, .int .u8, .int .u8, .int .u8, .int .u8, .int .u8, .int .u8, .int .u8, .int .u8, .int .u8, .int .u8]
theorem a8f:V7 Tryz.prog 100 110=some c2a:=by kernel_rfl
theorem a6c (p:List UInt8):Fits c2a (R8 p):=⟨rfl,rfl,rfl,rfl,rfl,rfl,rfl,rfl,rfl,rfl,rfl,rfl,rfl,rfl,rfl,rfl,rfl,rfl,rfl,rfl,rfl,rfl,rfl,rfl,rfl,rfl,rfl,rfl,rfl,rfl,rfl,rfl,trivial⟩
theorem b9r (zs:List Value):mkV Tryz.prog 110 zs= .agg zs.toArray:=by simp[mkV,Tryz.underlying110]
theorem c2d:Tryz.prog.eqGuardType Tryz.prog.depth 110=false:=by kernel_rfl
theorem c1m (x y:List UInt8) (hx:x.length=32) (hy:y.length=32):H4 (R8 x) (R8 y)=decide (x=y):=by rw[V6 x hx,V6 y hy,a2t]
def lvD:List Lk:=[.int .u8, .int .u8, .int .u8, .int .u8, .int .u8, .int .u8, .int .u8, .int .u8, .int .u8, .int .u8, .int .u8, .int .u8, .int .u8, .int .u8, .int .u8, .int .u8]
theorem a0f (p:List UInt8):Fits lvD (I3 p):=⟨rfl,rfl,rfl,rfl,rfl,rfl,rfl,rfl,rfl,rfl,rfl,rfl,rfl,rfl,rfl,rfl,trivial⟩
theorem eqD (x y:List UInt8) (hx:x.length=16) (hy:y.length=16):H4 (I3 x) (I3 y)=decide (x=y):=by rw[a1o x hx,a1o y hy,a2t]
theorem a1g:V7 Tryz.prog 100 36=some lvD:=by kernel_rfl
theorem mkD (zs:List Value):mkV Tryz.prog 36 zs= .agg zs.toArray:=by simp[mkV,Tryz.underlying36]
theorem gdD:Tryz.prog.eqGuardType Tryz.prog.depth 36=false:=by kernel_rfl
def shL (s:Sh):List Value:=[byC s.data 0,byC s.data 1,byC s.data 2,byC s.data 3,byC s.data 4,byC s.data 5,byC s.data 6,byC s.data 7,byC s.data 8,byC s.data 9,byC s.data 10,byC s.data 11,byC s.data 12,byC s.data 13,byC s.data 14,byC s.data 15,
 iI s.role,iI s.lpn,iI s.seq,iI s.kind,iI s.block,iI s.row,iI s.mask]
abbrev shV (s:Sh):Value:= .agg (shL s).toArray
abbrev pgV (p:List UInt8):Value:= .agg (R8 p).toArray
theorem b7N (role lpn seq:Int):FP 237 [iI role,iI lpn,iI seq] [] (Ps (.int .u64 (S.meta_ role lpn seq)) []):=Fn.of_same (a7z role lpn seq)
theorem c1g (m:Nat) (hm:m<18446744073709551616):FP 230 [.int .u64 m] [] (Ps (.tuple #[iI (m/72057594037927936:Nat),iI (m/1099511627776 % 65536:Nat),iI (m % 1099511627776:Nat)]) []):=Fn.of_same (b1p m hm)
def O9 (s:Sh):List UInt8:=if S.may s then S.put s else a2R
theorem a3E (s:Sh) (h:s.data.length=16):(O9 s).length=32:=by
 unfold O9;split
 ·exact S.length_put s h
 ·rfl
theorem b7S (p:List UInt8) (h:p.length=32):(S.getV p).data.length=16:=by
 unfold S.getV S.get;split
 ·simp[S.fields,h]
 ·rfl
section
variable {P : Program} {T : Tab} {E : Env} {w : World} {n0 : Nat} {a : Act}
theorem a2Z (hT:TabOK P T) {o:Oper} {ty e len:Nat} {x y:Operand} {k1 k2 t1 t2:Nat} {g1 g2:G} {ik:IntKind} {i:Int} {cs:Array Value} {v:Value} {ti:TI} (hop:o.op= .index ty x y) (hx:ev E x=some ⟨k1, .agg cs,t1,g1⟩) (hy:ev E y=some ⟨k2, .int ik i,t2,g2⟩) (he:EnvOK n0 E a) (v1:g1.on=true) (v2:g2.on=true)
  (hd:P.underlying ty=some (.array len e)) (hti:T.get e=some ti) (h1:ti.d.one=true) (hs:Nat.beq ti.size 1=true) (h0:0<=i) (hl:i<(len:Int)) (hv:cs[i.toNat]? =some v):(execOp a.eval o).run P w= .ok (.value v) w:=by
 have ex:=C5 he hx;have ey:=C5 he hy;simp only[Slot.val,v1,v2]at ex ey;obtain⟨d,f,z,ok⟩:=B4 (hT.get hti);have hsz:f.size=1:=by rw[<- ok.hsize];exact C8 hs
 have hp:=a7L (P:=P) (w:=w) ok.hd ok.hf cs i.toNat
 rw[ok.one h1,hv]at hp;simp only[execOp,hop,ex,ey,Instr.index,asIntOf,Sem.run_bind,Sem.run_pure,Result.andThen_ok,s8 hd,d8 (And.intro h0 hl),J0 ok.hf,hsz,V0,hp];simp
end
theorem b7L (n a:Int):FP 254 [iI n,iI a] [] (Ps (.bool (S.inB n a)) []):=by
 refine FE [0,0] Tryz.func254 λX F hX=>?_;exact J.qx []
theorem b9L (s:Sh) (h:s.data.length=16):FP 255 [shV s] [] (Ps (.bool (S.entry s)) []):=by
 refine FE [0] Tryz.func255 λX F hX=>?_;refine J.q λ_=>?_;refine J.v (.bool (decide (s.data=zeros16))) rfl rfl (λhg a w he hs=>?_) ?_
 ·rw[<- eqD s.data zeros16 h rfl];exact X1 (xs:=I3 s.data) (ys:=I3 zeros16) rfl rfl rfl he rfl rfl a1g (a0f _) (a0f _) mkD gdD
 refine J.qd (λ_ h1=>?_) λ_ h1=>?_
 ·rw[A4]at h1;refine J.qr [] λ_=>?_;exact⟨by rw[S.entry,d8 h1],rfl⟩
 rw[l8]at h1;refine J.qd (λ_ h2=>?_) λ_ h2=>?_
 ·rw[h2];rw[A4]at h2;refine J.qT λ_=>?_;refine J.qr [] λ_=>?_;exact⟨by rw[S.entry,d6 h1,d8 (.inl h2)],rfl⟩
 rw[l8]at h2;refine J.qd (λ_ h4=>?_) λ_ h4=>?_
 ·rw[A4]at h4;refine J.qr [] λ_=>?_;exact⟨by rw[S.entry,d6 h1,d8 (.inr h4)],rfl⟩
 rw[l8]at h4;refine J.qd (λ_ h3=>?_) λ_ h3=>?_
 ·rw[A4]at h3;refine J.qr [] λ_=>?_;exact⟨by rw[S.entry,d6 h1,d6 (by omega),d8 h3];rfl,rfl⟩
 rw[l8]at h3;refine J.qr [] λ_=>?_;exact⟨by rw[S.entry,d6 h1,d6 (by omega),d6 h3],rfl⟩
theorem a9J (s:Sh) (h:s.data.length=16):FP 227 [shV s] [] (Ps (.bool (S.may s)) []):=by
 have hc:=L.count_le s.mask;have e:∀k:Nat,decide ((k:Int)>=2)=decide (2<=k):=λk=>by rw[a2d];simp;omega
 refine FE [0] Tryz.func227 λX F hX=>?_;refine J.qp (b7L s.block 15) [] λ_=>?_;refine J.q λ_=>?_;refine J.cg hX (b7L s.row 7) ?_;refine J.q λ_=>?_;refine J.cg hX (a5f s.mask) ?_;refine J.qp (b7L s.seq 1099511627775) [] λ_=>?_;refine J.q λ_=>?_;refine J.cg hX (b7L s.lpn 65535) ?_;refine J.q λ_=>?_;refine J.cg hX (b7L s.role 255) ?_;refine J.q λ_=>?_;refine J.cg hX (b9L s h) ?_;refine J.run hX tk 400 (λb20=>rfl) (λb20=>?_) (λb20=>?_)
 ·repeat' (first | exact Conj.nil | refine Conj.cons ?_ ?_ | (intros;first | assumption | simp_all))
 refine J.ru hX [] ?_;exact⟨by rw[S.may,S.place,S.numbers,<- e];rfl,rfl⟩
theorem hbv (l:List UInt8):∀u∈l.map bv,u.oneCell'=true:=λu hu=>by
 obtain⟨x,_,rfl⟩:=List.mem_map.1 hu;rfl
theorem c0m (d z q:List UInt8) (hd:d.length=16) (hz:z.length=16) (hq:q.length<=16):(R8 (d++z)).take 16++q.map bv++(R8 (d++z)).drop (16+(q.map bv).length)=R8 (d++(q++z.drop q.length)):=by
 rw[V6 _ (by rw[f8];omega),V6 _ (by simp only[f8,C1];omega),l7,<- hd,t7,D6 (l7 _),t7,t7,m7];congr 2;rw[<- t7,<- List.map_drop,List.drop_append,t7,a2Q (by omega),R5,R4,Nat.add_sub_cancel_left]
def hdF (s:Sh):Nat->Int | 0=>s.block | 1=>s.row | 2=>s.mask | _=>s.kind
def hdk (s:Sh):Nat->List Bool | 0=>[]++Bt.bits (S.meta_ s.role s.lpn s.seq) 64 | k+1=>hdk s k++Bt.bits (hdF s k).toNat 8
theorem u4i:Tryz.prog.underlying 296=some (.array 4 3):=by kernel_rfl
theorem b7M (s:Sh) (h:s.data.length=16):FP 200 [shV s] [] (Ps (.tuple #[pgV (O9 s), .bool (S.may s)]) []):=by
 refine FE [0] Tryz.func200 λX F hX=>?_;refine J.q λbb=>?_;refine J.cb (a9J s h) [] ?_;refine cpq ⟨_,rfl,trivial,?_⟩;cases hm:S.may s with
 | false=>
  refine J.qT λ_=>?_;refine J.qr [] λ_=>?_;exact⟨by rw[O9,hm];rfl,rfl⟩
 | true=>
  obtain⟨m1,m2,m3,m4⟩:=S.may_bounds s hm;have hF:∀k,0<=hdF s k/\(hdF s k).toNat<2^8:=λk=>by
   unfold hdF;split<;>constructor<;>first | omega | (rw[show(2:Nat)^8=256 from rfl];omega)
  have hkl:∀k,(hdk s k).length=64+8*k:=λk=>by
   induction k with
   | zero=>simp[hdk,Bt.length_bits]
   | succ k ih=>rw[hdk,f8,ih,Bt.length_bits];omega
  refine J.qF λ_=>?_;refine J.q λcc=>?_;refine J.turn1 [] rfl (As:=[m9 5 1 none 0 0 []]) (λh s=>Sep.one ⟨rfl,rfl,rfl⟩) rfl ?_;refine J.cl (b1E (cc 0) []) (none,0) [4,5] ?_;refine J.qp ((Fn.of_same (a7z s.role s.lpn s.seq))) [] λ_=>?_;refine J.q λ_=>?_;refine J.ca hX (by kernel_rfl) (b4g (cc 0) _ 64 [] (by decide) (by decide) (S.meta_lt _ _ _) (by decide)) [4] 0 rfl rfl rfl rfl rfl rfl (λ_=>rfl) ?_;refine cpq ⟨_,rfl,trivial,?_⟩;refine J.q λ_=>?_;refine J.l (α:=Nat) (λk=>k<=4) (λk=>[si 32 k,⟨31, .agg #[iI s.block,iI s.row,iI s.mask,iI s.kind],0, .tt⟩,⟨5,pp (cc 0),5, .tt⟩,⟨1,pp (bb 0),2, .tt⟩,⟨2,pp (bb (0+1)),3, .tt⟩,⟨4,pp (bb (0+1+1)),4, .tt⟩]) [4] (λk=>[a5z (cc 0) (hdk s k)]) (λk=>4-k) (0) (j7 _) λk hI=>?_;refine J.qd (λ_ h1=>?_) λ_ h1=>?_
  ·simp only[d5]at h1;refine J.q λ_=>?_;refine J.v (iI (hdF s k)) rfl rfl (λhg a w he hw=>a2Z tk rfl rfl rfl he rfl rfl u4i rfl rfl rfl (by omega) (by omega) (by rcases(by omega:k=0\/k=1\/k=2\/k=3)with rfl | rfl | rfl | rfl<;>rfl)) ?_;have hq:=hF k;have hq2:(hdF s k).toNat<256:=hq.2;have hk2:=hkl k;refine J.qp (c1w (cc 0) (hdF s k) 8 (hdk s k) (by decide) (by decide) hq.1 hq.2 (by omega)) [4] λ_=>?_;refine J.q λ_=>?_;refine J.n (k+1) (by omega) (by omega) [0,1,2,3,4,5]
  simp only[c8]at h1;obtain rfl:k=4:=by omega
  have hk4:=hkl 4;have hp4:(Bt.pack (hdk s 4)).length=12:=by rw[Bt.length_pack,hk4]
  refine J.pq (.of [0,4,8,14]) [] [1] λ_ _=>?_;refine J.copy hX tk 3 1 rfl rfl rfl rfl rfl rfl rfl rfl rfl rfl ((a3m (bb 0) _ (shL s) 1 23 rfl).take 16 (by decide)) rfl rfl (I3 s.data) rfl (L5 rfl) (by rw[show(shL s).take (16*1)=I3 s.data from rfl,a1o _ h];exact hbv _) (R8 (s.data++zeros16)) (by rw[V6 _ (by rw[f8,h];rfl),t7,a1o _ h,l7,h];rfl) rfl (λ_=>rfl) ⟨⟨rfl,trivial⟩,?_⟩;refine J.p (.of [0,4,10,14]) [] [] λ_=>?_;refine J.qc (b0Y (cc 0) (hdk s 4) (by omega)) [4] λ_=>?_;rintro v As ⟨a,c,rfl,rfl⟩;refine⟨_,rfl,trivial,?_⟩;rw[hk4,show(64+8*4+7)/8=12 from rfl];refine J.know (λh' s=>D1 (c:=(a,c)) (by decide) (s.get (i:=6) rfl)) λhg=>?_;obtain⟨g,rfl⟩:=hg;refine J.q λ_=>?_;refine J.copy hX tk 3 6 rfl rfl rfl rfl rfl rfl rfl rfl rfl rfl (Y5 _ _ _ _ _ _) rfl rfl ((Bt.pack (hdk s 4)).map bv) (B1 (by rw[l7,hp4];decide)) (by rw[l7,hp4];exact L5 rfl) (hbv _) _ (c0m s.data zeros16 _ h rfl (by rw[hp4];decide)) rfl (λ_=>rfl) ⟨trivial,?_⟩;rw[hp4];have hQ:(s.data++(Bt.pack (hdk s 4)++zeros16.drop 12)).length=32:=by rw[f8,f8,h,hp4];rfl
  have hQ2:(s.data++(Bt.pack (hdk s 4)++zeros16.drop 12)).take 28=s.data++Bt.pack (hdk s 4):=by rw[<- m7];exact D6 (by rw[f8,h,hp4])
  have hR:=(a3m (bb (0+1+1)) 110 (R8 (s.data++(Bt.pack (hdk s 4)++zeros16.drop 12))) 1 32 rfl).take 28 (by decide);rw[V6 _ hQ,V0,<- List.map_take,hQ2,<- V6 _ hQ]at hR;refine J.q λ_=>?_;refine J.ca hX (by kernel_rfl) (c2q _ _ 28 32 _ hR (by rw[f8,h,hp4]) (by decide)) [3] 0 rfl rfl rfl rfl rfl rfl (λ_=>rfl) ?_;refine cpq ⟨_,rfl,trivial,?_⟩;have hsum:=K.sum_lt (s.data++Bt.pack (hdk s 4));refine J.q λ_=>?_;refine J.ca hX (by kernel_rfl) (b4g (cc 0) _ 32 (hdk s 4) (by decide) (by decide) hsum (by omega)) [4] 0 rfl rfl rfl rfl rfl rfl (λ_=>rfl) ?_;refine cpq ⟨_,rfl,trivial,?_⟩;have hl5:(hdk s 4++Bt.bits (K.sum (s.data++Bt.pack (hdk s 4))) 32).length=128:=by rw[f8,hk4,Bt.length_bits]
  have hput:O9 s=s.data++Bt.pack (hdk s 4++Bt.bits (K.sum (s.data++Bt.pack (hdk s 4))) 32):=by rw[O9,d8 hm];rfl
  generalize hdk s 4++Bt.bits (K.sum (s.data++Bt.pack (hdk s 4))) 32=L at hl5 hput ⊢;have hp5:(Bt.pack L).length=16:=by rw[Bt.length_pack,hl5]
  refine J.p (.of [0,4,10,14]) [] [] λ_=>?_;refine J.qc (b0Y (cc 0) L (by omega)) [4] λ_=>?_;rintro v As ⟨a,c,rfl,rfl⟩;refine⟨_,rfl,trivial,?_⟩;rw[hl5,show(128+7)/8=16 from rfl];refine J.know (λh' s=>D1 (c:=(a,c)) (by decide) (s.get (i:=7) rfl)) λhg=>?_;obtain⟨g',rfl⟩:=hg;refine J.q λ_=>?_;refine J.copy hX tk 3 7 rfl rfl rfl rfl rfl rfl rfl rfl rfl rfl (Y5 _ _ _ _ _ _) rfl rfl ((Bt.pack L).map bv) (B1 (by rw[l7,hp5];decide)) (by rw[l7,hp5];exact L5 rfl) (hbv _) _ (c0m s.data _ _ h (by rw[f8,hp4];rfl) (by rw[hp5];decide)) rfl (λ_=>rfl) ⟨trivial,?_⟩;rw[hp5,show(Bt.pack (hdk s 4)++zeros16.drop 12).drop 16=[]from a2Q (by rw[f8,hp4];decide),m6,<- hput];refine J.qr [] λ_=>?_;exact⟨by rw[hm];rfl,rfl⟩
def sel (j k:Nat) (x:Nat):Int:=if j<k then x else 0
theorem u4p:Tryz.prog.underlying 306=some (.array 4 305):=by kernel_rfl
def gof:Nat->Nat | 0=>20 | 1=>21 | 2=>22 | _=>19
def gtk (m:Nat) (b:List UInt8) (k:Nat):List Value:=[iI (m/72057594037927936:Nat),iI (m/1099511627776 % 65536:Nat),iI (m % 1099511627776:Nat),iI (sel 3 k (Bt.numAt b 88 8)),iI (sel 0 k (Bt.numAt b 64 8)),iI (sel 1 k (Bt.numAt b 72 8)),iI (sel 2 k (Bt.numAt b 80 8))]
theorem b7O (p:List UInt8) (h:p.length=32):FP 205 [pgV p] [] (Ps (.tuple #[shV (S.getV p),iI (S.getE p)]) []):=by
 have hpl:(p.take 16).length=16:=by rw[j9,h];rfl
 have hb:(p.drop 16).length=16:=by rw[C1,h]
 have hpc:(R8 p).take 16=I3 (p.take 16):=by rw[V6 p h,a1o _ hpl,List.map_take]
 have hone:∀u∈R8 p,u.oneCell'=true:=by rw[V6 p h];exact hbv p
 have hm:Bt.numAt (p.drop 16) 0 64<18446744073709551616:=Bt.numAt_lt _ 0 64;have hf:=λk=>Bt.numAt_lt (p.drop 16) k 8;rw[show(2:Nat)^8=256 from rfl]at hf;refine FE [0] Tryz.func205 λX F hX=>?_;refine J.q λbb=>?_;refine J.plan (.of [0,4,8,14]) [] [1] (by rw[hX.hP];kernel_rfl) (by kernel_rfl) ?_;refine J.q λ_=>?_;refine J.copy hX tk 3 1 rfl rfl rfl rfl rfl rfl rfl rfl rfl rfl (a3m (bb 0) _ (R8 p) 1 32 rfl) rfl rfl (I3 (p.take 16)) hpc (L5 rfl) hone (shL ⟨p.take 16,0,0,0,0,0,0,0⟩) rfl rfl (λ_=>rfl) ⟨⟨rfl,trivial⟩,?_⟩;have hR:=(a3m (bb 0) 110 (R8 p) 1 32 rfl).drop 16 (by decide);rw[show(R8 p).drop (16*1)=(p.drop 16).map bv from by rw[V6 p h,List.map_drop]]at hR;refine J.qc (b8o (some ⟨bb 0,0+16*1,none⟩) 16 16) [] λ_=>?_;rintro v As ⟨g,rfl,rfl⟩;refine⟨_,rfl,trivial,?_⟩;refine J.q λ_=>?_;refine J.ca hX (by kernel_rfl) (b8p g _ _ 16 16 _ hR hb (by decide) 0 64 (by decide) (by decide) (by decide)) [4,1] 0 rfl rfl rfl rfl rfl rfl (λ_=>rfl) ?_;refine cpq ⟨_,rfl,trivial,?_⟩;refine J.qp ((Fn.of_same (b1p _ hm))) [] λ_=>?_;refine J.q λ_=>?_;refine J.l (α:=Nat) (λk=>k<=4) (λk=>[si 39 k,⟨38, .agg #[.pointer (some ⟨bb (0+1+1),0+20,none⟩), .pointer (some ⟨bb (0+1+1),0+21,none⟩), .pointer (some ⟨bb (0+1+1),0+22,none⟩), .pointer (some ⟨bb (0+1+1),0+19,none⟩)],0, .tt⟩,⟨1,pp (bb 0),2, .tt⟩,⟨2,pp (bb (0+1)),3, .tt⟩,⟨4,pp (bb (0+1+1)),4, .tt⟩,sp 5 g]) [3,4] (λk=>[.pt (bb (0+1+1)) 212 (I3 (p.take 16)++gtk (Bt.numAt (p.drop 16) 0 64) (p.drop 16) k), .pt g 319 [.slice (some ⟨bb 0,0+16*1,none⟩) 16 16,iI (64+8*k:Nat)]]) (λk=>4-k) (0) (j7 _) λk hI=>?_;refine J.qd (λ_ h1=>?_) λ_ h1=>?_
 ·simp only[d5]at h1;have hq:=hf (64+8*k);have hk:k=0\/k=1\/k=2\/k=3:=by omega
  refine J.q λ_=>?_;refine J.v (.pointer (some ⟨bb (0+1+1),0+gof k,none⟩)) rfl rfl (λhg a w he hw=>a2Z tk rfl rfl rfl he rfl rfl u4p rfl rfl rfl (by omega) (by omega) (by rcases hk with rfl | rfl | rfl | rfl<;>rfl)) ?_;refine J.q λ_=>?_;refine J.ca hX (by kernel_rfl) (b8p g _ _ 16 16 _ hR hb (by decide) (64+8*k) 8 (by decide) (by decide) (by omega)) [4,1] 0 rfl rfl rfl rfl rfl rfl (λ_=>rfl) ?_;refine cpq ⟨_,rfl,trivial,?_⟩;refine J.q λ_=>?_;refine J.s1 3 (I3 (p.take 16)++gtk (Bt.numAt (p.drop 16) 0 64) (p.drop 16) (k+1)) ?_ ?_ ?_
  ·rcases hk with rfl | rfl | rfl | rfl<;>exact L5 rfl
  ·rcases hk with rfl | rfl | rfl | rfl<;>rfl
  refine J.q λ_=>?_;refine J.n (k+1) (by omega) (by omega) [0,1,2,3,4]
 simp only[c8]at h1;obtain rfl:k=4:=by omega
 rw[show I3 (p.take 16)++gtk (Bt.numAt (p.drop 16) 0 64) (p.drop 16) 4=shL (S.fields p)from rfl];refine J.qp (b7M (S.fields p) hpl) [] λ_=>?_;refine J.q λ_=>?_;refine J.v (.bool (!decide (O9 (S.fields p)=p))) rfl rfl (λhg a w he hs=>?_) ?_
 ·rw[<- c1m _ p (a3E _ hpl) h];exact a2z (xs:=R8 (O9 (S.fields p))) (ys:=R8 p) rfl rfl rfl he hg hg a8f (a6c _) (a6c _) b9r c2d
 have hget:S.get p=if(!S.may (S.fields p)|| !decide (O9 (S.fields p)=p))=true then none else some (S.fields p):=by
  unfold S.get O9;cases S.may (S.fields p)<;>simp
 refine J.qd (λ_ h1=>?_) λ_ h1=>?_
 ·rw[d8 h1]at hget;refine J.qr [] λ_=>?_;exact⟨by rw[S.getV,S.getE,hget];rfl,rfl⟩
 ·rw[d6 (by rw[h1];decide)]at hget;refine J.qr [] λ_=>?_;exact⟨by rw[S.getV,S.getE,hget];rfl,rfl⟩
structure En where
 lpn:Int
 seq:Int
 role:Int
 data:List UInt8
def enL (e:En):List Value:=[iI e.lpn,iI e.seq,iI e.role,byC e.data 0,byC e.data 1,byC e.data 2,byC e.data 3,byC e.data 4,byC e.data 5,byC e.data 6,byC e.data 7,byC e.data 8,byC e.data 9,byC e.data 10,byC e.data 11,byC e.data 12,byC e.data 13,byC e.data 14,byC e.data 15]
abbrev enV (e:En):Value:= .agg (enL e).toArray
namespace W
def sh (b r m:Int) (e:En):Sh:=⟨e.data,e.role,e.lpn,e.seq,1,b,r,m⟩
def ok (b r m:Int) (e:En):Bool:=S.may (sh b r m e)
def own (b r m:Int) (e:En):Sh:=if ok b r m e then sh b r m e else Sh.zero
end W
theorem b1j (b r m:Int) (e:En) (h:e.data.length=16):FP 199 [iI b,iI r,iI m,enV e] [] (Ps (.tuple #[shV (W.own b r m e), .bool (W.ok b r m e)]) []):=by
 refine FE [0,0,0,0] Tryz.func199 λX F hX=>?_;refine J.qp (a9J (W.sh b r m e) h) [] λ_=>?_;refine J.qd (λ_ h1=>?_) λ_ h1=>?_
 ·simp only[i4]at h1;refine J.qr [] λ_=>?_;exact⟨by rw[W.own,W.ok,h1];rfl,rfl⟩
 ·simp only[A9]at h1;refine J.qr [] λ_=>?_;exact⟨by rw[W.own,W.ok,h1];rfl,rfl⟩
namespace W
def mix (x s:List UInt8) (k:Nat):List UInt8:=(List.zipWith (· ^^^ ·) x s).take k++x.drop k
def ovM (m x:Int):Int:=IntKind.u64.wrap ((BitVec.ofInt 64 m ^^^ BitVec.ofInt 64 x).toNat:Int)
def over1 (x:List UInt8×Int) (s:Sh):List UInt8×Int:=(mix x.1 s.data 16,ovM x.2 (S.meta_ s.role s.lpn s.seq))
def over (l:List Sh):List UInt8×Int:=l.foldl over1 (zeros16,0)
end W
def J1 (l:List Sh):List Value:=l.flatMap shL
end
end Go.Proofs.YtmafiplddapokaaGreat
