/- Helpers. No condition. -/
import Derived.Test.YtnffkcabeecopaaGreatW03
import Derived.Test.YtnffkcabeecopaaGreatW04
import Derived.Test.YtnffkcabeecopaaGreatW05
import Derived.Test.YtnffkcabeecopaaGreatW07
import Derived.Test.YtnffkcabeecopaaGreatW08
import Derived.Test.YtnffkcabeecopaaGreatW09
import Derived.Shelf.Sort.Plain
set_option maxRecDepth 20000
set_option linter.all false
namespace Go.Proofs.YtnffkcabeecopaaGreat
open Go Go.RowKit
def a5x (x:Int):Bool:=x !=2&&x !=4
theorem b3W (A:Atom) (x:Int):FP 177 [iI x] [A] (Ps (.bool (a5x x)) [A]):=by
 refine FE [0] Tryz.func177 λX F hX=>?_;exact J.qx [1]
theorem a6o (N:Nand) (b r:Int):V.blankRow N b r= !(((M.rowN N b r N.dies).map (·.2)).any a5x):=by
 unfold V.blankRow;rw[List.any_map,List.not_any_eq_all_not];congr 1;funext x;show(x.2==2||x.2==4)= !(!(x.2==2)&& !(x.2==4));cases(x.2==2)<;>cases(x.2==4)<;>rfl
def V.upto (N:Nand) (f:Fnd) (k:Nat):Bool:=(List.range k).all λr:Nat=>decide ((r:Int)<=f.row)||V.blankRow N f.block r
theorem V.upto_succ (N:Nand) (f:Fnd) (k:Nat):V.upto N f (k+1)=(V.upto N f k&&(decide ((k:Int)<=f.row)||V.blankRow N f.block k)):=by
 unfold V.upto;rw[List.range_succ,List.all_append];simp
theorem V.upto_le (N:Nand) (f:Fnd) (k r0:Nat) (hr:f.row=(r0:Int)) (h:k<=r0+1):V.upto N f k=true:=by
 unfold V.upto;rw[List.all_eq_true];intro r hr2;rw[List.mem_range]at hr2;rw[decide_eq_true (by omega)];rfl
theorem b5Q (p:Nat) (N:Nand) (hN:N.Ok) (hR:N.Room) (sp:Nat) (H:Value) (f:Fnd) (r0:Nat) (hr:f.row=(r0:Int)) (hr2:r0<=1000):FP 122 [pp sp,fdV f] [i4 p N, .pt sp 198 [pp p,H]]
  (Ps (.bool (V.last N f)) [i4 p N, .pt sp 198 [pp p,H]]):=by
 have hbd:=hN.bd;refine FE [3,0] Tryz.func122 λX F hX=>?_;refine J.q λbb=>?_;rw[hr];refine J.q λ_=>?_;refine J.l (α:=Nat) (λk=>r0+1<=k/\V.upto N f k=true/\(k=r0+1\/k<=N.pages)) (λk=>[si 5 k,⟨0,pp sp,3, .tt⟩,⟨3,pp (bb 0),4, .tt⟩]) [] (λk=>[]) (λk=>N.pages-k) (r0+1) (⟨Nat.le_refl _,V.upto_le N f _ r0 hr (Nat.le_refl _), .inl rfl⟩) λk hI=>?_;refine J.qp (R9 p N) [1] λ_=>?_;refine J.qd (λ_ h1=>?_) λ_ h1=>?_
 ·simp only[decide_eq_true_eq,Int.ofNat_lt]at h1;refine J.p (.of [0,4,8,13,16,20,25,28,34,36,40,44,48,52]) [13] [1,2,3] λ_=>?_;refine J.qc (b5L p N hN hR f.block k) [1] λ_=>?_;rintro v As ⟨a1,c1,a2,c2,rfl,rfl⟩;refine⟨_,rfl,stq,?_⟩;refine J.q λ_=>?_;refine J.ca hX (by kernel_rfl) (a1L 177 [] a5x (i4 p N) (by kernel_rfl) ((M.rowN N f.block k N.dies).map (·.2)) (λx _=>b3W (i4 p N) x) a2 N.dies c2 (by simp[M.rowN]) (by omega)) [5,1] 0 rfl rfl rfl rfl rfl rfl (λ_=>rfl) ?_;refine cpq ⟨_,rfl,trivial,?_⟩;have hbl:=a6o N f.block k;have hk:=V.upto_succ N f k;have hlt:decide ((k:Int)<=f.row)=false:=by rw[decide_eq_false_iff_not];omega
  rw[hI.2.1,hlt]at hk;refine J.qd (λ_ h2=>?_) λ_ h2=>?_
  ·rw[h2]at hbl;refine J.qr [1,2] λ_=>?_;refine⟨?_,rfl⟩;have:V.last N f=false:=by
    unfold V.last;rw[Bool.and_eq_false_iff];left;rw[List.all_eq_false];exact⟨k,List.mem_range.2 h1,by rw[hlt,hbl];simp⟩
   rw[this]
  ·rw[h2]at hbl;rw[hbl]at hk;refine J.q λ_=>?_;refine J.n (k+1) (⟨by omega,hk,by omega⟩) (by omega) [0,1,2,3]
 ·simp only[decide_eq_false_iff_not,Int.ofNat_lt]at h1;have hup:V.upto N f N.pages=true:=by
   rcases hI.2.2 with h | h
   ·exact V.upto_le N f _ r0 hr (by omega)
   ·rw[show N.pages=k by omega];exact hI.2.1
  refine J.qp (L6 f.mask f.block f.row) [] λ_=>?_;have hv:V.last N f=((M.look N (G.parity f.mask f.block f.row) f.block f.row).2 !=4):=by
   unfold V.last;have:((List.range N.pages).all λr:Nat=>decide ((r:Int)<=f.row)||V.blankRow N f.block r)=true:=hup;rw[this,Bool.true_and]
  refine J.pq (.take true 0 (.take true 1 (.take true 2 (.take false 3 (.take true 4 (.take true 5 (.take true 6 (.take false 7 (.take true 8 (.take true 9 (.take false 10 (.take true 11 (.alt false 12 ((.of [52,56,60,66,70,72])) (.alt false 16 ((.of [50,52,56,60,70,72])) .non)))))))))))))) [18] [1,2,3] λ_ _=>?_;refine J.alts ?_ ?_
  ·skip
   refine J.qp (a1u p N hN hR (G.parity f.mask f.block f.row) f.block f.row) [1] λ_=>?_;refine J.qr [1,2] λ_=>?_;exact⟨by rw[hv],rfl⟩
  ·skip
   refine J.qn 1 λ_=>?_;refine J.qp (a1u p N hN hR (G.parity f.mask f.block f.row) f.block f.row) [1] λ_=>?_;refine J.qr [1,2] λ_=>?_;exact⟨by rw[hv],rfl⟩
theorem a5o (l:List Fnd) (r:List Value) (k:Nat) (x:Fnd) (h:l[k]? =some x):((j5 l++r).drop (k*25)).take 25=fnL x:=by
 have hk:k<l.length:=(List.getElem?_eq_some_iff.1 h).1;rw[List.drop_append_of_le_length (by rw[C7];omega),List.take_append_of_le_length (by rw[List.length_drop,C7];omega)];exact Q0 h
theorem a3Q:∀(l:List Fnd) (r:List Value) (k:Nat) (x:Fnd),k<l.length->(j5 l++r).take (k*25)++fnL x++(j5 l++r).drop (k*25+25)=j5 (l.set k x)++r
 | [],_,_,_,h=>by simp at h
 | y::l,r,0,x,h=>by simp[j5,fnL]
 | y::l,r,k+1,x,h=>by
  have:=a3Q l r k x (by simpa using h);have hy:(fnL y).length=25:=rfl;have e1:j5 (y::l)++r=fnL y++(j5 l++r):=by simp[j5]
  have e2:j5 ((y::l).set (k+1) x)++r=fnL y++(j5 (l.set k x)++r):=by simp[j5]
  rw[e1,e2,<- this,show(k+1)*25=(fnL y).length+k*25 from by omega,List.take_length_add_append,show(fnL y).length+k*25+25=(fnL y).length+(k*25+25)from by omega,<- List.drop_drop,List.drop_left' rfl];simp only[List.append_assoc]
def b5d (p:Fnd->Bool) (l:List Fnd):Int:=match l.findIdx? p with
 | some k=>k
 | none=> -1
theorem b0B {p:Fnd->Bool} {l:List Fnd} {k:Nat} {x:Fnd} (h:l[k]? =some x) (h0:∀i<k,p (l.getD i Fnd.zero)=false) (hp:p x=true):l.findIdx? p=some k:=by
 rw[List.findIdx?_eq_some_iff_getElem];obtain⟨h1,h2⟩:=List.getElem?_eq_some_iff.1 h;refine⟨h1,by rw[h2];exact hp,λj hj=>?_⟩;have:=h0 j hj;rw[List.getD_eq_getElem?_getD,List.getElem?_eq_getElem (by omega),Option.getD_some]at this;simp[this]
theorem b0C {p:Fnd->Bool} {l:List Fnd} (h0:∀i<l.length,p (l.getD i Fnd.zero)=false):l.findIdx? p=none:=by
 rw[List.findIdx?_eq_none_iff];intro x hx;obtain⟨i,hi,rfl⟩:=List.mem_iff_getElem.1 hx;have:=h0 i hi
 rwa [List.getD_eq_getElem?_getD,List.getElem?_eq_getElem hi,Option.getD_some]at this
theorem b1i (c:Nat) (cs:List Value) (p:Fnd->Bool) (A:Atom) (hcal:n9 Tryz.prog c=true) (l:List Fnd) (hf:∀x∈l,Fn Tryz.prog c (fdV x::cs) [A] (λv As=>v= .bool (p x)/\As=[A]))
  (a:Option Nat) (n cap:Nat) (hl:l.length=n) (hn:n<=4611686018427387904):FP 216 [slv a n cap,fnC c cs] [c9 202 25 a n cap (j5 l),A]
  (λv As=>v=iI (b5d p l)/\As=[c9 202 25 a n cap (j5 l),A]):=by
 refine FE [0,0] Tryz.func216 λX F hX=>?_;refine J.q λ_=>?_;refine J.l (α:=Nat) (λk=>k<=n/\∀i<k,p (l.getD i Fnd.zero)=false) (λk=>[si 8 k,si 7 n,sv 0 (slv a n cap),⟨1,fnC c cs,0, .tt⟩]) [] (λk=>[]) (λk=>n-k) (0) (⟨by omega,by omega⟩) λk hI=>?_;refine J.qd (λ_ h1=>?_) λ_ h1=>?_
 ·simp only[decide_eq_true_eq,Int.ofNat_lt]at h1;cases a with
  | none=>
   refine J.know (λh' s=>(s.get (i:=1) rfl).2.1) λhn0=>?_;omega
  | some g=>
   have hk:l[k]? =some (l.getD k Fnd.zero):=by rw[List.getD_eq_getElem?_getD,List.getElem?_eq_getElem (by omega),Option.getD_some]
   refine J.q λ_=>?_;refine J.v (fdV (l.getD k Fnd.zero)) rfl rfl (λhg a w he hs=>?_) ?_
   ·exact q9 tk rfl rfl he rfl rfl rfl (hs.get (i:=1) rfl) (by rw[show 0+(k:Int).toNat*25=k*25 from by omega];have:=a5o l [] k _ hk;rwa [List.append_nil]at this) rfl
   refine J.q λ_=>?_;refine J.call hX hcal (hf (l.getD k Fnd.zero) (List.mem_of_getElem? hk)) [2] 0 rfl rfl rfl rfl (by(repeat' (first | exact Conj.nil | refine Conj.cons ?_ ?_ | omega | exact hq0 | (simpa using hq0) | (exactλh=>h) | exact rfl | (intro hq;have hq0:=hq;try simp only[Bool.and_eq_true,Bool.or_eq_true,decide_eq_true_eq,Bool.not_eq_true',decide_eq_false_iff_not]at hq) | (simp;done) | (simp;omega) | decide))) rfl rfl (λ_=>rfl) ?_;refine cpq ⟨_,rfl,trivial,?_⟩;refine J.qd (λ_ h2=>?_) λ_ h2=>?_
   ·refine J.qr [1,2] λ_=>?_;exact⟨by rw[b5d,b0B hk hI.2 h2],rfl⟩
   ·refine J.q λ_=>?_;refine J.nx (k+1) (⟨by omega,λi hi=>by
     rcases Nat.lt_succ_iff_lt_or_eq.1 hi with h3 | h3
     ·exact hI.2 i h3
     ·rw[h3];exact h2⟩) (by omega) (λ_ s=>s)
 ·simp only[decide_eq_false_iff_not,Int.ofNat_lt]at h1;refine J.qr [1,2] λ_=>?_;exact⟨by rw[b5d,b0C (λi hi=>hI.2 i (by omega))],rfl⟩
theorem a8C (l:List Fnd):∀u∈j5 l,u.oneCell'=true:=by
 intro u hu;simp only[j5,List.mem_flatMap]at hu;obtain⟨s,_,hu⟩:=hu;simp only[fnL,List.mem_cons,List.not_mem_nil,or_false]at hu;rcases hu with rfl | rfl | rfl | rfl | rfl | rfl | rfl | rfl | rfl | rfl | rfl | rfl | rfl | rfl | rfl | rfl | rfl | rfl | rfl | rfl | rfl | rfl | rfl | rfl | rfl<;>rfl
theorem b1l (a:Option Nat) (n cap:Nat) (l:List Fnd) (hl:l.length=n) (hn:n<=1000000):FP 181 [slv a n cap] [c9 202 25 a n cap (j5 l)]
  (λv As=>∃a' c',v=slv a' n c'/\As=[c9 202 25 a n cap (j5 l),c9 202 25 a' n c' (j5 l)]):=by
 refine FE [0] Tryz.func181 λX F hX=>?_;cases a with
 | none=>
  refine J.know (λh' s=>(s.get (i:=1) rfl).2) λhn0=>?_;obtain⟨rfl,rfl⟩:=hn0;have:l=[]:=List.eq_nil_of_length_eq_zero hl;subst this;refine J.qT λ_=>?_;refine J.turn1 [] rfl (As:=[c9 202 25 none 0 0 (j5 [])]) (λh s=>Sep.one ⟨rfl,rfl,rfl⟩) rfl ?_;refine J.qr [1,2] λ_=>?_;exact⟨none,0,rfl,rfl⟩
 | some g=>
  refine J.qF λ_=>?_;refine J.qn 5 λbb=>?_;refine J.closeOwn (e:=202) (size:=25) (n:=0) (cap:=0) (xs:=[]) 2 rfl rfl rfl (Nat.le_refl _) (Nat.zero_le _) rfl rfl rfl ?_;refine J.q λ_=>?_;refine J.appendR hX tk (a:=some (bb 0)) (n:=0) (cap:=0) (xs:=[]) (oo:=0) (Ay:=c9 202 25 (some g) n cap (j5 l)) 2 1 0 rfl rfl rfl rfl rfl rfl rfl rfl rfl rfl (D0 _ _ (some g) _ _ _) rfl rfl rfl rfl (a8C l) ?_ ?_ (λ_=>rfl) λa' c'=>⟨_,rfl,trivial,?_⟩
  ·simp only[maxLen];omega
  ·omega
  rw[Nat.zero_add n,List.nil_append];refine J.qr [1,2] λ_=>?_;exact⟨a',c',rfl,rfl⟩
def DelF (p:Fnd->Bool) (l m:List Fnd) (i j:Nat):Prop:=m.length=l.length/\i<j/\j<=l.length/\m.drop j=l.drop j/\m.take i++(l.drop j).filter (λx=>!p x)=l.filter (λx=>!p x)
theorem DelF.start {p:Fnd->Bool} {l:List Fnd} {k:Nat} (h:l.findIdx? p=some k):DelF p l l k (k+1):=by
 rw[List.findIdx?_eq_some_iff_getElem]at h;obtain⟨h1,h2,h3⟩:=h;refine⟨rfl,by omega,by omega,rfl,?_⟩;have e:l=l.take k++l[k]::l.drop (k+1):=by rw[<- List.drop_eq_getElem_cons h1,List.take_append_drop]
 have e2:(l.take k).filter (λx=>!p x)=l.take k:=by
  rw[List.filter_eq_self];intro x hx;obtain⟨i,hi,rfl⟩:=List.mem_iff_getElem.1 hx;rw[List.getElem_take];have:=h3 i (by simp at hi;omega);simpa using this
 conv=>rhs;rw[e]
 rw[List.filter_append,e2,List.filter_cons_of_neg (by simp[h2])]
theorem DelF.skip {p:Fnd->Bool} {l m:List Fnd} {i j:Nat} (h:DelF p l m i j) (hj:j<l.length) (hp:p (m.getD j Fnd.zero)=true):DelF p l m i (j+1):=by
 obtain⟨h1,h2,h3,h4,h5⟩:=h;have e1:m[j]? =l[j]?:=by have:=congrArg (λz=>z[0]?) h4;simpa using this
 have hx:l[j]=m.getD j Fnd.zero:=by rw[List.getD_eq_getElem?_getD,e1,List.getElem?_eq_getElem hj,Option.getD_some]
 refine⟨h1,by omega,by omega,?_,?_⟩
 ·have:=congrArg (List.drop 1) h4;simpa[List.drop_drop]using this
 ·rw[<- h5,List.drop_eq_getElem_cons hj,List.filter_cons_of_neg (by rw[hx,hp];simp)]
theorem DelF.keep {p:Fnd->Bool} {l m:List Fnd} {i j:Nat} (h:DelF p l m i j) (hj:j<l.length) (hp:p (m.getD j Fnd.zero)=false):DelF p l (m.set i (m.getD j Fnd.zero)) (i+1) (j+1):=by
 obtain⟨h1,h2,h3,h4,h5⟩:=h;have e1:m[j]? =l[j]?:=by have:=congrArg (λz=>z[0]?) h4;simpa using this
 have hx:l[j]=m.getD j Fnd.zero:=by rw[List.getD_eq_getElem?_getD,e1,List.getElem?_eq_getElem hj,Option.getD_some]
 refine⟨by simp[h1],by omega,by omega,?_,?_⟩
 ·rw[List.drop_set_of_lt (by omega)];have:=congrArg (List.drop 1) h4;simpa[List.drop_drop]using this
 ·rw[<- h5,List.drop_eq_getElem_cons hj,List.filter_cons_of_pos (by rw[hx,hp];simp),hx,List.take_set,List.take_add_one,List.getElem?_eq_getElem (by omega)];rw[List.set_append_right _ _ (by simp;omega)];simp[List.length_take,Nat.min_eq_left (show i<=m.length by omega)]
theorem a9F (c:Nat) (cs:List Value) (p:Fnd->Bool) (A:Atom) (hcal:n9 Tryz.prog c=true) (hf:∀x,Fn Tryz.prog c (fdV x::cs) [A] (λv As=>v= .bool (p x)/\As=[A]))
  (a:Option Nat) (n cap:Nat) (l:List Fnd) (hl:l.length=n) (hn:n<=4611686018427387904):FP 180 [slv a n cap,fnC c cs] [c9 202 25 a n cap (j5 l),A]
  (λv As=>∃l',l'=l.filter (λx=>!p x)/\v=slv a l'.length cap/\As=[c9 202 25 a l'.length cap (j5 l'),A]):=by
 refine FE [0,0] Tryz.func180 λX F hX=>?_;refine J.qp (b1i c cs p A hcal l (λx _=>hf x) a n cap hl hn) [1,2] λ_=>?_;rw[b5d];cases hx:l.findIdx? p with
 | none=>
  dsimp only;refine J.qT λ_=>?_;refine J.qr [1,2] λ_=>?_;have:l.filter (λx=>!p x)=l:=by
   rw[List.filter_eq_self];intro x hm;rw[List.findIdx?_eq_none_iff]at hx;simp[hx x hm]
  exact⟨l,this.symm,by rw[hl],by rw[hl];rfl⟩
 | some k=>
  dsimp only;refine J.qd (λ_ h0=>?_) λ_ h0=>?_
  ·simp only[beq_iff_eq]at h0;omega
  have hk:k<n:=by rw[List.findIdx?_eq_some_iff_getElem]at hx;obtain⟨h1,_⟩:=hx;omega
  cases a with
  | none=>
   refine J.know (λh' s=>(s.get (i:=1) rfl).2.1) λhn0=>?_;omega
  | some g=>
   refine J.openOwn 1 rfl rfl (λ_=>rfl) λr q1 q2 q3 q4=>?_;refine J.q λ_=>?_;rw[show(k:Int)+1=((k+1:Nat):Int)from by omega];refine J.q λ_=>?_;refine J.l (α:=(Nat×Nat×List Fnd)) (λx=>DelF p l x.2.2 x.1 x.2.1) (λx=>[si 6 x.2.1,si 5 x.1,sv 0 (slv (some g) n cap),⟨1,fnC c cs,0, .tt⟩]) [1] (λx=>[.pt g 202 (j5 x.2.2++r)]) (λx=>n-x.2.1) ((k,k+1,l)) (DelF.start hx) λx hI=>?_;obtain⟨i,j,m⟩:=x;dsimp only at hI ⊢;have hml:m.length=n:=hI.1.trans hl;have hij:i<j:=hI.2.1;have hjn:j<=n:=by have:=hI.2.2.1;omega
   refine J.qd (λ_ h1=>?_) λ_ h1=>?_
   ·simp only[decide_eq_true_eq,Int.ofNat_lt]at h1;have hget:m[j]? =some (m.getD j Fnd.zero):=by rw[List.getD_eq_getElem?_getD,List.getElem?_eq_getElem (by omega),Option.getD_some]
    refine J.q λ_=>?_;refine J.v (fdV (m.getD j Fnd.zero)) rfl rfl (λhg a w he hs=>?_) ?_
    ·exact j7 tk rfl rfl he rfl rfl rfl (hs.get (i:=1) rfl) (by rw[show 0+(j:Int).toNat*25=j*25 from by omega];exact a5o m r _ _ hget) rfl
    refine J.q λ_=>?_;refine J.call hX hcal (hf (m.getD j Fnd.zero)) [2] 0 rfl rfl rfl rfl (by(repeat' (first | exact Conj.nil | refine Conj.cons ?_ ?_ | omega | exact hq0 | (simpa using hq0) | (exactλh=>h) | exact rfl | (intro hq;have hq0:=hq;try simp only[Bool.and_eq_true,Bool.or_eq_true,decide_eq_true_eq,Bool.not_eq_true',decide_eq_false_iff_not]at hq) | (simp;done) | (simp;omega) | decide))) rfl rfl (λ_=>rfl) ?_;refine cpq ⟨_,rfl,trivial,?_⟩;refine J.qd (λ_ h2=>?_) λ_ h2=>?_
    ·simp only[Bool.not_eq_true']at h2;refine J.q λ_=>?_;refine J.storeN hX tk 1 rfl rfl rfl rfl rfl rfl rfl rfl rfl rfl rfl rfl rfl ?_ (j5 (m.set i (m.getD j Fnd.zero))++r) ?_ rfl (λ_=>rfl) ⟨trivial,?_⟩
     ·rw[List.length_append,C7];show 0+(i:Int).toNat*25+25<=_;omega
     ·rw[show 0+(i:Int).toNat*25=i*25 from by omega];exact a3Q m r i _ (by omega)
     refine J.q λ_=>?_;refine J.n ((i+1,j+1,m.set i (m.getD j Fnd.zero))) (hI.keep (by omega) h2) (by dsimp only;omega) [0,1,2]
    ·simp only[Bool.not_eq_false']at h2;refine J.q λ_=>?_;refine J.n ((i,j+1,m)) (hI.skip (by omega) h2) (by dsimp only;omega) [0,1,2]
   ·simp only[decide_eq_false_iff_not,Int.ofNat_lt]at h1;obtain rfl:j=n:=by omega
    have hfil:m.take i=l.filter (λx=>!p x):=by
     have h5:=hI.2.2.2.2;rw[List.drop_of_length_le (by omega)]at h5;simpa using h5
    refine J.q λ_=>?_;refine J.clear hX tk 1 rfl rfl rfl rfl rfl rfl rfl rfl rfl rfl rfl ?_ (λ_=>rfl) (λ_=>rfl) λcs' z1 z2=>⟨trivial,?_⟩
    ·rw[List.length_append,C7];rw[C7]at q4;show 0+(i:Int).toNat*25+(j-(i:Int).toNat)*25<=_;have:(i:Int).toNat=i:=by omega
     rw[this];omega
    have hilen:(l.filter (λx=>!p x)).length=i:=by rw[<- hfil,List.length_take];omega
    refine J.closeOwn (e:=202) (size:=25) (n:=i) (cap:=cap) (xs:=j5 (l.filter (λx=>!p x))) 1 rfl rfl (by rw[C7,hilen]) (by omega) q3 (by rw[z1,List.length_append,C7,hml];rw[C7,hl]at q4;exact q4) ?_ rfl ?_
    ·have z3:(0+(i:Int).toNat*25)=i*25:=by omega
     rw[z3]at z2;rw[z2,<- hfil];have e:j5 m=j5 (m.take i)++j5 (m.drop i):=by
      conv=>lhs;rw[<- List.take_append_drop i m]
      simp only[j5,List.flatMap_append]
     rw[e,List.append_assoc,List.take_left' (by rw[C7,List.length_take,Nat.min_eq_left (by omega)])]
    refine J.qr [1,2] λ_=>?_;exact⟨_,rfl,by rw[hilen];rfl,by rw[hilen];rfl⟩
structure FSlot where
 a:Option Nat
 cap:Nat
 l:List Fnd
def FSlot.hdr (z:FSlot):Value:=slv z.a z.l.length z.cap
def FSlot.atom (z:FSlot):Atom:=c9 202 25 z.a z.l.length z.cap (j5 z.l)
def Y5 (Z:List FSlot):List Value:=Z.map FSlot.hdr
def a1b (Z:List FSlot):List Atom:=Z.map FSlot.atom
theorem a7r {Z:List FSlot} {k:Nat} {z:FSlot} (h:Z[k]? =some z):(Y5 Z)[0+(k:Int).toNat*1]? =some z.hdr:=by
 rw[show 0+(k:Int).toNat*1=k from by omega,Y5,List.getElem?_map,h];rfl
theorem a1a {Z:List FSlot} {k:Nat} {z:FSlot} (h:Z[k]? =some z):(a1b Z)[k]? =some z.atom:=by
 rw[a1b,List.getElem?_map,h];rfl
theorem a1E {Z:List FSlot} {k:Nat} {z:FSlot} (h:Z[k]? =some z):(a1b Z).set k z.atom=a1b Z:=by
 apply List.ext_getElem?;intro i;rw[List.getElem?_set];split
 ·rename_i e;subst e;split
  ·exact(a1a h).symm
  ·rename_i e2;rw[List.getElem?_eq_none (by omega)]
 ·rfl
theorem b3t (Z:List FSlot) (k:Nat) (z:FSlot):(a1b Z).set k z.atom=a1b (Z.set k z):=by rw[a1b,a1b,List.map_set]
theorem b3e (Z:List FSlot) (k:Nat) (z:FSlot):(Y5 Z).set k z.hdr=Y5 (Z.set k z):=by rw[Y5,Y5,List.map_set]
def V.standOf (l:List Fnd):Fnd×Bool:=match V.tops l with
 | []=>(Fnd.zero,false)
 | f::_=>(f,true)
def ScP (sp p g:Nat) (Z:List FSlot):List Atom:=[.pt sp 198 [pp p, .slice (some ⟨g,0,none⟩) Z.length Z.length], .pt g 199 (Y5 Z), .hp (HP.of (a1b Z))]
theorem b1q (sp p g:Nat) (Z:List FSlot) (k:Nat) (z:FSlot) (hz:Z[k]? =some z) (hn:Z.length<=100000) (hl:z.l.length<=100000):FP 120 [pp sp,iI k] (ScP sp p g Z)
  (Ps (.tuple #[fdV (V.standOf z.l).1, .bool (V.standOf z.l).2]) (ScP sp p g Z)):=by
 have hk:k<Z.length:=(List.getElem?_eq_some_iff.1 hz).1;refine FE [2,0] Tryz.func120 λX F hX=>?_;refine J.q λ_=>?_;refine J.v z.hdr rfl rfl (λhg a w he hs=>?_) ?_
 ·exact i7 tk rfl rfl he rfl rfl rfl (hs.get (i:=2) rfl) (a7r hz)
 refine J.openAt 3 k rfl rfl (a1a hz) rfl ?_;refine J.qc (b1p z.a z.l.length z.cap z.l rfl hl) [5] λ_=>?_;rintro v As ⟨a',c',rfl,rfl⟩;refine⟨_,rfl,trivial,?_⟩;have hv:V.standOf z.l=match V.tops z.l with
  | []=>(Fnd.zero,false)
  | f::_=>(f,true):=rfl
 rcases ht:V.tops z.l with _ | ⟨f,o⟩
 ·rw[ht]at hv;refine J.qT λ_=>?_;refine J.q λ_=>?_;refine J.closeAt (A:=z.atom) 3 5 k rfl rfl rfl ?_;rw[a1E hz];refine J.qr [1,2,3] λ_=>?_;exact⟨by rw[hv];rfl,rfl⟩
 ·rw[ht]at hv;refine J.know (λh' s=>i9 (c:=(a',c')) (by simp) (s.get (i:=6) rfl)) λhg=>?_;obtain⟨ga,rfl⟩:=hg;refine J.qd (λ_ h1=>?_) λ_ h1=>?_
  ·simp only[beq_iff_eq,List.length_cons]at h1;omega
  refine J.q λ_=>?_;refine J.v (fdV f) rfl rfl (λhg a w he hs=>?_) ?_
  ·exact q9 tk rfl rfl he rfl rfl rfl (hs.get (i:=6) rfl) rfl rfl
  refine J.q λ_=>?_;refine J.closeAt (A:=z.atom) 3 5 k rfl rfl rfl ?_;rw[a1E hz];refine J.qr [1,2,3] λ_=>?_;exact⟨by rw[hv];rfl,rfl⟩
theorem b1r (A:Atom) (x:Fnd):FP 182 [fdV x] [A] (Ps (.bool (!x.whole)) [A]):=by
 refine FE [0] Tryz.func182 λX F hX=>?_;exact J.qx [1]
theorem b3X (sp p g:Nat) (Z:List FSlot) (k:Nat) (z:FSlot) (hz:Z[k]? =some z) (hn:Z.length<=100000) (hl:z.l.length<=100000):FP 123 [pp sp,iI k] (ScP sp p g Z)
  (λv As=>∃a c,v=slv a (V.holds z.l).length c/\As=ScP sp p g Z++[c9 3 1 a (V.holds z.l).length c (f8 (V.holds z.l))]):=by
 have hk:k<Z.length:=(List.getElem?_eq_some_iff.1 hz).1;refine FE [2,0] Tryz.func123 λX F hX=>?_;refine J.q λ_=>?_;refine J.v z.hdr rfl rfl (λhg a w he hs=>?_) ?_
 ·exact i7 tk rfl rfl he rfl rfl rfl (hs.get (i:=2) rfl) (a7r hz)
 refine J.openAt 3 k rfl rfl (a1a hz) rfl ?_;refine J.qc (b1l z.a z.l.length z.cap z.l rfl (by omega)) [4] λ_=>?_;rintro v As ⟨a1,c1,rfl,rfl⟩;refine⟨_,rfl,trivial,?_⟩;refine J.closeAt (A:=z.atom) 3 4 k rfl rfl rfl ?_;rw[a1E hz];refine J.q λ_=>?_;refine J.ca hX (by kernel_rfl) (a9F 182 [] (λx=>!x.whole) (.pt sp 198 [pp p, .slice (some ⟨g,0,none⟩) Z.length Z.length]) (by kernel_rfl) (λx=>b1r _ x) a1 z.l.length c1 z.l rfl (by omega)) [5,1] 0 rfl rfl rfl rfl rfl rfl (λ_=>rfl) ?_;rintro v As ⟨l',hl',rfl,rfl⟩;refine⟨_,rfl,trivial,?_⟩;have hl2:l'=z.l.filter λf=>f.whole:=by rw[hl'];congr 1;funext x;simp
 have hll:l'.length<=z.l.length:=by rw[hl'];exact List.length_filter_le _ _
 have htl:=a2J l';have hh:V.holds z.l=(V.tops l').map (·.block):=by rw[hl2];rfl
 refine J.qc (b1p a1 l'.length c1 l' rfl (by omega)) [5] λ_=>?_;rintro v As ⟨a2,c2,rfl,rfl⟩;refine⟨_,rfl,trivial,?_⟩;refine J.turn1 [] rfl (As:=[c9 3 1 none 0 0 (f8 [])]) (λh s=>Sep.one ⟨rfl,rfl,rfl⟩) rfl ?_;refine J.q λ_=>?_;refine J.l (α:=(Nat×Option Nat×Nat)) (λw=>w.1<=(V.tops l').length) (λw=>[si 21 w.1,⟨20,iI (V.tops l').length,0, .tt⟩,sv 19 (slv a2 (V.tops l').length c2),sv 6 (slv w.2.1 w.1 w.2.2)]) [7] (λw=>[c9 3 1 w.2.1 w.1 w.2.2 (f8 (((V.tops l').take w.1).map (·.block)))]) (λw=>(V.tops l').length-w.1) ((0,none,0)) (Nat.zero_le _) λw hI=>?_;obtain⟨j,a3,c3⟩:=w;dsimp only at hI ⊢;refine J.qd (λ_ h1=>?_) λ_ h1=>?_
 ·simp only[decide_eq_true_eq,Int.ofNat_lt]at h1;obtain⟨x,hx⟩:∃x,(V.tops l')[j]? =some x:=⟨_,List.getElem?_eq_getElem h1⟩;have htk:((V.tops l').take (j+1)).map (·.block)=((V.tops l').take j).map (·.block)++[x.block]:=by rw[List.take_add_one,hx];simp
  refine J.know (λh' s=>i9 (c:=(a2,c2)) (by omega) (s.get (i:=6) rfl)) λhg=>?_;obtain⟨ga,rfl⟩:=hg;refine J.q λ_=>?_;refine J.v (fdV x) rfl rfl (λhg a w he hs=>?_) ?_
  ·exact q9 tk rfl rfl he rfl rfl rfl (hs.get (i:=6) rfl) (by rw[show 0+(j:Int).toNat*25=j*25 from by omega];exact Q0 hx) rfl
  refine J.q λ_=>?_;refine J.ap 7 9 0 ((L9 _ x.block).symm.trans (congrArg f8 htk.symm)) λa4 c4=>?_;refine J.q λ_=>?_;refine J.n ((j+1,a4,c4)) (by dsimp only;omega) (by dsimp only;omega) [0,1,2,3,4,5,6,7]
 ·simp only[decide_eq_false_iff_not,Int.ofNat_lt]at h1;obtain rfl:j=(V.tops l').length:=by omega
  rw[List.take_length,<- hh];refine J.qr [1,2,3,7] λ_=>?_;have hlen:(V.tops l').length=(V.holds z.l).length:=by rw[hh,List.length_map]
  rw[hlen];exact⟨a3,c3,rfl,rfl⟩
end Go.Proofs.YtnffkcabeecopaaGreat
namespace Go.Proofs.YtnffkcabeecopaaGreat
open Go Go.Shelf
def b4s:Ren:=⟨λn=>if n=125 then 184 else if n=128 then 226 else if n=129 then 227 else if n=189 then 124 else if n=215 then 153 else if n=216 then 223 else if n=257 then 183 else if n=294 then 217 else if n=295 then 218 else if n=296 then 219 else if n=297 then 220 else if n=298 then 221 else if n=299 then 222 else if n=300 then 224 else if n=301 then 225 else if n=328 then 253 else if n=329 then 254 else if n=330 then 255 else if n=331 then 256 else if n=332 then 257 else if n=343 then 273 else 0,λn=>if n=0 then 0 else if n=3 then 3 else if n=4 then 4 else if n=5 then 5 else if n=9 then 9 else if n=28 then 74 else if n=46 then 193 else if n=51 then 292 else if n=53 then 294 else if n=131 then 289 else if n=182 then 284 else if n=183 then 285 else if n=218 then 323 else if n=222 then 321 else if n=228 then 336 else if n=229 then 337 else 0,λn=>n⟩
theorem b2E:Lays.n189 Tryz.prog b4s where
 mixed:=by kernel_rfl
 f125:=by kernel_rfl
 f128:=by kernel_rfl
 f129:=by kernel_rfl
 f189:=by kernel_rfl
 f215:=by kernel_rfl
 f216:=by kernel_rfl
 f257:=by kernel_rfl
 f294:=by kernel_rfl
 f295:=by kernel_rfl
 f296:=by kernel_rfl
 f297:=by kernel_rfl
 f298:=by kernel_rfl
 f299:=by kernel_rfl
 f300:=by kernel_rfl
 f301:=by kernel_rfl
 f328:=by kernel_rfl
 f329:=by kernel_rfl
 f330:=by kernel_rfl
 f331:=by kernel_rfl
 f332:=by kernel_rfl
 f343:=by kernel_rfl
 t0:=by kernel_rfl
 a0:=λw=>by kernel_rfl
 z0:=λw=>by kernel_rfl
 v0:=λw=>by kernel_rfl
 t3:=by kernel_rfl
 a3:=λw=>by kernel_rfl
 z3:=λw=>by kernel_rfl
 v3:=λw=>by kernel_rfl
 t4:=by kernel_rfl
 a4:=λw=>by kernel_rfl
 z4:=λw=>by kernel_rfl
 v4:=λw=>by kernel_rfl
 t5:=by kernel_rfl
 a5:=λw=>by kernel_rfl
 z5:=λw=>by kernel_rfl
 v5:=λw=>by kernel_rfl
 t9:=by kernel_rfl
 a9:=λw=>by kernel_rfl
 z9:=λw=>by kernel_rfl
 v9:=λw=>by kernel_rfl
 t28:=by kernel_rfl
 a28:=λw=>by kernel_rfl
 z28:=λw=>by kernel_rfl
 v28:=λw=>by kernel_rfl
 t46:=by kernel_rfl
 a46:=λw=>by kernel_rfl
 z46:=λw=>by kernel_rfl
 v46:=λw=>by kernel_rfl
 t51:=by kernel_rfl
 a51:=λw=>by kernel_rfl
 z51:=λw=>by kernel_rfl
 v51:=λw=>by kernel_rfl
 t53:=by kernel_rfl
 a53:=λw=>by kernel_rfl
 z53:=λw=>by kernel_rfl
 v53:=λw=>by kernel_rfl
 t131:=by kernel_rfl
 a131:=λw=>by kernel_rfl
 z131:=λw=>by kernel_rfl
 v131:=λw=>by kernel_rfl
 t182:=by kernel_rfl
 a182:=λw=>by kernel_rfl
 z182:=λw=>by kernel_rfl
 v182:=λw=>by kernel_rfl
 t183:=by kernel_rfl
 a183:=λw=>by kernel_rfl
 z183:=λw=>by kernel_rfl
 v183:=λw=>by kernel_rfl
 t218:=by kernel_rfl
 a218:=λw=>by kernel_rfl
 z218:=λw=>by kernel_rfl
 v218:=λw=>by kernel_rfl
 t222:=by kernel_rfl
 a222:=λw=>by kernel_rfl
 z222:=λw=>by kernel_rfl
 v222:=λw=>by kernel_rfl
 t228:=by kernel_rfl
 a228:=λw=>by kernel_rfl
 z228:=λw=>by kernel_rfl
 v228:=λw=>by kernel_rfl
 t229:=by kernel_rfl
 a229:=λw=>by kernel_rfl
 z229:=λw=>by kernel_rfl
 v229:=λw=>by kernel_rfl
end Go.Proofs.YtnffkcabeecopaaGreat
namespace Go.Proofs.YtnffkcabeecopaaGreat
open Go Go.RowKit
def leI (x y:Int):Bool:=decide (x<=y)
def I7 (l:List Int):List Int:=l.mergeSort leI
theorem R6 (l:List Int):(I7 l).length=l.length:=by rw[I7,List.length_mergeSort]
theorem b0E {g n cap:Nat} {l:List Int} {w:World} (hl':l.length=n) (h:J5 3 1 (some g) n cap (f8 l) (hl w)):Go.Sort.Holds (Value.int .i64) w g 0 l.toArray:=by
 obtain⟨h0,cur,h1,h2,h3,h4,h5⟩:=h;have h1':w.heap[g]? =some (.cells cur 3 (0,0)):=h1;intro j hj;have hj':j<l.length:=by simpa using hj
 have hc:cur.toList[j]? =some (.int .i64 l[j]):=by
  have:(cur.toList.take (n*1))[j]? =(f8 l)[j]?:=by rw[h5]
  rw[List.getElem?_take_of_lt (by omega)]at this;rw[this,f8,List.getElem?_map,List.getElem?_eq_getElem hj'];rfl
 have hg:l.toArray[j]! =l[j]:=by simp[hj']
 rw[hg];refine⟨?_,?_⟩
 ·simp only[World.cell?,Nat.zero_add,h1'];rw[Array.getElem?_toList]at hc;simp[hc]
 ·simp[World.frozen?,h1']
theorem b3R (a:Option Nat) (n cap:Nat) (l:List Int) (hl':l.length=n) (hn:n<=1000000):Fn Tryz.prog 124 [slv a n cap] [c9 3 1 a n cap (f8 l)]
  (λv As=>v= .tuple #[]/\As=[c9 3 1 a n cap (f8 (I7 l))]):=by
 cases a with
 | none=>
  intro F w s;have h0:n=0:=(s.get (i:=1) rfl).2.1;subst h0;have:l=[]:=List.eq_nil_of_length_eq_zero hl';subst this;have e:I7 []=E8 []:=by rw[I7,List.mergeSort_nil];rfl
  rw[e];exact a2V none 0 cap [] rfl (by omega) F w s
 | some g=>
  intro F w s;have ho:J5 3 1 (some g) n cap (f8 l) (hl w):=s.get (i:=1) rfl;have hH:=b0E hl' ho;obtain⟨h0,cur,h1,h2,h3,h4,h5⟩:=ho;have h1':w.heap[g]? =some (.cells cur 3 (0,0)):=h1;have hlt:g<w.heap.size:=(Array.getElem?_eq_some_iff.1 h1').1;have hc:=Any.slices_Sort_int b2E g 0 cap l w hH hlt (by omega);subst hl';refine Calls.mono hc λe w' ⟨e1,m,os,e2⟩=>?_;subst e1;have hsz:w.heap.size<=w'.heap.size:=by rw[e2];simp[Go.Sort.grow]
  have hother:∀k,k<w.heap.size->some k≠some g->w'.heap[k]? =w.heap[k]?:=λk hk hne=>by
   rw[e2];have:g≠k:=λe=>hne (by rw[e]);show(w.heap.modify g (Go.Sort.onCells (Go.Sort.putCells (Value.int .i64) 0 (I7 l).toArray))++os)[k]? =_;rw[Array.getElem?_append_left (by rw[Array.size_modify];exact hk),Array.getElem?_modify,if_neg this]
  have hthis:w'.heap[g]? =some (.cells (Go.Sort.putCells (Value.int .i64) 0 (I7 l).toArray cur) 3 (0,0)):=by
   rw[e2];show(w.heap.modify g (Go.Sort.onCells (Go.Sort.putCells (Value.int .i64) 0 (I7 l).toArray))++os)[g]? =_;rw[Array.getElem?_append_left (by rw[Array.size_modify];exact hlt),Array.getElem?_modify,if_pos rfl,h1'];rfl
  have hgr:w.grownBy w' (some g):=⟨by rw[e2];rfl,by rw[e2];rfl,by rw[e2];rfl,hsz,hother⟩;refine⟨.tuple #[],_,rfl,⟨rfl,rfl⟩,?_,⟨hgr.os,hgr.tape,hgr.output,hsz⟩⟩;refine Sep.step s (i:=1) (A:=c9 3 1 (some g) l.length cap (f8 l)) rfl (x:=some g) (x':=some g) (λh g' hs e=>?_) hgr (.inl rfl) (λh hh=>?_)
  ·injection e with e;subst e;obtain⟨_,cur',q,_⟩:=hs;exact⟨_,q⟩
  ·refine⟨by rw[f8,List.length_map,R6,Nat.mul_one],_,(hh g rfl).trans hthis,h2,h3,?_,?_⟩
   ·rw[Go.Sort.putCells,Array.size_mapIdx];exact h4
   ·apply List.ext_getElem?;intro i;rw[Nat.mul_one,List.getElem?_take];split
    ·rename_i hi;have hi2:i<(I7 l).length:=by rw[R6];exact hi
     rw[Array.getElem?_toList,Go.Sort.putCells,Array.getElem?_mapIdx,Array.getElem?_eq_getElem (by omega),Option.map_some,if_pos ⟨Nat.zero_le _,by simpa using hi2⟩,f8,List.getElem?_map,List.getElem?_eq_getElem hi2];simp[hi2]
    ·rw[List.getElem?_eq_none (by rw[f8,List.length_map,R6];omega)]
end Go.Proofs.YtnffkcabeecopaaGreat
namespace Go.Proofs.YtnffkcabeecopaaGreat
structure Scd where
 tb:Tb
 torn:List En
 first:Nat
 held:List Int
 next:Int
 pages:Nat
structure Sst where
 tb:Tb
 torn:List En
 held:List Int
 others:List En
namespace V
def nextOf (l:List Fnd):Int:=l.foldl (λm f=>max m (f.en.seq+1)) 1
def step (N:Nand) (L:List Fnd) (s:Sst) (k:Nat):Sst:=
 if(standOf (of L k)).2=true then
  if(standOf (of L k)).1.whole=true then {s with tb:=s.tb.put (standOf (of L k)).1.en (standOf (of L k)).1.block (standOf (of L k)).1.row (standOf (of L k)).1.slot (standOf (of L k)).1.mask}
  else if last N (standOf (of L k)).1=true then⟨s.tb.put (standOf (of L k)).1.en (standOf (of L k)).1.block (standOf (of L k)).1.row (standOf (of L k)).1.slot (standOf (of L k)).1.mask,s.torn++[(standOf (of L k)).1.en],s.held++holds (of L k),s.others⟩
  else⟨s.tb.put (standOf (of L k)).1.en (standOf (of L k)).1.block (standOf (of L k)).1.row (standOf (of L k)).1.slot (standOf (of L k)).1.mask,s.torn,s.held,s.others++[(standOf (of L k)).1.en]⟩
 else s
def goS (N:Nand) (L:List Fnd) (n:Int) (k:Nat):Sst:=(List.range k).foldl (step N L) ⟨Tb.new n,[],[],[]⟩
def size (n:Int):Nat:=(min (max n 0) 65536).toNat
def scanOf (N:Nand) (L:List Fnd) (n:Int):Scd:=⟨(goS N L n (size n)).tb,(goS N L n (size n)).torn++(goS N L n (size n)).others,(goS N L n (size n)).torn.length,n8 (I7 (goS N L n (size n)).held),nextOf L,L.length⟩
def scan (N:Nand) (n:Int):Scd:=scanOf N (all N) n
theorem goS_succ (N:Nand) (L:List Fnd) (n:Int) (k:Nat):goS N L n (k+1)=step N L (goS N L n k) k:=by unfold goS;rw[List.range_succ,List.foldl_append];rfl
theorem step_tb (N:Nand) (L:List Fnd) (s:Sst) (k:Nat):(step N L s k).tb=s.tb\/(standOf (of L k)).2=true/\(step N L s k).tb=s.tb.put (standOf (of L k)).1.en (standOf (of L k)).1.block (standOf (of L k)).1.row (standOf (of L k)).1.slot (standOf (of L k)).1.mask:=by
 unfold step;split
 ·right;rename_i h;refine⟨h,?_⟩;split
  ·rfl
  ·split<;>rfl
 ·left;rfl
theorem goS_ok (N:Nand) (L:List Fnd) (n:Int):∀k,(goS N L n k).tb.Ok
 | 0=>Tb.Ok.new n
 | k+1=>by
  rw[goS_succ];rcases step_tb N L (goS N L n k) k with h | ⟨_,h⟩
  ·rw[h];exact goS_ok N L n k
  ·rw[h];exact(goS_ok N L n k).put _ _ _ _ _
theorem goS_log (N:Nand) (L:List Fnd) (n:Int):∀k,(goS N L n k).tb.logical=min (max n 0) 65536
 | 0=>rfl
 | k+1=>by
  rw[goS_succ];rcases step_tb N L (goS N L n k) k with h | ⟨_,h⟩
  ·rw[h];exact goS_log N L n k
  ·rw[h,Tb.put_logical];exact goS_log N L n k
theorem tops_mem {l:List Fnd} {f:Fnd}:f∈tops l->f∈l:=by
 have:∀k,k<=l.length->∀f∈tops (l.take k),f∈l:=by
  intro k
  induction k with
  | zero=>intro _ f hf;simp[tops]at hf
  | succ k ih=>
   intro hk f hf;rw[a1m (List.getElem?_eq_getElem (by omega))]at hf;have ih:=ih (by omega);have hx:l[k]∈l:=List.getElem_mem _
   revert hf ih
   generalize tops (l.take k)=o;intro hf ih;cases o with
   | nil=>simp[topsStep]at hf;rw[hf];exact hx
   | cons h t=>
    simp only[topsStep]at hf;split at hf
    ·simp at hf;rw[hf];exact hx
    ·split at hf
     ·exact ih f hf
     ·rw[List.mem_append]at hf;rcases hf with hf | hf
      ·exact ih f hf
      ·simp at hf;rw[hf];exact hx
 intro h;refine this l.length (Nat.le_refl _) f ?_
 rwa [List.take_length]
theorem standOf_mem {l:List Fnd} (h:(standOf l).2=true):(standOf l).1∈l:=by
 have hm:∀f,f∈tops l->f∈l:=λf=>tops_mem
 revert h
 unfold standOf;cases ht:tops l with
 | nil=>intro h;cases h
 | cons f o=>intro _;exact hm f (by rw[ht];exact List.mem_cons_self ..)
theorem of_len (L:List Fnd) (k:Int):(of L k).length<=L.length:=List.length_filter_le _ _
theorem holds_len (l:List Fnd):(holds l).length<=l.length:=by
 unfold holds;rw[List.length_map];exact Nat.le_trans (a2J _) (List.length_filter_le _ _)
theorem of_sum (L:List Fnd):∀k,((List.range k).map λi:Nat=>(of L (i:Int)).length).sum<=L.length:=by
 intro k
 induction L with
 | nil=>
  have:∀k:Nat,((List.range k).map λi:Nat=>(of [] (i:Int)).length).sum=0:=λk=>by
   induction k with
   | zero=>rfl
   | succ k ih=>rw[List.range_succ,List.map_append,List.sum_append,ih];rfl
  rw[this];exact Nat.zero_le _
 | cons x L ih=>
  have h1:∀i:Nat,(of (x::L) (i:Int)).length=(of L (i:Int)).length+(if x.en.lpn=(i:Int)then 1 else 0):=by
   intro i;unfold of;rw[List.filter_cons];split
   ·rename_i h;simp only[beq_iff_eq]at h;rw[if_pos h,List.length_cons]
   ·rename_i h;simp only[beq_iff_eq]at h;rw[if_neg h];rfl
  have h2:∀k,((List.range k).map λi:Nat=>(of (x::L) (i:Int)).length).sum<=((List.range k).map λi:Nat=>(of L (i:Int)).length).sum+(if 0<=x.en.lpn/\x.en.lpn<(k:Int)then 1 else 0):=by
   intro k
   induction k with
   | zero=>simp
   | succ k ih=>
    rw[List.range_succ,List.map_append,List.sum_append,List.map_append,List.sum_append];simp only[List.map_cons,List.map_nil,List.sum_cons,List.sum_nil,Nat.add_zero];rw[h1];split at ih<;>split<;>split<;>omega
  have:=h2 k;rw[List.length_cons];split at this<;>omega
theorem goS_len (N:Nand) (L:List Fnd) (n:Int):∀k,(goS N L n k).torn.length<=k/\(goS N L n k).others.length<=k/\(goS N L n k).held.length<=((List.range k).map λi:Nat=>(of L (i:Int)).length).sum
 | 0=>by simp[goS]
 | k+1=>by
  have ih:=goS_len N L n k;have hh:=holds_len (of L k);rw[goS_succ,List.range_succ,List.map_append,List.sum_append];simp only[List.map_cons,List.map_nil,List.sum_cons,List.sum_nil,Nat.add_zero];unfold step;split
  ·split
   ·dsimp only;omega
   ·split
    ·simp only[List.length_append,List.length_cons,List.length_nil];omega
    ·simp only[List.length_append,List.length_cons,List.length_nil];omega
  ·omega
theorem goS_held (N:Nand) (L:List Fnd) (n:Int) (k:Nat):(goS N L n k).held.length<=L.length:=Nat.le_trans (goS_len N L n k).2.2 (of_sum L k)
theorem nextOf_snoc (l:List Fnd) (f:Fnd):nextOf (l++[f])=max (nextOf l) (f.en.seq+1):=by unfold nextOf;rw[List.foldl_append];rfl
theorem of_snoc (l:List Fnd) (f:Fnd) (k:Int):of (l++[f]) k=if f.en.lpn=k then of l k++[f]else of l k:=by
 unfold of;rw[List.filter_append,List.filter_cons]
 by_cases h:f.en.lpn=k
 ·rw[if_pos h,if_pos (by simpa using h)];rfl
 ·rw[if_neg h,if_neg (by simpa using h)];simp
def upB (N:Nand) (b:Nat):List Fnd:=(List.range b).flatMap λb=>(List.range N.pages).flatMap λr=>R.all N (b:Nat) (r:Nat)
def upR (N:Nand) (b r:Nat):List Fnd:=upB N b++(List.range r).flatMap λr=>R.all N (b:Nat) (r:Nat)
def upI (N:Nand) (b r i:Nat):List Fnd:=upR N b r++(R.all N (b:Nat) (r:Nat)).take i
theorem upR_zero (N:Nand) (b:Nat):upR N b 0=upB N b:=by simp[upR]
theorem upI_zero (N:Nand) (b r:Nat):upI N b r 0=upR N b r:=by simp[upI]
theorem upR_succ (N:Nand) (b r:Nat):upR N b (r+1)=upI N b r (R.all N (b:Nat) (r:Nat)).length:=by
 unfold upI upR;rw[List.take_length,List.range_succ,List.flatMap_append,List.append_assoc];simp
theorem upB_succ (N:Nand) (b:Nat):upB N (b+1)=upR N b N.pages:=by
 unfold upR upB;rw[List.range_succ,List.flatMap_append];simp
theorem upB_all (N:Nand):upB N N.blocks=all N:=rfl
theorem upI_succ {N:Nand} {b r i:Nat} {x:Fnd} (h:(R.all N (b:Nat) (r:Nat))[i]? =some x):upI N b r (i+1)=upI N b r i++[x]:=by
 unfold upI;rw[List.take_add_one,h,Option.toList_some,List.append_assoc]
theorem nextOf_bd {l:List Fnd} (h:∀f∈l,a1K f.en):1<=nextOf l/\nextOf l<=1099511627776:=by
 have:∀(l:List Fnd) (m:Int),(∀f∈l,a1K f.en)->1<=m->m<=1099511627776->1<=l.foldl (λm f=>max m (f.en.seq+1)) m/\l.foldl (λm f=>max m (f.en.seq+1)) m<=1099511627776:=by
  intro l
  induction l with
  | nil=>intro m _ h1 h2;exact⟨h1,h2⟩
  | cons x l ih=>
   intro m hl h1 h2;have:=hl x (List.mem_cons_self ..);unfold a1K at this;exact ih (max m (x.en.seq+1)) (λf hf=>hl f (List.mem_cons_of_mem _ hf)) (by omega) (by omega)
 exact this l 1 h (by omega) (by omega)
end V
end Go.Proofs.YtnffkcabeecopaaGreat
namespace Go.Proofs.YtnffkcabeecopaaGreat
open Go Go.RowKit
namespace Tl
def ofD (N:Nand) (b:Nat) (t:Tl) (d:Nat):Tl:=
 let t:=t.wore b (N.wornAt d b)
 if L.has (t.mask b) d&&decide ((N.next d b:Int)>0)then t.clean b false else t
def ofB (N:Nand) (t:Tl) (b:Nat):Tl:=(List.range N.dies).foldl (ofD N b) t
def of (N:Nand):Tl:=(List.range N.blocks).foldl (ofB N) (Dv.seeDead N (Tl.new N.dies N.blocks N.pages))
end Tl
structure Fv where
 S:Dv
 L:List En
 nx:Int
 off:Bool
namespace Fv
def lg (F:Fv):Int:=lgN F.S.N.dies F.S.N.blocks F.S.N.pages
def ask (F:Fv):Fv:={F with off:=F.off||F.S.N.off}
def told (F:Fv) (e:Int):Fv:={F with off:=F.off||e==9}
def get (F:Fv) (i:Int):List UInt8×Int:=
 if(T7 F.L i).2 then((T7 F.L i).1.data,0)
 else match Tb.look F.S.T.at_ i with
  | none=>(zeros16,0)
  | some a=>
   if a.role=2 then(zeros16,0)else if a.role=4 then(zeros16,10)
   else
    let x:=R.read F.S.N a.block a.row a.slot a.mask
    if x.2≠0\/x.1.lpn≠i\/x.1.seq≠a.seq then(zeros16,10)else(x.1.data,0)
def read (F:Fv) (i:Int):Fv×List UInt8×Int:=
 if F.ask.off then(F.ask,zeros16,9)
 else if i<0\/i>=F.ask.lg then(F.ask,zeros16,3)
 else(F.ask,F.ask.get i)
def writes (F:Fv):Fv×Int:=
 let r:=F.S.room
 if r.2≠0 then({F with S:=r.1}.told r.2,r.2)
 else
  let w:=r.1.pen F.L
  ({F with S:=w.1,L:=J1 F.L (F.L.take w.2.1.toNat)}.told w.2.2,w.2.2)
def put (F:Fv) (e:En):Fv:={F with L:=I2 F.L {e with seq:=F.nx},nx:=F.nx+1}
def waits (F:Fv) (e:En):Fv×Int:=
 if F.ask.off then(F.ask,9)
 else if e.lpn<0\/e.lpn>=F.ask.lg then(F.ask,3)
 else if(F.ask.L.length:Int)>=F.ask.S.slots then
  let w:=F.ask.writes
  if w.2≠0 then w else(w.1.put e,0)
 else(F.ask.put e,0)
def write (F:Fv) (i:Int) (d:List UInt8):Fv×Int:=F.waits ⟨i,0,1,d⟩
def trim (F:Fv) (i:Int):Fv×Int:=F.waits ⟨i,0,2,zeros16⟩
def flushGo:Nat->Fv->Fv×Int
 | 0,F=>(F,0)
 | k+1,F=>
  if F.L.length=0 then(F,0)
  else
   let w:=F.writes
   if w.2≠0 then w else flushGo k w.1
def flush (F:Fv):Fv×Int:=if F.ask.off then(F.ask,9)else flushGo F.L.length F.ask
def tick (F:Fv):Fv×Int:=
 if F.ask.off then(F.ask,9)
 else
  let s:=F.ask.S.step 4
  ({F.ask with S:=s.1}.told s.2.2,s.2.2)
def whole (F:Fv):Fv×Bool:=
 if F.ask.off then(F.ask,false)
 else({F.ask with S:=F.ask.S.seen},F.ask.S.seen.leftN==0)
end Fv
namespace Dv
def holds (S:Dv) (l:List Int) (on:Bool):Dv:={S with t:=l.foldl (λt b=>t.hold b on) S.t}
end Dv
def u0 (N:Nand):Dv×Int:=
 let s:=V.scan N (lgN N.dies N.blocks N.pages)
 let S:Dv:=⟨N,Tl.of N,s.tb,-1,0,0,max s.next 1⟩
 let a:=(S.holds s.held true).torn (s.torn.take s.first)
 if a.2≠0 then a
 else
  let b:=(a.1.holds s.held false).clear
  if b.2≠0 then b
  else
   let c:=b.1.torn (s.torn.drop s.first)
   if c.2≠0 then c else c.1.room
def Fv.of (S:Dv):Fv:=⟨S,[],0,false⟩
theorem a2L (q:Nat) (t:Tl) (hb:t.b<=1000) (hl:t.l.length=t.b) (k:Int) (on:Bool):FP 132 [pp q,iI k, .bool on] [TlA q t] (Ps (.tuple #[]) [TlA q (t.clean k on)]):=by
 refine FE [2,0,0] Tryz.func132 λX F hX=>?_;refine J.o (α:=Nat) 1 λg=>?_;refine J.qp (a1N q t hb g k) [1,2] λ_=>?_;cases hh:t.has k with
 | false=>
  rw[Tl.adr,hh,if_neg (by simp)];refine J.qF λ_=>?_;refine J.q λ_=>?_;refine J.cl (λg:Nat=>TlP q t g) g [1,2] ?_;refine J.q λ_=>?_;refine J.f [1] ?_;exact⟨rfl,by rw[Tl.clean,Tl.set,hh];rfl⟩
 | true=>
  rw[Tl.adr,hh,if_pos rfl];refine J.qT λ_=>?_;refine J.q λ_=>?_;refine J.s1 2 ((t.clean k on).l.flatMap sbL) ?_ ?_ ?_
  ·rw[t.len_l,hl];simp only[Tl.has,Bool.and_eq_true,decide_eq_true_eq]at hh;omega
  ·exact t.set_at hl hh 2 (by omega) _ _ rfl
  refine J.close (f:=λg:Nat=>TlP q (t.clean k on) g) g [1,2] rfl (by simp only[TlP,Tl.clean,Tl.set_d,Tl.set_b,Tl.set_p,Tl.set_dead];rfl) rfl ?_;refine J.q λ_=>?_;refine J.f [1] ?_;exact⟨rfl,rfl⟩
theorem a0C (q:Nat) (t:Tl) (d:Int):FP 73 [pp q,iI d] [TlA q t] (Ps (.tuple #[]) [TlA q (t.die d)]):=by
 refine FE [2,0] Tryz.func73 λX F hX=>?_;refine J.o (α:=Nat) 1 λg=>?_;refine J.qp (b1w q t g d) [1,2] λ_=>?_;refine J.qd (λ_ h1=>?_) λ_ h1=>?_
 ·refine J.qp (a5V t.dead d) [] λ_=>?_;have he:t.die d=⟨t.d,t.b,t.p,t.l,L.with_ t.dead d⟩:=by rw[Tl.die,if_pos h1]
  refine J.q λ_=>?_;refine J.close (f:=λg:Nat=>TlP q (t.die d) g) g [1,2] rfl (by rw[he];rfl) rfl ?_;refine J.q λ_=>?_;refine J.f [1] ?_;exact⟨rfl,rfl⟩
 ·refine J.q λ_=>?_;refine J.cl (λg:Nat=>TlP q t g) g [1,2] ?_;refine J.q λ_=>?_;refine J.f [1] ?_;exact⟨rfl,by rw[Tl.die,if_neg (by rw[h1];simp)];rfl⟩
end Go.Proofs.YtnffkcabeecopaaGreat
namespace Go.Proofs.YtnffkcabeecopaaGreat
theorem a4G (f:Int->Int->Int):∀(l:List Int) (m:Int),M9 f l m=m\/M9 f l m∈l
 | [],m=> .inl rfl
 | x::l,m=>by
  rw[M9];rcases a4G f l (if f x m<0 then x else m)with h | h
  ·rw[h];split
   ·exact .inr (List.mem_cons_self ..)
   ·exact .inl rfl
  ·exact .inr (List.mem_cons_of_mem _ h)
theorem a1T (f:Int->Int->Int) {l:List Int} (h:l≠[]):H3 f l∈l:=by
 cases l with
 | nil=>exact absurd rfl h
 | cons x l=>
  rcases a4G f l x with e | e
  ·show M9 f l x∈_;rw[e];exact List.mem_cons_self ..
  ·exact List.mem_cons_of_mem _ e
theorem mem_pkSome {kind:Int->Bool} {o x:Int} {n:Nat}:x∈f7 kind o n↔0<=x/\x<n/\x≠o/\kind x=true:=by
 simp only[f7,List.mem_map,List.mem_filter,List.mem_range,Bool.and_eq_true,bne_iff_ne,ne_eq];constructor
 ·rintro⟨k,⟨h1,h2,h3⟩,rfl⟩;exact⟨by omega,by omega,h2,h3⟩
 ·rintro⟨h1,h2,h3,h4⟩;obtain⟨k,rfl⟩:=Int.eq_ofNat_of_zero_le h1;exact⟨k,⟨by omega,h3,h4⟩,rfl⟩
theorem a4I (f:Int->Int->Int) (kind:Int->Bool) (o:Int) (n:Nat):(H3 f (f7 kind o n)= -1/\f7 kind o n=[])\/(H3 f (f7 kind o n)∈f7 kind o n/\0<=H3 f (f7 kind o n)):=by
 by_cases h:f7 kind o n=[]
 ·left;rw[h];exact⟨rfl,rfl⟩
 ·right;have:=a1T f h;exact⟨this,(mem_pkSome.1 this).1⟩
structure Tl.Fit (t:Tl) (N:Nand):Prop where
 d:t.d=N.dies
 b:t.b=N.blocks
 p:t.p=N.pages
 len:t.l.length=t.b
namespace Tl
theorem set_len (t:Tl) (k:Int) (s:Sb):(t.set k s).l.length=t.l.length:=by unfold set;split<;>simp
theorem Fit.set {t:Tl} {N:Nand} (h:t.Fit N) (k:Int) (s:Sb):(t.set k s).Fit N:=
 ⟨by rw[set_d];exact h.d,by rw[set_b];exact h.b,by rw[set_p];exact h.p,by rw[set_len,set_b];exact h.len⟩
theorem Fit.wore {t:Tl} {N:Nand} (h:t.Fit N) (k n:Int):(t.wore k n).Fit N:=h.set _ _
theorem Fit.clean {t:Tl} {N:Nand} (h:t.Fit N) (k:Int) (on:Bool):(t.clean k on).Fit N:=h.set _ _
theorem Fit.hold {t:Tl} {N:Nand} (h:t.Fit N) (k:Int) (on:Bool):(t.hold k on).Fit N:=h.set _ _
theorem Fit.bad {t:Tl} {N:Nand} (h:t.Fit N) (d k:Int):(t.bad d k).Fit N:=by unfold Tl.bad;split;(· exact h.set _ _);exact h
theorem Fit.die {t:Tl} {N:Nand} (h:t.Fit N) (d:Int):(t.die d).Fit N:=by unfold Tl.die;split;(· exact⟨h.d,h.b,h.p,h.len⟩);exact h
theorem Fit.like {t:Tl} {N N':Nand} (h:t.Fit N) (l:N.Like N'):t.Fit N':=⟨h.d.trans l.dies.symm,h.b.trans l.blocks.symm,h.p.trans l.pages.symm,h.len⟩
def blanks (t:Tl):Nat:=t.l.countP λs=>!s.used
theorem countP_set {α:Type} (p:α->Bool) (x y:α):∀(l:List α) (k:Nat),l[k]? =some x->(l.set k y).countP p+(if p x then 1 else 0)=l.countP p+(if p y then 1 else 0)
 | [],k,h=>by simp at h
 | z::l,0,h=>by
  simp only[List.getElem?_cons_zero,Option.some.injEq]at h;subst h;simp only[List.set_cons_zero,List.countP_cons];omega
 | z::l,k+1,h=>by
  have:=countP_set p x y l k (by simpa using h);simp only[List.set_cons_succ,List.countP_cons];omega
theorem blanks_same {t:Tl} (hl:t.l.length=t.b) (k:Int) (s:Sb) (h:s.used=(t.at_ k).used):(t.set k s).blanks=t.blanks:=by
 unfold set blanks;split
 ·rename_i hh;have:=countP_set (λs:Sb=>!s.used) (t.at_ k) s t.l k.toNat (get_at hl hh);dsimp only;rw[h]at this;omega
 ·rfl
theorem blanks_bad {t:Tl} (hl:t.l.length=t.b) (d k:Int):(t.bad d k).blanks=t.blanks:=by
 unfold Tl.bad;split
 ·exact blanks_same hl _ _ rfl
 ·rfl
theorem blanks_die (t:Tl) (d:Int):(t.die d).blanks=t.blanks:=by unfold Tl.die;split<;>rfl
theorem blanks_open {t:Tl} (hl:t.l.length=t.b) {k:Int} (h:t.blank k=true):(t.clean k false).blanks+1=t.blanks:=by
 simp only[blank,Bool.and_eq_true,Bool.not_eq_true']at h;have:=countP_set (λs:Sb=>!s.used) (t.at_ k) {t.at_ k with used:=!false} t.l k.toNat (get_at hl h.1);unfold clean set blanks;rw[if_pos h.1];simp only[h.2]at this;simpa using this
theorem blanks_le {t:Tl} (hl:t.l.length=t.b):t.blanks<=t.b:=by unfold blanks;rw[<- hl];exact List.countP_le_length
end Tl
structure Dv.Ok (S:Dv) (k m:Nat):Prop where
 gd:S.N.Gd k m
 t:S.t.Fit S.N
 T:S.T.Ok
 sl:∀x∈S.T.at_,0<=x.2.slot/\x.2.slot<=1000
 row:0<=S.row/\S.row<=8
 next:1<=S.next/\S.next<=1099511627776
theorem Nand.Ok.bd16 {N:Nand} (h:N.Ok):(3<=N.dies/\N.dies<=6)/\(8<=N.blocks/\N.blocks<=16)/\(2<=N.pages/\N.pages<=8):=by
 have:=h.geo;simp[y6]at this;omega
theorem Tb.put_slot {T:Tb} {e:En} {b r s m:Int} (h:∀x∈T.at_,0<=x.2.slot/\x.2.slot<=1000) (hs:0<=s/\s<=1000):∀x∈(T.put e b r s m).at_,0<=x.2.slot/\x.2.slot<=1000:=by
 have key:∀(l:List (Int×AtV)) (k:Int) (v:AtV),(∀x∈l,0<=x.2.slot/\x.2.slot<=1000)->(0<=v.slot/\v.slot<=1000)->∀x∈Tb.put1 l k v,0<=x.2.slot/\x.2.slot<=1000:=by
  intro l k v
  induction l with
  | nil=>intro _ hv x hx;simp[Tb.put1]at hx;subst hx;exact hv
  | cons y l ih=>
   intro hl hv x hx;simp only[Tb.put1]at hx;split at hx
   ·rcases List.mem_cons.1 hx with rfl | hx
    ·exact hv
    ·exact hl x (List.mem_cons_of_mem _ hx)
   ·rcases List.mem_cons.1 hx with rfl | hx
    ·exact hl _ (List.mem_cons_self ..)
    ·exact ih (λz hz=>hl z (List.mem_cons_of_mem _ hz)) hv x hx
 unfold Tb.put;split
 ·exact key _ _ _ h hs
 ·exact h
namespace Dv
variable {S : Dv} {k m : Nat}
theorem Ok.less (h:S.Ok k m) {k':Nat} (hk:k'<=k):S.Ok k' m:=⟨h.gd.less hk (Nat.le_refl _),h.t,h.T,h.sl,h.row,h.next⟩
theorem slots_le (x:Int):0<=G.slots x/\G.slots x<=7:=by
 have:=L.count_le x;unfold G.slots;split<;>omega
theorem num_len (l:List En) (next:Int) (n:Nat):(num l next n).length=n:=by simp[num]
theorem es_len (S:Dv) (l:List En):(S.es l).length=(G.slots S.mask).toNat:=num_len _ _ _
theorem getD_data {l:List En} (hd:∀s∈l,s.data.length=16) {i:Nat} (h:i<l.length):(l.getD i En.zero).data.length=16:=by
 rw[List.getD_eq_getElem?_getD,List.getElem?_eq_getElem h];exact hd _ (List.getElem_mem _)
theorem num_data {l:List En} (hd:∀s∈l,s.data.length=16) (next:Int) (n:Nat):∀s∈num l next n,s.data.length=16:=by
 intro s hs;simp only[num,List.mem_map]at hs;obtain⟨i,_,rfl⟩:=hs;unfold numAt;split
 ·rename_i h;exact getD_data hd h
 ·rfl
theorem fit_le (S:Dv) (l:List En):S.fit l<=7/\S.fit l<=l.length/\(S.fit l:Int)<=G.slots S.mask:=by
 have:=slots_le S.mask;unfold fit;omega
theorem lose_N (f:Int) (S:Dv) (d:Nat):(lose f S d).N=S.N/\(lose f S d).T=S.T/\(lose f S d).op=S.op/\(lose f S d).row=S.row/\(lose f S d).next=S.next:=by
 unfold lose;split<;>exact⟨rfl,rfl,rfl,rfl,rfl⟩
theorem lose_t (f:Int) (S:Dv) (d:Nat) (h:S.t.Fit S.N):(lose f S d).t.Fit S.N/\(lose f S d).t.blanks=S.t.blanks:=by
 unfold lose;split
 ·dsimp only;split
  ·exact⟨h.die _,Tl.blanks_die _ _⟩
  ·exact⟨h.bad _ _,Tl.blanks_bad h.len _ _⟩
 ·exact⟨h,rfl⟩
theorem foldl_lose (f:Int):∀(q:List Nat) (S:Dv),(S.t.Fit S.N)->(q.foldl (lose f) S).N=S.N/\(q.foldl (lose f) S).T=S.T/\(q.foldl (lose f) S).op=S.op/\(q.foldl (lose f) S).row=S.row/\(q.foldl (lose f) S).next=S.next/\(q.foldl (lose f) S).t.Fit S.N/\(q.foldl (lose f) S).t.blanks=S.t.blanks
 | [],S,h=>⟨rfl,rfl,rfl,rfl,rfl,h,rfl⟩
 | d::q,S,h=>by
  obtain⟨e1,e2,e3,e4,e5⟩:=lose_N f S d;have ht:=lose_t f S d h;have ih:=foldl_lose f q (lose f S d) (by rw[e1];exact ht.1);rw[List.foldl_cons];rw[e1,e2,e3,e4,e5,ht.2]at ih;exact ih
theorem loses_same (S:Dv) (f:Int) (h:S.t.Fit S.N):(S.loses f).N=S.N/\(S.loses f).T=S.T/\(S.loses f).op=S.op/\(S.loses f).row=S.row/\(S.loses f).next=S.next/\(S.loses f).t.Fit S.N/\(S.loses f).t.blanks=S.t.blanks:=foldl_lose f _ S h
theorem Ok.loses (h:S.Ok k m) (f:Int):(S.loses f).Ok k m:=by
 obtain⟨e1,e2,_,e4,e5,e6,_⟩:=loses_same S f h.t;exact⟨by rw[e1];exact h.gd,by rw[e1];exact e6,by rw[e2];exact h.T,by rw[e2];exact h.sl,by rw[e4];exact h.row,by rw[e5];exact h.next⟩
theorem pick_spec (S:Dv):S.pick= -1\/(0<=S.pick/\S.pick<S.t.b/\S.pick≠S.op/\A5 S.t S.T S.pick=true):=by
 rcases a4I (λx y=>y8 (S.t.wear x) (S.t.wear y)) (A5 S.t S.T) S.op S.t.b with h | h
 ·exact .inl h.1
 ·exact .inr (mem_pkSome.1 h.1)
theorem pick_blank {S:Dv} (h:¬S.pick<0):S.t.blank S.pick=true:=by
 rcases S.pick_spec with e | ⟨_,_,_,e⟩
 ·omega
 ·simp only[A5,Bool.and_eq_true]at e;exact e.1.2
theorem Ok.opened (h:S.Ok k m):S.opened.Ok k m:=⟨h.gd,h.t.clean _ _,h.T,h.sl,by show(0:Int)<=0/\(0:Int)<=8;omega,h.next⟩
theorem puts_ok {T:Tb} (h:T.Ok) (hs:∀x∈T.at_,0<=x.2.slot/\x.2.slot<=1000) (b r mk:Int) (es:List En):∀n,n<=1000->(puts T b r mk es n).Ok/\(∀x∈(puts T b r mk es n).at_,0<=x.2.slot/\x.2.slot<=1000)/\(puts T b r mk es n).logical=T.logical
 | 0,_=>⟨h,hs,rfl⟩
 | n+1,hn=>by
  have ih:=puts_ok h hs b r mk es n (by omega);have e:puts T b r mk es (n+1)=(puts T b r mk es n).put (es.getD n En.zero) b r (n:Nat) mk:=by unfold puts;rw[List.range_succ,List.foldl_append];rfl
  rw[e];exact⟨ih.1.put _ _ _ _ _,Tb.put_slot ih.2.1 (by omega),by rw[Tb.put_logical];exact ih.2.2⟩
theorem puts_succ (T:Tb) (b r mk:Int) (es:List En) (n:Nat):puts T b r mk es (n+1)=(puts T b r mk es n).put (es.getD n En.zero) b r (n:Nat) mk:=by unfold puts;rw[List.range_succ,List.foldl_append];rfl
def mu (S:Dv):Nat:=9*S.t.blanks+(if S.left then(S.N.pages-S.row).toNat else 0)
theorem mu_le (h:S.Ok k m):S.mu<=152:=by
 have h1:=Tl.blanks_le h.t.len;have h2:=h.gd.ok.bd16;have h3:=h.t.b;have h4:=h.row;unfold mu;split<;>omega
theorem left_spec (h:S.left=true):0<=S.op/\S.row<S.N.pages/\0<G.slots S.mask:=by
 simp only[left,Bool.and_eq_true,decide_eq_true_eq]at h;omega
def at1 (S:Dv):Dv:=if S.left then S else S.opened
theorem Ok.at1 (h:S.Ok k m):S.at1.Ok k m:=by unfold Dv.at1;split;(· exact h);exact h.opened
theorem at1_like (S:Dv):S.at1.N=S.N/\S.at1.T=S.T/\S.at1.next=S.next:=by unfold at1;split<;>exact⟨rfl,rfl,rfl⟩
theorem usable_slots {t:Tl} {b:Int} (h:t.usable b=true):0<G.slots (t.mask b):=by simpa[Tl.usable]using h
theorem mask_clean {t:Tl} (hl:t.l.length=t.b) (k:Int) (on:Bool) (j:Int):(t.clean k on).mask j=t.mask j:=by
 unfold Tl.clean Tl.mask Tl.alive;have e1:(t.set k {t.at_ k with used:=!on}).has j=t.has j:=by unfold Tl.has;rw[Tl.set_b]
 rw[e1,Tl.set_d,Tl.set_dead];split
 ·rename_i hj;congr 1;unfold Tl.set;split
  ·rename_i hk;unfold Tl.at_;dsimp only
   by_cases e:k.toNat=j.toNat
   ·simp only[Tl.has,Bool.and_eq_true,decide_eq_true_eq]at hk hj;have:k=j:=by omega
    subst this;rw[List.getD_eq_getElem?_getD,List.getElem?_set_self (by omega)];rfl
   ·rw[List.getD_eq_getElem?_getD,List.getElem?_set_ne e,<- List.getD_eq_getElem?_getD]
  ·rfl
 ·rfl
theorem at1_left (h:S.Ok k m) (h0:¬(S.left=false/\S.pick<0)):S.at1.left=true/\S.at1.op<S.N.blocks\/S.left=true:=by
 unfold at1;cases hl:S.left with
 | true=>exact .inr rfl
 | false=>
  left;rw[if_neg Bool.false_ne_true];have hp:¬S.pick<0:=λe=>h0 ⟨hl,e⟩;rcases S.pick_spec with e | ⟨e1,e2,_,e4⟩
  ·omega
  ·have hb:=h.gd.ok.bd16;have htb:=h.t.b;simp only[A5,Bool.and_eq_true]at e4;have hu:=usable_slots e4.1.1;refine⟨?_,by show S.pick<_;omega⟩;have g1:S.opened.op=S.pick:=rfl;have g2:S.opened.row=0:=rfl;have g3:S.opened.mask=S.t.mask S.pick:=mask_clean h.t.len _ _ _;have g4:S.opened.N=S.N:=rfl;unfold left;rw[g1,g2,g3,g4,decide_eq_true (by omega),decide_eq_true (by omega),decide_eq_true (by omega)];rfl
theorem at1_left' (h:S.Ok k m) (h0:¬(S.left=false/\S.pick<0)):S.at1.left=true:=by
 rcases at1_left h h0 with e | e
 ·exact e.1
 ·unfold at1;rw[if_pos e];exact e
theorem mu_at1 (h:S.Ok k m) (h0:¬(S.left=false/\S.pick<0)):S.at1.mu<=S.mu:=by
 unfold at1;cases hl:S.left with
 | true=>rw[if_pos rfl];exact Nat.le_refl _
 | false=>
  rw[if_neg Bool.false_ne_true];have hp:¬S.pick<0:=λe=>h0 ⟨hl,e⟩;have h1:=Tl.blanks_open h.t.len (pick_blank hp);have h2:=h.gd.ok.bd16;have e1:S.opened.t.blanks=(S.t.clean S.pick false).blanks:=rfl;have e2:S.opened.N.pages=S.N.pages:=rfl;have e3:S.opened.row=0:=rfl;unfold mu;rw[e1,e2,e3,hl];split<;>simp only[Bool.false_eq_true,if_false]<;>omega
theorem wr_gd (h:S.Ok (8+k) m) {l:List En} (hd:∀s∈l,s.data.length=16):(S.wr l).1.Gd k m:=a0y (num_data hd _ _) h.gd
theorem wr_like (S:Dv) (l:List En):S.N.Like (S.wr l).1:=a7R _ _ _ _ _
theorem Ok.wrote (h:S.Ok (8+k) m) {l:List En} (hd:∀s∈l,s.data.length=16) (hr:S.row<S.N.pages) (hn:¬S.next>1099511627775-(S.fit l:Int)+1):(S.wrote l).Ok k m:=by
 have h1:=h.gd.ok.bd16;have h2:=h.row;have h3:=h.next;exact⟨wr_gd h hd,h.t.like (S.wr_like l),h.T,h.sl,by show 0<=S.row+1/\S.row+1<=8;omega,by show 1<=S.next+(S.fit l:Int)/\S.next+(S.fit l:Int)<=1099511627776;omega⟩
theorem mu_wrote (h:S.Ok (8+k) m) (hl:S.left=true) (l:List En) (f:Int):((S.wrote l).loses f).mu<S.mu:=by
 have ht:(S.wrote l).t.Fit (S.wrote l).N:=h.t.like (S.wr_like l);obtain⟨e1,_,_,e4,_,_,e7⟩:=loses_same (S.wrote l) f ht;have hs:=left_spec hl;have hp:=(S.wr_like l).pages;unfold mu;rw[e7,e1,e4,hl];have e8:(S.wrote l).row=S.row+1:=rfl;have e9:(S.wrote l).N.pages=S.N.pages:=hp;have e10:(S.wrote l).t=S.t:=rfl;rw[e8,e9,e10,if_pos rfl];split<;>omega
theorem write_succ (f:Nat) (S:Dv) (l:List En):write (f+1) S l=(if l.length=0 then(S,0,0)else if S.left=false/\S.pick<0 then(S,0,11)else if S.at1.next>1099511627775-(S.at1.fit l:Int)+1 then(S.at1,0,11)else if(S.at1.wr l).2.2=1 then({S.at1 with next:=S.at1.next+S.at1.fit l,N:=(S.at1.wr l).1},0,1)else if(S.at1.wr l).2.2=0 then({S.at1.wrote l with T:=puts S.at1.T S.at1.op S.at1.row S.at1.mask (S.at1.es l) (S.at1.fit l)},S.at1.fit l,0)else if(S.at1.wr l).2.2=9 then(S.at1.wrote l,0,9)else write f ((S.at1.wrote l).loses (S.at1.wr l).2.1) l:Dv×Int×Int):=rfl
theorem write_keep:∀(f:Nat) (S:Dv) (l:List En) (k:Nat),S.Ok (8*f+k) m->(∀s∈l,s.data.length=16)->(write f S l).1.Ok k m/\S.N.Like (write f S l).1.N/\(write f S l).1.T.logical=S.T.logical
 | 0,S,l,k,h,hd=>⟨h.less (by omega),Nand.Like.refl _,rfl⟩
 | f+1,S,l,k,h,hd=>by
  rw[write_succ];have ha:=at1_like S;have h1:S.at1.Ok (8+(8*f+k)) m:=h.at1.less (by omega);split
  ·exact⟨h.less (by omega),Nand.Like.refl _,rfl⟩
  split
  ·exact⟨h.less (by omega),Nand.Like.refl _,rfl⟩
  rename_i h0;split
  ·exact⟨h1.less (by omega),by rw[ha.1];exact Nand.Like.refl _,by rw[ha.2.1]⟩
  rename_i hn;have hlf:=at1_left' h h0;have hs:=left_spec hlf;have hw:=h1.wrote hd hs.2.1 hn;have hlk:S.N.Like (S.at1.wr l).1:=by have:=S.at1.wr_like l;rw[ha.1]at this;exact this
  split
  ·exact⟨⟨hw.gd.less (by omega) (Nat.le_refl _),hw.t,h1.T,h1.sl,h1.row,hw.next⟩,hlk,by show S.at1.T.logical=_;rw[ha.2.1]⟩
  split
  ·have hp:=puts_ok h1.T h1.sl S.at1.op S.at1.row S.at1.mask (S.at1.es l) (S.at1.fit l) (by have:=fit_le S.at1 l;omega);exact⟨⟨hw.gd.less (by omega) (Nat.le_refl _),hw.t,hp.1,hp.2.1,hw.row,hw.next⟩,hlk,by show(puts _ _ _ _ _ _).logical=_;rw[hp.2.2,ha.2.1]⟩
  split
  ·exact⟨hw.less (by omega),hlk,by show S.at1.T.logical=_;rw[ha.2.1]⟩
  ·have ho:=hw.loses (S.at1.wr l).2.1;have hsm:=loses_same (S.at1.wrote l) (S.at1.wr l).2.1 hw.t;have ih:=write_keep f _ l k ho hd;refine⟨ih.1,?_,?_⟩
   ·have:=ih.2.1;rw[hsm.1]at this;exact hlk.trans this
   ·rw[ih.2.2,hsm.2.1];show S.at1.T.logical=_;rw[ha.2.1]
theorem pen_keep (h:S.Ok (8*fuel+k) m) {l:List En} (hd:∀s∈l,s.data.length=16):(S.pen l).1.Ok k m/\S.N.Like (S.pen l).1.N/\(S.pen l).1.T.logical=S.T.logical:=write_keep fuel S l k h hd
theorem write_took:∀(f:Nat) (S:Dv) (l:List En) (k:Nat),S.Ok (8*f+k) m->(∀s∈l,s.data.length=16)->S.mu<f->(write f S l).2.2=0->l.length≠0->1<=(write f S l).2.1/\(write f S l).2.1<=l.length/\(write f S l).2.1<=7
 | 0,S,l,k,h,hd,hm,h0,hl=>by omega
 | f+1,S,l,k,h,hd,hm,h0,hl=>by
  rw[write_succ]at h0 ⊢;rw[if_neg hl]at h0 ⊢;split at h0
  ·cases h0
  rename_i hp;rw[if_neg hp];split at h0
  ·cases h0
  rename_i hn;rw[if_neg hn];have hlf:=at1_left' h hp;have hs:=left_spec hlf;have h1:S.at1.Ok (8+(8*f+k)) m:=h.at1.less (by omega);split at h0
  ·cases h0
  rename_i e1;rw[if_neg e1];split at h0
  ·rename_i e2;rw[if_pos e2];have:=fit_le S.at1 l;have h2:1<=S.at1.fit l:=by unfold fit;omega
   dsimp only;omega
  rename_i e2;rw[if_neg e2];split at h0
  ·cases h0
  rename_i e3;rw[if_neg e3];have h3:=mu_at1 h hp;have h4:=mu_wrote h1 hlf l (S.at1.wr l).2.1;have hw:=h1.wrote hd hs.2.1 hn;exact write_took f _ l k (hw.loses _) hd (by omega) h0 hl
theorem pen_took (h:S.Ok (8*fuel+k) m) {l:List En} (hd:∀s∈l,s.data.length=16) (h0:(S.pen l).2.2=0) (hl:l.length≠0):1<=(S.pen l).2.1/\(S.pen l).2.1<=l.length/\(S.pen l).2.1<=7:=
 write_took fuel S l k h hd (by have:=mu_le h;unfold fuel;omega) h0 hl
end Dv
end Go.Proofs.YtnffkcabeecopaaGreat
namespace Go.Proofs.YtnffkcabeecopaaGreat
open Go Go.RowKit
theorem b6f (a b:Int):(if b>a then b else a)=max a b:=by split<;>omega
def Q1 (p n t l:Nat) (S:Dv):Atom:= .pt p 213 [pp n,pp t,pp l,iI S.op,iI S.row,iI S.mask,iI S.next]
def DvP (p n t l:Nat) (S:Dv):List Atom:=[Q1 p n t l S,i4 n S.N,TlA t S.t,TbA l S.T]
theorem b1Z (n t l:Nat) (next:Int) (h: -9223372036854775808<=next/\next<=9223372036854775807) (N:Nand) (tl:Tl) (T:Tb):FP 82 [pp n,pp t,pp l,iI next] [] (λv As=>∃p,v=pp p/\As=[Q1 p n t l ⟨N,tl,T,-1,0,0,max next 1⟩]):=by
 refine FE [0,0,0,0] Tryz.func82 λX F hX=>?_;refine J.q λbb=>?_;rw[b6f];refine J.qr [1] λ_=>?_;exact⟨bb 0,rfl,rfl⟩
theorem U1 (p n t l:Nat) (S:Dv):FP 86 [pp p] [Q1 p n t l S] (Ps (iI S.op) [Q1 p n t l S]):=by
 refine FE [2] Tryz.func86 λX F hX=>?_;refine J.qF λ_=>?_;exact J.qx [1]
theorem a8W (p n t l:Nat) (S:Dv):FP 156 [pp p] (DvP p n t l S) (Ps (.bool S.left) (DvP p n t l S)):=by
 refine FE [2] Tryz.func156 λX F hX=>?_;refine J.pn 6 (.of [0,4,8,13,16,20,24,28,32,37,40,44,48,53,58,60,64,68,72,76,80,84,89,94,96,100,104]) [26] [1,2,3,4] λ_ _=>?_;cases h1:decide (S.op>=0)with
 | false=>
  refine J.q λ_=>?_;refine J.val hX (.agg #[iI 0,iI 0,iI 0]) 0 rfl rfl (λhg a w he hs=>absurd hg (by simp[G.on])) rfl stq ?_;refine J.q λ_=>?_;refine J.val hX (iI 0) 0 rfl rfl (λhg a w he hs=>absurd hg (by simp[G.on])) rfl stq ?_;refine J.qr [1,2,3,4] λ_=>?_;exact⟨by unfold Dv.left;rw[h1];rfl,rfl⟩
 | true=>
  refine J.qp (R9 n S.N) [2] λ_=>?_;refine J.qn 2 λ_=>?_;cases h2:decide (S.row<(S.N.pages:Int))with
  | false=>
   refine J.q λ_=>?_;refine J.val hX (iI 0) 0 rfl rfl (λhg a w he hs=>absurd hg (by simp[G.on])) rfl stq ?_;refine J.qr [1,2,3,4] λ_=>?_;exact⟨by unfold Dv.left;rw[h1,h2];rfl,rfl⟩
  | true=>
   refine J.qp (K6 S.mask) [] λ_=>?_;refine J.qr [1,2,3,4] λ_=>?_;exact⟨by unfold Dv.left;rw[h1,h2],rfl⟩
theorem a6S (p n t l:Nat) (S:Dv) (hb:S.t.b<=1000) (hl:S.t.l.length=S.t.b):FP 139 [pp p] (DvP p n t l S) (Ps (iI S.slots) (DvP p n t l S)):=by
 refine FE [2] Tryz.func139 λX F hX=>?_;refine J.qF λ_=>?_;refine J.qp (a8W p n t l S) [1,2,3,4] λ_=>?_;refine J.qd (λ_ h1=>?_) λ_ h1=>?_
 ·refine J.qp (K6 S.mask) [] λ_=>?_;refine J.qr [1,2,3,4] λ_=>?_;exact⟨by unfold Dv.slots;rw[if_pos h1],rfl⟩
 refine J.p (.of [0,4,8,13,16,20,24,29,32,36,40,45,48,52,56,61,66,70,74,76]) [19] [1,2,3,4] λ_=>?_;refine J.qp (a8e t S.t hb hl l S.T S.op) [3,4] λ_=>?_;refine J.qp (Q3 t S.t hb hl S.pick) [3] λ_=>?_;refine J.qp (K6 (S.t.mask S.pick)) [] λ_=>?_;refine J.qr [1,2,3,4] λ_=>?_;exact⟨by unfold Dv.slots;rw[if_neg (by rw[h1];decide)],rfl⟩
theorem a6Q (p n t l:Nat) (S:Dv) (hb:S.t.b<=1000) (hl:S.t.l.length=S.t.b):FP 157 [pp p] (DvP p n t l S) (Ps (iI (if S.pick<0 then 11 else 0)) (DvP p n t l (if S.pick<0 then S else S.opened))):=by
 refine FE [2] Tryz.func157 λX F hX=>?_;refine J.p (.of [0,4,8,13,16,20,24,29,32,36,40,45,51,52]) [12,13] [1,2,3,4] λ_=>?_;refine J.qp (a8e t S.t hb hl l S.T S.op) [3,4] λ_=>?_;refine J.qd (λ_ h1=>?_) λ_ h1=>?_
 ·simp only[decide_eq_true_eq]at h1;have h1:S.pick<0:=h1;refine J.qr [1,2,3,4] λ_=>?_;rw[if_pos h1,if_pos h1];exact⟨rfl,rfl⟩
 simp only[decide_eq_false_iff_not]at h1;have h1:¬S.pick<0:=h1;refine J.qp (a2L t S.t hb hl S.pick false) [3] λ_=>?_;refine J.qp (Q3 t (S.t.clean S.pick false) (by unfold Tl.clean;rw[Tl.set_b];exact hb) (by unfold Tl.clean;rw[Tl.set_len,Tl.set_b];exact hl) S.pick) [3] λ_=>?_;refine J.qr [1,2,3,4] λ_=>?_;rw[if_neg h1,if_neg h1];exact⟨rfl,rfl⟩
theorem b1Y (p n t l:Nat) (S:Dv) (hN:S.N.Ok) (hF:S.t.Fit S.N) (f:Int):FP 160 [pp p,iI f] (DvP p n t l S) (Ps (.tuple #[]) (DvP p n t l (S.loses f))):=by
 have hbd:=hN.bd16;refine FE [2,0] Tryz.func160 λX F hX=>?_;refine J.qp (R9 n S.N) [2] λ_=>?_;refine J.q λ_=>?_;refine J.l (α:=(Nat×Dv)) (λz=>z.1<=S.N.dies/\z.2=(List.range z.1).foldl (Dv.lose f) S) (λz=>[si 11 z.1,si 10 S.N.dies,⟨0,pp p,2, .tt⟩,si 1 f]) [1,2,3,4] (λz=>DvP p n t l z.2) (λz=>S.N.dies-z.1) ((0,S)) (⟨Nat.zero_le _,rfl⟩) λz hI=>?_;obtain⟨k,Q⟩:=z;dsimp only at hI ⊢;obtain⟨hk,hQ⟩:=hI;obtain⟨q1,q2,q3,q4,q5,q6,q7⟩:=Dv.foldl_lose f (List.range k) S hF;rw[<- hQ]at q1 q2 q3 q4 q5 q6 q7;have hlb:Q.t.l.length=Q.t.b:=q6.len;have hbb:Q.t.b<=1000:=by have:=q6.b;omega
 refine J.qd (λ_ h1=>?_) λ_ h1=>?_
 ·simp only[decide_eq_true_eq,Int.ofNat_lt]at h1;have hs:(List.range (k+1)).foldl (Dv.lose f) S=Dv.lose f Q k:=by rw[List.range_succ,List.foldl_append,<- hQ];rfl
  refine J.qp (a4V f k) [] λ_=>?_;refine J.qd (λ_ h2=>?_) λ_ h2=>?_
  ·simp only[Bool.not_eq_true']at h2;have hz:Dv.lose f Q k=Q:=by unfold Dv.lose;rw[if_neg (by rw[h2];decide)]
   refine J.q λ_=>?_;refine J.n ((k+1,Q)) (⟨by dsimp only;omega,by dsimp only;rw[hs,hz]⟩) (by dsimp only;omega) [0,1,2,3,4]
  simp only[Bool.not_eq_false']at h2;refine J.qp (a3o n Q.N (by rw[q1];exact hN) k) [2] λ_=>?_;refine J.qd (λ_ h3=>?_) λ_ h3=>?_
  ·have hz:Dv.lose f Q k={Q with t:=Q.t.die k,mask:=L.without Q.mask k}:=by unfold Dv.lose;rw[if_pos h2,if_pos h3]
   refine J.qp (a0C t Q.t k) [3] λ_=>?_;refine J.qp (a0e Q.mask k) [] λ_=>?_;refine J.q λ_=>?_;refine J.n ((k+1,{Q with t:=Q.t.die k,mask:=L.without Q.mask k})) (⟨by dsimp only;omega,by dsimp only;rw[hs,hz]⟩) (by dsimp only;omega) [0,1,2,3,4]
  ·have hz:Dv.lose f Q k={Q with t:=Q.t.bad k Q.op,mask:=L.without Q.mask k}:=by unfold Dv.lose;rw[if_pos h2,if_neg (by rw[h3];decide)]
   refine J.p (.of [0,4,8,13,16,20,24,28,33,38]) [] [1,2,4] λ_=>?_;refine J.qp (a7W t Q.t hbb hlb k Q.op) [3] λ_=>?_;refine J.qp (a0e Q.mask k) [] λ_=>?_;refine J.q λ_=>?_;refine J.n ((k+1,{Q with t:=Q.t.bad k Q.op,mask:=L.without Q.mask k})) (⟨by dsimp only;omega,by dsimp only;rw[hs,hz]⟩) (by dsimp only;omega) [0,1,2,3,4]
 ·simp only[decide_eq_false_iff_not,Int.ofNat_lt]at h1;obtain rfl:k=S.N.dies:=by omega
  refine J.q λ_=>?_;refine J.f [1,2,3,4] ?_;exact⟨rfl,by rw[hQ];rfl⟩
theorem num_snoc (l:List En) (next:Int) (k:Nat):Dv.num l next (k+1)=Dv.num l next k++[Dv.numAt l next k]:=by unfold Dv.num;rw[List.range_succ,List.map_append];rfl
theorem a6R (p n t l:Nat) (S:Dv) (A:Atom) (a:Option Addr) (m c:Nat) (es:List En) (hA:Rd A a 19 m (d6 es)) (hl:es.length=m) (hm:m<=1000000) (hd:∀s∈es,s.data.length=16) (hn:1<=S.next/\S.next<=1099511627776) (sl:Nat) (hsl:sl<=7):
  FP 158 [pp p, .slice a m c,iI sl] [Q1 p n t l S,A]
  (λv As=>∃g c',v=slv g sl c'/\As=[Q1 p n t l {S with next:=S.next+(min m sl:Nat)},A,c9 155 19 g sl c' (d6 (Dv.num es S.next sl))]):=by
 refine FE [2,0,0] Tryz.func158 λX F hX=>?_;refine J.q λ_=>?_;refine J.turn1 [] rfl (As:=[c9 155 19 none 0 0 (d6 [])]) (λh s=>Sep.one ⟨rfl,rfl,rfl⟩) rfl ?_;refine J.q λ_=>?_;refine J.l (α:=(Nat×Int×Option Nat×Nat)) (λz=>z.1<=sl/\z.2.1=S.next+(min m z.1:Nat)) (λz=>[si 11 z.1,si 10 sl,sv 7 (slv z.2.2.1 (Dv.num es S.next z.1).length z.2.2.2),⟨0,pp p,2, .tt⟩,sv 1 (.slice a m c)]) [1,3] (λz=>[Q1 p n t l {S with next:=z.2.1},c9 155 19 z.2.2.1 (Dv.num es S.next z.1).length z.2.2.2 (d6 (Dv.num es S.next z.1))]) (λz=>sl-z.1) ((0,S.next,none,0)) (⟨Nat.zero_le _,by simp⟩) λz hI=>?_;obtain⟨k,nx,ga,ca⟩:=z;dsimp only at hI ⊢;obtain⟨hk,hnx⟩:=hI;have hlen:(Dv.num es S.next k).length=k:=Dv.num_len _ _ _;refine J.qd (λ_ h1=>?_) λ_ h1=>?_
 ·simp only[decide_eq_true_eq,Int.ofNat_lt]at h1;have hs:=num_snoc es S.next k;refine J.qd (λ_ h2=>?_) λ_ h2=>?_
  ·simp only[decide_eq_true_eq,ge_iff_le,Int.ofNat_le]at h2;have hx:Dv.numAt es S.next k=En.pad:=by unfold Dv.numAt;rw[if_neg (by omega)]
   refine J.q λ_=>?_;refine J.ap 3 4 0 (I4 (Dv.num es S.next k) En.pad) λa3 c3=>?_;rw[<- hx,<- hs,show(Dv.num es S.next k).length+1=(Dv.num es S.next (k+1)).length from by rw[hs];simp];refine J.q λ_=>?_;refine J.n ((k+1,nx,a3,c3)) (⟨by dsimp only;omega,by dsimp only;rw[hnx];congr 2;omega⟩) (by dsimp only;omega) [0,1,2,3]
  simp only[decide_eq_false_iff_not,ge_iff_le,Int.ofNat_le]at h2;have hkl:k<es.length:=by omega
  have hx:Dv.numAt es S.next k={es.getD k En.zero with seq:=S.next+k}:=by unfold Dv.numAt;rw[if_pos hkl]
  have hget:es[k]? =some (es.getD k En.zero):=by rw[List.getD_eq_getElem?_getD,List.getElem?_eq_getElem hkl,Option.getD_some]
  refine J.know (p:=∃g o,a=some ⟨g,o,none⟩) (λh' s=>Rd.addr (hA _ (s.get (i:=2) rfl)) (by omega)) λhk2=>?_;obtain⟨g,o,rfl⟩:=hk2;refine J.q λ_=>?_;refine J.v (enV (es.getD k En.zero)) rfl rfl (λhg a w he hw=>?_) ?_
  ·exact Z9 tk rfl rfl he rfl rfl rfl (hA _ (hw.get (i:=2) rfl)) (by omega) (j:=k*19) (by omega) (by have:=E7 es [] k _ hget;rwa [List.append_nil]at this) rfl
  refine J.q λ_=>?_;refine J.ap 3 5 0 (I4 (Dv.num es S.next k) {es.getD k En.zero with seq:=nx}) λa3 c3=>?_;have hnk:nx=S.next+(k:Int):=by rw[hnx,Nat.min_eq_right (by omega)]
  rw[hnk,<- hx,<- hs,show(Dv.num es S.next k).length+1=(Dv.num es S.next (k+1)).length from by rw[hs];simp];refine J.q λ_=>?_;refine J.n ((k+1,S.next+k+1,a3,c3)) (⟨by dsimp only;omega,by dsimp only;rw[Nat.min_eq_right (by omega)];omega⟩) (by dsimp only;omega) [0,1,2,3]
 ·simp only[decide_eq_false_iff_not,Int.ofNat_lt]at h1;obtain rfl:k=sl:=by omega
  rw[hnx];refine J.qr [1,2,3] λ_=>?_;exact⟨ga,ca,by rw[hlen],by rw[hlen];rfl⟩
theorem X7 (p n t l:Nat) (S:Dv) (k mm:Nat) (hO:S.Ok (8*Dv.fuel+k) mm) (A:Atom) (a:Option Addr) (m c:Nat) (es:List En) (hA:Rd A a 19 m (d6 es)) (hl:es.length=m) (hm:m<=1000000) (hd:∀s∈es,s.data.length=16):
  FP 109 [pp p, .slice a m c] (DvP p n t l S++[A])
  (Ps (.tuple #[iI (S.pen es).2.1,iI (S.pen es).2.2]) (DvP p n t l (S.pen es).1++[A])):=by
 have hmu:=Dv.mu_le hO;refine FE [2,0] Tryz.func109 λX F hX=>?_;refine J.qF λ_=>?_;refine J.q λ_=>?_;refine J.l (α:=(Nat×Dv)) (λz=>z.2.Ok (8*z.1+k) mm/\z.2.mu<z.1/\Dv.write z.1 z.2 es=S.pen es) (λz=>[⟨0,pp p,2, .tt⟩,sv 1 (.slice a m c)]) [1,2,3,4] (λz=>DvP p n t l z.2) (λz=>z.1) ((Dv.fuel,S)) (⟨hO,by dsimp only;unfold Dv.fuel;omega,rfl⟩) λz hI=>?_;obtain⟨j,Q⟩:=z;dsimp only at hI ⊢;obtain⟨hQ,hj,hw⟩:=hI;obtain⟨j,rfl⟩:∃i,j=i+1:=⟨j-1,by omega⟩;have hQ1:Q.Ok (8+(8*j+k)) mm:=hQ.less (by omega);have hbd:=hQ.gd.ok.bd16;have hlb:=hQ.t.len;have hbb:Q.t.b<=1000:=by have:=hQ.t.b;omega
 rw[Dv.write_succ]at hw;refine J.qd (λ_ h1=>?_) λ_ h1=>?_
 ·simp only[decide_eq_true_eq]at h1;have hlen:es.length≠0:=by omega
  rw[if_neg hlen]at hw;refine J.qp (a8W p n t l Q) [1,2,3,4] λ_=>?_;refine J.q λ_=>?_
  by_cases hns:Q.left=false/\Q.pick<0
  ·rw[if_pos hns]at hw;rw[hns.1];refine J.qT λ_=>?_;refine J.qp (a6Q p n t l Q hbb hlb) [1,2,3,4] λ_=>?_;rw[if_pos hns.2,if_pos hns.2];refine J.qT λ_=>?_;refine J.qr [1,2,3,4,5] λ_=>?_;rw[<- hw];exact⟨rfl,rfl⟩
  rw[if_neg hns]at hw;refine J.join (α:=Unit) (λ_=>[⟨0,pp p,2, .tt⟩,sv 1 (.slice a m c)]) (λ_=>[.hp F,Q1 p n t l Q.at1,i4 n Q.at1.N,TlA t Q.at1.t,TbA l Q.at1.T,A]) (λhj=>?_) (λ_=>?_)
  ·refine J.qd (λ_ h2=>?_) λ_ h2=>?_
   ·simp only[Bool.not_eq_true']at h2;have hp:¬Q.pick<0:=λe=>hns ⟨h2,e⟩;refine J.qp (a6Q p n t l Q hbb hlb) [1,2,3,4] λ_=>?_;rw[if_neg hp,if_neg hp];have ha:Q.at1=Q.opened:=by unfold Dv.at1;rw[h2];rfl
    rw[ha]at hj;refine J.qF λ_=>?_;refine J.qn 1 λ_=>?_;exact J.goto [0,1,2,3,4,5] (hj ()) ⟨rfl,rfl,trivial⟩ rfl rfl
   ·simp only[Bool.not_eq_false']at h2;have ha:Q.at1=Q:=by unfold Dv.at1;rw[h2];rfl
    rw[ha]at hj;refine J.qn 1 λ_=>?_;exact J.goto [0,1,2,3,4,5] (hj ()) ⟨rfl,rfl,trivial⟩ rfl rfl
  have h3:=Dv.at1_left' hQ hns;have h4:=Dv.mu_at1 hQ hns;have hQ3:=hQ1.at1;clear hQ1 hlb hbb;generalize Q.at1=P at hw h3 h4 hQ3 ⊢;have hs:=Dv.left_spec h3;have hfit:=Dv.fit_le P es;have hsb:=Dv.slots_le P.mask;have hnx:=hQ3.next;have hrow:=hQ3.row;obtain⟨sl,hsl⟩:∃sl:Nat,G.slots P.mask=(sl:Int):=⟨(G.slots P.mask).toNat,by omega⟩;have hfs:P.fit es=min m sl:=by unfold Dv.fit;rw[hsl,hl,Int.toNat_natCast]
  have hes:P.es es=Dv.num es P.next sl:=by unfold Dv.es;rw[hsl,Int.toNat_natCast]
  have hmin:(if(sl:Int)<(m:Int)then(sl:Int)else(m:Int))=(P.fit es:Int):=by rw[hfs];split<;>omega
  refine J.qp (K6 P.mask) [] λ_=>?_;rw[hsl];refine J.qn 8 λ_=>?_;rw[hmin];refine J.qd (λ_ h5=>?_) λ_ h5=>?_
  ·simp only[decide_eq_true_eq]at h5;have h5:P.next>1099511627775-(P.fit es:Int)+1:=h5;rw[if_pos h5]at hw;refine J.qr [1,2,3,4,5] λ_=>?_;rw[<- hw];exact⟨rfl,rfl⟩
  simp only[decide_eq_false_iff_not]at h5;have h5:¬P.next>1099511627775-(P.fit es:Int)+1:=h5;rw[if_neg h5]at hw;refine J.qc (a6R p n t l P A a m c es hA hl hm hd hnx sl (by omega)) [1,5] λ_=>?_;rintro v As ⟨g,c1,rfl,rfl⟩;refine⟨_,rfl,trivial,?_⟩;rw[<- hes,<- hfs];have hdn:∀s∈P.es es,s.data.length=16:=Dv.num_data hd _ _;have hlen2:(P.es es).length=sl:=by rw[hes,Dv.num_len]
  refine J.know (λh' s=>i9 (c:=(g,c1)) (by omega) (s.get (i:=6) rfl)) λhg=>?_;obtain⟨ga,rfl⟩:=hg;refine J.know (λh' s=>I9 (show J5 _ _ (some ga) sl c1 _ _ from s.get (i:=6) rfl)) λhcap=>?_;have hRd:Rd (c9 155 19 (some ga) sl c1 (d6 (P.es es))) (some ⟨ga,0,none⟩) 19 sl (d6 (P.es es)):=D0 155 19 (some ga) sl c1 (d6 (P.es es));refine J.pq (.of [0,4,8,13,16,20,24,29,32,36,40,44,49,52,58,60,64,68,72,76]) [19] [1,3,4,5,6] λ_ _=>?_;refine J.ca hX (by kernel_rfl) (a2y n P.N (c9 155 19 (some ga) sl c1 (d6 (P.es es))) P.op P.row P.mask (some ⟨ga,0,none⟩) sl c1 mm (P.es es) hRd hlen2 hdn (hQ3.gd.less (by omega) (Nat.le_refl _))) [2,6] 0 rfl rfl rfl rfl rfl rfl (λ_=>rfl) ?_;refine cpq ⟨_,rfl,stq,?_⟩;have hwr:R.write P.N P.op P.row P.mask (P.es es)=P.wr es:=rfl;rw[hwr];refine J.qd (λ_ h6=>?_) λ_ h6=>?_
  ·simp only[beq_iff_eq]at h6;rw[if_pos h6]at hw;refine J.qr [1,2,3,4,5] λ_=>?_;rw[<- hw];exact⟨by rw[h6],rfl⟩
  simp only[beq_eq_false_iff_ne,ne_eq]at h6;rw[if_neg h6]at hw;refine J.qd (λ_ h7=>?_) λ_ h7=>?_
  ·simp only[beq_iff_eq]at h7;rw[if_pos h7]at hw;refine J.q λ_=>?_;have hfn:(P.fit es:Int).toNat-0=P.fit es:=by omega
   rw[hfn];have hpo:=λi (hi:i<=1000)=>Dv.puts_ok hQ3.T hQ3.sl P.op P.row P.mask (P.es es) i hi;refine J.q λ_=>?_;refine J.l (α:=Nat) (λi=>i<=P.fit es) (λi=>[si 109 i,si 108 (P.fit es:Int),sv 107 (.slice (some ⟨ga,0,none⟩) (P.fit es) (c1-0)),⟨0,pp p,2, .tt⟩,si 8 (P.fit es:Int),si 9 P.row]) [4] (λi=>[TbA l (Dv.puts P.T P.op P.row P.mask (P.es es) i)]) (λi=>P.fit es-i) (0) (Nat.zero_le _) λi hI=>?_;refine J.qd (λ_ h9=>?_) λ_ h9=>?_
   ·simp only[decide_eq_true_eq,Int.ofNat_lt]at h9;have hil:i<(P.es es).length:=by omega
    have hget:(P.es es)[i]? =some ((P.es es).getD i En.zero):=by rw[List.getD_eq_getElem?_getD,List.getElem?_eq_getElem hil,Option.getD_some]
    have hseq: -9223372036854775808<=((P.es es).getD i En.zero).seq/\((P.es es).getD i En.zero).seq<9223372036854775807:=by
     have:(P.es es).getD i En.zero=Dv.numAt es P.next i:=by
      rw[hes];unfold Dv.num;rw[List.getD_eq_getElem?_getD,List.getElem?_map,List.getElem?_range (by omega)];rfl
     rw[this];unfold Dv.numAt;split
     ·show-9223372036854775808<=P.next+(i:Int)/\P.next+(i:Int)<9223372036854775807;omega
     ·show-9223372036854775808<=(0:Int)/\(0:Int)<9223372036854775807;omega
    refine J.q λ_=>?_;refine J.v (enV ((P.es es).getD i En.zero)) rfl rfl (λhg a w he hw=>?_) ?_
    ·exact Z9 tk rfl rfl he rfl rfl rfl (hRd _ (hw.get (i:=6) rfl)) (by omega) (j:=i*19) (by omega) (by have:=E7 (P.es es) [] i _ hget;rwa [List.append_nil]at this) rfl
    refine J.p (.of [0,4,8,13,17,20,24,28,33,36,40,44,48,52,56,61,66]) [] [1,2,3,5,6,7] λ_=>?_;refine J.qp (a2N l (Dv.puts P.T P.op P.row P.mask (P.es es) i) ((P.es es).getD i En.zero) P.op P.row i P.mask hseq (hpo i (by omega)).1.bd) [4] λ_=>?_;rw[<- Dv.puts_succ];refine J.q λ_=>?_;refine J.n (i+1) (by omega) (by omega) [0,1,2,3,4,5,6]
   ·simp only[decide_eq_false_iff_not,Int.ofNat_lt]at h9;obtain rfl:i=P.fit es:=by omega
    refine J.qr [1,2,3,4,5] λ_=>?_;rw[<- hw];exact⟨rfl,rfl⟩
  simp only[beq_eq_false_iff_ne,ne_eq]at h7;rw[if_neg h7]at hw;refine J.qd (λ_ h8=>?_) λ_ h8=>?_
  ·simp only[beq_iff_eq]at h8;rw[if_pos h8]at hw;refine J.qr [1,2,3,4,5] λ_=>?_;rw[<- hw];exact⟨by rw[h8],rfl⟩
  simp only[beq_eq_false_iff_ne,ne_eq]at h8;rw[if_neg h8]at hw;have hWO:=hQ3.wrote hd hs.2.1 h5;have hmu2:=Dv.mu_wrote hQ3 h3 es (P.wr es).2.1;refine J.qp (b1Y p n t l (P.wrote es) hWO.gd.ok hWO.t (P.wr es).2.1) [1,2,3,4] λ_=>?_;refine J.q λ_=>?_;refine J.n ((j,(P.wrote es).loses (P.wr es).2.1)) (⟨hWO.loses _,by dsimp only;omega,hw⟩) (by dsimp only;omega) [0,1,2,3,4,5]
 ·simp only[decide_eq_false_iff_not]at h1;have hlen:es.length=0:=by omega
  rw[if_pos hlen]at hw;refine J.qr [1,2,3,4,5] λ_=>?_;rw[<- hw];exact⟨rfl,rfl⟩
theorem Z4 {P:Program} {T:Tab} {E:Env} {n:Nat} {ac:Act} {w:World} (hT:TabOK P T) {o:Oper} {t e size:Nat} {x y:Operand} {k1 k2 t1 t2:Nat} {g1 g2:G} {a:Option Addr} {m c h:Nat} {kk:IntKind} {s1 b1 b2:Nat} {z1 z2:List Value} {td:TD} (hop:o.op= .slice t x none (some y) none) (hx:ev E x=some ⟨k1, .slice a m c,t1,g1⟩) (hy:ev E y=some ⟨k2, .int kk h,t2,g2⟩) (he:EnvOK n E ac) (v1:g1.on=true) (v2:g2.on=true)
  (ht:T.get t=some ⟨.slice e size,s1,z1,b1⟩) (hte:T.get e=some ⟨td,size,z2,b2⟩) (hc:h<=c):
  (execOp ac.eval o).run P w= .ok (.value (.slice a h c)) w:=by
 have e1:=i5 he hx;have e2:=i5 he hy;simp only[Slot.val,v1,v2]at e1 e2;obtain⟨d,f,zv,ok⟩:=i3 (hT.get ht);obtain⟨fe,rfl,g1,g2⟩:=ok.slice rfl;have h0:∀ad:Addr,ad.add 0=ad:=λad=>by unfold Addr.add;rw[if_pos rfl]
 cases a with
 | none=>
  simp only[execOp,hop,Option.map_some,Option.map_none,e1,e2,Instr.sliceAt,Instr.slice,Instr.sliceBounds,Instr.sliceBound,asIntOf,Sem.run_bind,Sem.run_pure,Result.andThen_ok,d7 ok.hd,m6 g1,g2];simp[hc,h0]
 | some ad=>
  simp only[execOp,hop,Option.map_some,Option.map_none,e1,e2,Instr.sliceAt,Instr.slice,Instr.sliceBounds,Instr.sliceBound,asIntOf,Sem.run_bind,Sem.run_pure,Result.andThen_ok,d7 ok.hd,m6 g1,g2];simp[hc,h0]
theorem b7H (x:Int):(if(0:Int)>x then 0 else x)=max x 0:=by split<;>omega
theorem min2 (x y:Int):(if y<x then y else x)=min x y:=by split<;>omega
end Go.Proofs.YtnffkcabeecopaaGreat
namespace Go.Proofs.YtnffkcabeecopaaGreat
theorem a7c {N:Nand} (hN:N.Ok) (b r m:Int) (k:Nat):(R.mend (R.look N b r m) k).data.length=16:=by
 unfold R.mend;split
 ·unfold W.back;split
  ·unfold W.backS;refine T5 (λt ht=>?_) _ rfl;have hd:=S9 hN b r m;rw[List.mem_append,List.mem_singleton]at ht;rcases ht with ht | rfl
   ·exact hd.1 t (List.mem_of_mem_eraseIdx ht)
   ·exact hd.2
  ·rfl
 ·rfl
theorem b1S {N:Nand} (hN:N.Ok) (b r s m:Int):(R.read N b r s m).1.data.length=16:=by
 unfold R.read;split
 ·rfl
 split
 ·rfl
 split
 ·rename_i h;have hd:=(S9 hN b r m).1;have hl:=D4 N b r m;rw[List.getD_eq_getElem?_getD]at h ⊢
  by_cases hs:s.toNat<(R.look N b r m).slots.length
  ·rw[List.getElem?_eq_getElem hs];exact hd _ (List.getElem_mem _)
  ·rw[List.getElem?_eq_none (by omega)];rfl
 ·split
  ·exact a7c hN _ _ _ _
  ·rfl
namespace Dv
variable {S : Dv} {k m : Nat}
theorem rd_len (h:S.Ok k m) (i:Int):(S.rd i).1.data.length=16:=by
 unfold rd;dsimp only;split
 ·rfl
 split
 ·rfl
 ·exact b1S h.gd.ok _ _ _ _
theorem rds_len (h:S.Ok k m):∀l:List Int,(∀s∈(S.rds l).1,s.data.length=16)/\(S.rds l).1.length<=l.length/\((S.rds l).2=0->(S.rds l).1.length=l.length)
 | []=>⟨by simp[rds],by simp[rds],λ_=>rfl⟩
 | i::l=>by
  have ih:=rds_len h l;rw[rds];split
  ·rename_i h0;exact⟨by simp,by simp,λe=>absurd e h0⟩
  ·refine⟨λs hs=>?_,by simp only[List.length_cons];omega,λe=>by simp only[List.length_cons];rw[ih.2.2 e]⟩;rcases List.mem_cons.1 hs with rfl | hs
   ·exact rd_len h i
   ·exact ih.1 s hs
def cost:Nat:=8*fuel
theorem carryGo_keep:∀(f:Nat) (S:Dv) (l:List Int) (d:Int) (k:Nat),S.Ok (cost*f+k) m->(carryGo f S l d).1.Ok k m/\S.N.Like (carryGo f S l d).1.N/\(carryGo f S l d).1.T.logical=S.T.logical
 | 0,S,l,d,k,h=>⟨h.less (by omega),Nand.Like.refl _,rfl⟩
 | f+1,S,l,d,k,h=>by
  rw[carryGo];dsimp only;have hs:S.Ok (8*fuel+(cost*f+k)) m:=h.less (by unfold cost;rw[Nat.mul_succ];omega);split
  ·exact⟨h.less (by omega),Nand.Like.refl _,rfl⟩
  split
  ·exact⟨h.less (by omega),Nand.Like.refl _,rfl⟩
  have hp:=pen_keep hs (rds_len h (l.take (max S.slots 1).toNat)).1;split
  ·exact⟨hp.1.less (by omega),hp.2.1,hp.2.2⟩
  ·have ih:=carryGo_keep f _ (l.drop (S.pen (S.rds (l.take (max S.slots 1).toNat)).1).2.1.toNat) (d+(S.pen (S.rds (l.take (max S.slots 1).toNat)).1).2.1) k hp.1;exact⟨ih.1,hp.2.1.trans ih.2.1,ih.2.2.trans hp.2.2⟩
theorem take_le (l:List Int) (n:Nat):(l.take n).length<=l.length:=by rw[List.length_take];omega
theorem ins_le (h:S.Ok k m) (b:Int):(S.T.ins b).length<=65536:=by
 have h1:=h.T.ins_len b;have h2:=h.T.log;rw[h.T.ins]at h1 ⊢;have:=S.T.inK_len b S.T.logical.toNat
 omega
def costC:Nat:=cost*65536
theorem carry_keep (h:S.Ok (costC+k) m) (b most:Int):(S.carry b most).1.Ok k m/\S.N.Like (S.carry b most).1.N/\(S.carry b most).1.T.logical=S.T.logical:=by
 unfold carry;dsimp only;have h1:=ins_le h b;have h2:=take_le (S.T.ins b) (max most 0).toNat
 have h3:cost*((S.T.ins b).take (max most 0).toNat).length<=costC:=Nat.mul_le_mul_left _ (by omega);exact carryGo_keep _ S _ 0 k (h.less (by omega))
theorem seeDead_fit {N:Nand} {t:Tl} (N':Nand) (h:t.Fit N):(seeDead N' t).Fit N:=by
 unfold seeDead;generalize List.range t.d=q
 induction q generalizing t with
 | nil=>exact h
 | cons d q ih=>
  rw[List.foldl_cons];apply ih;split
  ·exact h.die _
  ·exact h
theorem Ok.seen (h:S.Ok k m):S.seen.Ok k m:=⟨h.gd,seeDead_fit _ h.t,h.T,h.sl,h.row,h.next⟩
theorem eraseD_keep (b mk:Int) (x:Nand×Tl×Int) (d:Nat) (hN:x.1.Gd (1+k) m) (ht:x.2.1.Fit x.1):(eraseD b mk x d).1.Gd k m/\(eraseD b mk x d).2.1.Fit x.1/\x.1.Like (eraseD b mk x d).1:=by
 unfold eraseD;split
 ·exact⟨hN.less (by omega) (Nat.le_refl _),ht,Nand.Like.refl _⟩
 split
 ·exact⟨hN.less (by omega) (Nat.le_refl _),ht,Nand.Like.refl _⟩
 ·refine⟨Nand.Gd.erase (by rw[Nat.add_comm];exact hN) _ _,?_,Nand.like_erase _ _ _⟩;dsimp only
  (repeat' split)<;>first | exact ht | exact ht.die _ | exact ht.bad _ _
theorem foldl_eraseD (b mk:Int):∀(q:List Nat) (x:Nand×Tl×Int),x.1.Gd (q.length+k) m->x.2.1.Fit x.1->(q.foldl (eraseD b mk) x).1.Gd k m/\(q.foldl (eraseD b mk) x).2.1.Fit x.1/\x.1.Like (q.foldl (eraseD b mk) x).1
 | [],x,h,ht=>⟨h.less (by simp) (Nat.le_refl _),ht,Nand.Like.refl _⟩
 | d::q,x,h,ht=>by
  have h1:=eraseD_keep b mk x d (k:=q.length+k) (h.less (by simp only[List.length_cons];omega) (Nat.le_refl _)) ht;have ih:=foldl_eraseD b mk q (eraseD b mk x d) h1.1 (h1.2.1.like h1.2.2);rw[List.foldl_cons];exact⟨ih.1,⟨ih.2.1.d.trans h1.2.2.dies,ih.2.1.b.trans h1.2.2.blocks,ih.2.1.p.trans h1.2.2.pages,ih.2.1.len⟩,h1.2.2.trans ih.2.2⟩
theorem eraseB_keep {N:Nand} {t:Tl} (hN:N.Gd (6+k) m) (ht:t.Fit N) (b:Int):(eraseB N t b).1.Gd k m/\(eraseB N t b).2.1.Fit N/\N.Like (eraseB N t b).1:=by
 have:=hN.ok.bd16;exact foldl_eraseD b _ _ _ (hN.less (by rw[List.length_range];omega) (Nat.le_refl _)) ht
theorem wores_fit {N N':Nand} {t:Tl} (h:t.Fit N) (b:Int):(wores N' t b).Fit N:=by
 unfold wores;generalize List.range N'.dies=q
 induction q generalizing t with
 | nil=>exact h
 | cons d q ih=>rw[List.foldl_cons];exact ih (h.wore _ _)
theorem eraseT_fit {N N':Nand} {t:Tl} (h:t.Fit N) (b:Int):(eraseT N' t b).Fit N:=by
 unfold eraseT;split
 ·exact(wores_fit h b).clean _ _
 ·exact wores_fit h b
theorem erase_keep {N:Nand} {t:Tl} (hN:N.Gd (6+k) m) (ht:t.Fit N) (b:Int):(erase N t b).1.Gd k m/\(erase N t b).2.1.Fit N/\N.Like (erase N t b).1:=by
 have h:=eraseB_keep hN ht b;unfold erase;dsimp only;split
 ·exact h
 ·exact⟨h.1,eraseT_fit h.2.1 b,h.2.2⟩
theorem clearGo_keep:∀(l:List Int) (N:Nand) (t:Tl),N.Gd (6*l.length+k) m->t.Fit N->(clearGo l N t).1.Gd k m/\(clearGo l N t).2.1.Fit N/\N.Like (clearGo l N t).1
 | [],N,t,h,ht=>⟨h.less (by simp) (Nat.le_refl _),ht,Nand.Like.refl _⟩
 | b::l,N,t,h,ht=>by
  have h1:=erase_keep (k:=6*l.length+k) (h.less (by simp only[List.length_cons];omega) (Nat.le_refl _)) ht b;rw[clearGo];split
  ·exact⟨h1.1.less (by omega) (Nat.le_refl _),h1.2⟩
  ·have ih:=clearGo_keep l _ _ h1.1 (h1.2.1.like h1.2.2);exact⟨ih.1,⟨ih.2.1.d.trans h1.2.2.dies,ih.2.1.b.trans h1.2.2.blocks,ih.2.1.p.trans h1.2.2.pages,ih.2.1.len⟩,h1.2.2.trans ih.2.2⟩
theorem clearX_keep {N:Nand} {t:Tl} (hN:N.Gd (96+k) m) (ht:t.Fit N) (T:Tb) (o:Int):(clearX N t T o).1.Gd k m/\(clearX N t T o).2.1.Fit N/\N.Like (clearX N t T o).1:=by
 have h1:=hN.ok.bd16;have h2:=ht.b;have h3:=H4 (j3 t T) o t.b;exact clearGo_keep _ N t (hN.less (by omega) (Nat.le_refl _)) ht
theorem clear_keep (h:S.Ok (96+k) m):S.clear.1.Ok k m/\S.N.Like S.clear.1.N/\S.clear.1.T=S.T:=by
 have h1:=clearX_keep h.gd h.t S.T S.op;exact⟨⟨h1.1,h1.2.1.like h1.2.2,h.T,h.sl,h.row,h.next⟩,h1.2.2,rfl⟩
def costR:Nat:=costC+96
theorem roomGo_keep:∀(f:Nat) (S:Dv) (k:Nat),S.Ok (costR*f+k) m->(roomGo f S).1.Ok k m/\S.N.Like (roomGo f S).1.N/\(roomGo f S).1.T.logical=S.T.logical
 | 0,S,k,h=>⟨h.less (by omega),Nand.Like.refl _,rfl⟩
 | f+1,S,k,h=>by
  rw[roomGo];split
  ·exact⟨h.less (by omega),Nand.Like.refl _,rfl⟩
  split
  ·exact⟨h.less (by omega),Nand.Like.refl _,rfl⟩
  dsimp only;have hc:=carry_keep (S:=S) (k:=96+(costR*f+k)) (m:=m) (h.less (by unfold costR;rw[Nat.mul_succ];omega)) S.victim (S.T.count S.victim);split
  ·exact⟨hc.1.less (by omega),hc.2⟩
  have hd:=clear_keep hc.1;split
  ·exact⟨hd.1.less (by omega),hc.2.1.trans hd.2.1,by rw[hd.2.2];exact hc.2.2⟩
  ·have ih:=roomGo_keep f _ k hd.1;exact⟨ih.1,(hc.2.1.trans hd.2.1).trans ih.2.1,by rw[ih.2.2,hd.2.2];exact hc.2.2⟩
def costM:Nat:=costR*16+96
theorem room_keep (h:S.Ok (costM+k) m):S.room.1.Ok k m/\S.N.Like S.room.1.N/\S.room.1.T.logical=S.T.logical:=by
 have hb:=h.gd.ok.bd16;have htb:=h.t.b;have hc:=clear_keep (S:=S) (k:=costR*16+k) (m:=m) (h.less (by unfold costM;omega));unfold room;split
 ·exact⟨hc.1.less (by omega),hc.2.1,by rw[hc.2.2]⟩
 ·have h1:costR*S.t.b<=costR*16:=Nat.mul_le_mul_left _ (by omega);have ih:=roomGo_keep S.t.b S.clear.1 k (hc.1.less (by omega));exact⟨ih.1,hc.2.1.trans ih.2.1,by rw[ih.2.2,hc.2.2]⟩
def costS:Nat:=costM+costC
theorem step_keep (h:S.Ok (costS+k) m) (most:Int):(S.step most).1.Ok k m/\S.N.Like (S.step most).1.N/\(S.step most).1.T.logical=S.T.logical:=by
 have hr:=room_keep (S:=S.seen) (k:=costC+k) (m:=m) (h.seen.less (by unfold costS;omega));have e:S.seen.N=S.N:=rfl;have e2:S.seen.T=S.T:=rfl;rw[e,e2]at hr;unfold step;dsimp only;split
 ·exact⟨hr.1.less (by omega),hr.2⟩
 ·split
  ·exact⟨hr.1.less (by omega),hr.2⟩
  ·rename_i b _ _;have hc:=carry_keep hr.1 b most;exact⟨hc.1,hr.2.1.trans hc.2.1,hc.2.2.trans hr.2.2⟩
def costT:Nat:=costM+cost
theorem tornGo_keep:∀(f:Nat) (S:Dv) (l:List En) (k:Nat),S.Ok (costT*f+k) m->(∀s∈l,s.data.length=16)->(tornGo f S l).1.Ok k m/\S.N.Like (tornGo f S l).1.N/\(tornGo f S l).1.T.logical=S.T.logical
 | 0,S,l,k,h,_=>⟨h.less (by omega),Nand.Like.refl _,rfl⟩
 | f+1,S,l,k,h,hd=>by
  rw[tornGo];dsimp only;split
  ·exact⟨h.less (by omega),Nand.Like.refl _,rfl⟩
  have hr:=room_keep (S:=S) (k:=8*fuel+(costT*f+k)) (m:=m) (h.less (by unfold costT cost;rw[Nat.mul_succ];omega));split
  ·exact⟨hr.1.less (by omega),hr.2⟩
  have hp:=pen_keep hr.1 hd;split
  ·exact⟨hp.1.less (by omega),hr.2.1.trans hp.2.1,hp.2.2.trans hr.2.2⟩
  ·have ih:=tornGo_keep f _ (l.drop (S.room.1.pen l).2.1.toNat) k hp.1 (λs hs=>hd s (List.mem_of_mem_drop hs));exact⟨ih.1,(hr.2.1.trans hp.2.1).trans ih.2.1,(ih.2.2.trans hp.2.2).trans hr.2.2⟩
end Dv
end Go.Proofs.YtnffkcabeecopaaGreat
