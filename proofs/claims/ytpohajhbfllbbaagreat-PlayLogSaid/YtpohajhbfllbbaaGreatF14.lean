/- Helpers. No condition. -/
import Derived.Test.YtpohajhbfllbbaaGreatF06
import Derived.Test.YtpohajhbfllbbaaGreatF09
import Derived.Test.YtpohajhbfllbbaaGreatF10
import Derived.Test.YtpohajhbfllbbaaGreatF11
import Derived.Test.YtpohajhbfllbbaaGreatF13
set_option maxRecDepth 20000
set_option linter.all false
namespace Go.Proofs.YtpohajhbfllbbaaGreat
open Go Go.RowKit
def W.backC (p:Sh) (l:List Sh):Bool:=p.kind==2&&S.may p&& !l.any (alien p)&&decide ((l.length:Int)=G.slots p.mask-1)
def b0C (p:Sh->Bool) (l:List Sh):Int:=match l.findIdx? p with
 | some k=>k
 | none=> -1
theorem a8j {p:Sh->Bool} {l:List Sh} {k:Nat} {x:Sh} (h:l[k]? =some x) (h0:∀i<k,p (l.getD i Sh.zero)=false) (hp:p x=true):l.findIdx? p=some k:=by
 rw[List.findIdx?_eq_some_iff_getElem];obtain⟨h1,h2⟩:=List.getElem?_eq_some_iff.1 h;refine⟨h1,by rw[h2];exact hp,λj hj=>?_⟩;have:=h0 j hj;rw[List.getD_eq_getElem?_getD,List.getElem?_eq_getElem (by omega),Option.getD_some]at this;simp[this]
theorem a8k {p:Sh->Bool} {l:List Sh} (h0:∀i<l.length,p (l.getD i Sh.zero)=false):l.findIdx? p=none:=by
 rw[List.findIdx?_eq_none_iff];intro x hx;obtain⟨i,hi,rfl⟩:=List.mem_iff_getElem.1 hx;have:=h0 i hi
 rwa [List.getD_eq_getElem?_getD,List.getElem?_eq_getElem hi,Option.getD_some]at this
theorem b0B (p:Sh->Bool) (l:List Sh):decide (b0C p l>=0)=l.any p:=by
 unfold b0C;cases h:l.findIdx? p with
 | none=>
  rw[List.findIdx?_eq_none_iff]at h;have:l.any p=false:=by rw[List.any_eq_false];exactλx hx=>by simp[h x hx]
  rw[this];rfl
 | some k=>
  rw[List.findIdx?_eq_some_iff_getElem]at h;obtain⟨h1,h2,_⟩:=h;have:l.any p=true:=List.any_eq_true.2 ⟨l[k],List.getElem_mem _,h2⟩;rw[this];simp
theorem a8K (c:Nat) (cs:List Value) (p:Sh->Bool) (A:Atom) (hcal:j7 Tryz.prog c=true) (l:List Sh) (hf:∀x∈l,Fn Tryz.prog c (shV x::cs) [A] (Ps (.bool (p x)) [A]))
  (a:Option Nat) (n cap:Nat) (hl:l.length=n) (hn:n<=4611686018427387904):FP 256 [slv a n cap,fnC c cs] [c8 219 23 a n cap (j3 l),A]
  (Ps (iI (b0C p l)) [c8 219 23 a n cap (j3 l),A]):=by
 refine FE [0,0] Tryz.func256 λX F hX=>?_;refine J.q λ_=>?_;refine J.l (α:=Nat) (λk=>k<=n/\∀i<k,p (l.getD i Sh.zero)=false) (λk=>[si 8 k,si 7 n,sv 0 (slv a n cap),⟨1,fnC c cs,0, .tt⟩]) [] (λk=>[]) (λk=>n-k) (0) (⟨by omega,by omega⟩) λk hI=>?_;refine J.qd (λ_ h1=>?_) λ_ h1=>?_
 ·simp only[decide_eq_true_eq,Int.ofNat_lt]at h1;cases a with
  | none=>
   refine J.know (λh' s=>(s.get (i:=1) rfl).2.1) λhn0=>?_;omega
  | some g=>
   have hk:l[k]? =some (l.getD k Sh.zero):=by rw[List.getD_eq_getElem?_getD,List.getElem?_eq_getElem (by omega),Option.getD_some]
   refine J.q λ_=>?_;refine J.v (shV (l.getD k Sh.zero)) rfl rfl (λhg a w he hs=>?_) ?_
   ·exact j6 tk rfl rfl he rfl rfl rfl (hs.get (i:=1) rfl) (by rw[show 0+(k:Int).toNat*23=k*23 from by omega];have:=V3 l [] k _ hk;rwa [List.append_nil]at this) rfl
   refine J.q λ_=>?_;refine J.call hX hcal (hf (l.getD k Sh.zero) (List.mem_of_getElem? hk)) [2] 0 rfl rfl rfl rfl (by(repeat' (first | exact Conj.nil | refine Conj.cons ?_ ?_ | omega | exact hq0 | (simpa using hq0) | (exactλh=>h) | exact rfl | (intro hq;have hq0:=hq;try simp only[Bool.and_eq_true,Bool.or_eq_true,decide_eq_true_eq,Bool.not_eq_true',decide_eq_false_iff_not]at hq) | (simp;done) | (simp;omega) | decide))) rfl rfl (λ_=>rfl) ?_;refine cpq ⟨_,rfl,trivial,?_⟩;refine J.qd (λ_ h2=>?_) λ_ h2=>?_
   ·refine J.qr [1,2] λ_=>?_;exact⟨by rw[b0C,a8j hk hI.2 h2],rfl⟩
   ·refine J.q λ_=>?_;refine J.nx (k+1) (⟨by omega,λi hi=>by
     rcases Nat.lt_succ_iff_lt_or_eq.1 hi with h3 | h3
     ·exact hI.2 i h3
     ·rw[h3];exact h2⟩) (by omega) (λ_ s=>s)
 ·simp only[decide_eq_false_iff_not,Int.ofNat_lt]at h1;refine J.qr [1,2] λ_=>?_;exact⟨by rw[b0C,a8k (λi hi=>hI.2 i (by omega))],rfl⟩
theorem a4D (c:Nat) (cs:List Value) (p:Sh->Bool) (A:Atom) (hcal:j7 Tryz.prog c=true) (l:List Sh) (hf:∀x∈l,Fn Tryz.prog c (shV x::cs) [A] (Ps (.bool (p x)) [A]))
  (a:Option Nat) (n cap:Nat) (hl:l.length=n) (hn:n<=4611686018427387904):FP 229 [slv a n cap,fnC c cs] [c8 219 23 a n cap (j3 l),A]
  (Ps (.bool (l.any p)) [c8 219 23 a n cap (j3 l),A]):=by
 refine FE [0,0] Tryz.func229 λX F hX=>?_;refine J.qp (a8K c cs p A hcal l hf a n cap hl hn) [1,2] λ_=>?_;refine J.qr [1,2] λ_=>?_;exact⟨by rw[<- b0B],rfl⟩
theorem a6y (l:List Sh):∀u∈j3 l,u.oneCell'=true:=by
 intro u hu;simp only[j3,List.mem_flatMap]at hu;obtain⟨s,_,hu⟩:=hu;simp only[shL,List.mem_cons,List.not_mem_nil,or_false]at hu;rcases hu with rfl | rfl | rfl | rfl | rfl | rfl | rfl | rfl | rfl | rfl | rfl | rfl | rfl | rfl | rfl | rfl | rfl | rfl | rfl | rfl | rfl | rfl | rfl<;>rfl
theorem R2 (a:Option Nat) (n cap:Nat) (l:List Sh) (hl:l.length=n) (hn:n<=1000000):FP 233 [slv a n cap] [c8 219 23 a n cap (j3 l)]
  (λv As=>∃a' c',v=slv a' n c'/\As=[c8 219 23 a n cap (j3 l),c8 219 23 a' n c' (j3 l)]):=by
 refine FE [0] Tryz.func233 λX F hX=>?_;cases a with
 | none=>
  refine J.know (λh' s=>(s.get (i:=1) rfl).2) λhn0=>?_;obtain⟨rfl,rfl⟩:=hn0;have:l=[]:=List.eq_nil_of_length_eq_zero hl;subst this;refine J.qT λ_=>?_;refine J.turn1 [] rfl (As:=[c8 219 23 none 0 0 (j3 [])]) (λh s=>Sep.one ⟨rfl,rfl,rfl⟩) rfl ?_;refine J.qr [1,2] λ_=>?_;exact⟨none,0,rfl,rfl⟩
 | some g=>
  refine J.qF λ_=>?_;refine J.qn 5 λbb=>?_;refine J.closeOwn (e:=219) (size:=23) (n:=0) (cap:=0) (xs:=[]) 2 rfl rfl rfl (Nat.le_refl _) (Nat.zero_le _) rfl rfl rfl ?_;refine J.q λ_=>?_;refine J.appendR hX tk (a:=some (bb 0)) (n:=0) (cap:=0) (xs:=[]) (oo:=0) (Ay:=c8 219 23 (some g) n cap (j3 l)) 2 1 0 rfl rfl rfl rfl rfl rfl rfl rfl rfl rfl (w7 _ _ (some g) _ _ _) rfl rfl rfl rfl (a6y l) ?_ ?_ (λ_=>rfl) λa' c'=>⟨_,rfl,trivial,?_⟩
  ·simp only[maxLen];omega
  ·omega
  rw[Nat.zero_add n,List.nil_append];refine J.qr [1,2] λ_=>?_;exact⟨a',c',rfl,rfl⟩
theorem b1C (b2:Nat) (p s:Sh) (h:s.data.length=16):FP 230 [shV s,pp b2] [.pt b2 219 (shL p)] (Ps (.bool (W.alien p s)) [.pt b2 219 (shL p)]):=by
 refine FE [0,2] Tryz.func230 λX F hX=>?_;refine J.q λ_=>?_;refine J.gcase hX rfl rfl rfl trivial (λhb=>?_) (λhb=>?_)
 ·have hb2:(s.kind !=1)=false:=by rwa [Bool.not_eq_true']at hb
  rw[hb2];refine J.qp (a3o s h) [] λ_=>?_;refine J.qr [1] λ_=>?_;exact⟨by simp only[W.alien];rw[hb2],rfl⟩
 ·have hb2:(s.kind !=1)=true:=by rwa [Bool.not_eq_false']at hb
  rw[hb2];refine J.q λ_=>?_;refine J.v (.bool false) rfl rfl (λhg a w he hw=>by simp[G.on]at hg) ?_;refine J.qr [1] λ_=>?_;exact⟨by simp only[W.alien];rw[hb2];simp,rfl⟩
theorem a9P {l:List Sh} (hd:∀s∈l,s.data.length=16):(W.over l).1.length=16:=T3 hd _ rfl
theorem a8S (p:Sh) (hp:p.data.length=16) (a:Option Nat) (n cap:Nat) (l:List Sh) (hl:l.length=n) (hn:n<=100) (hd:∀s∈l,s.data.length=16):FP 197 [shV p,slv a n cap] [c8 219 23 a n cap (j3 l)]
  (Ps (.tuple #[enV (W.back p l), .bool (W.backB p l)]) [c8 219 23 a n cap (j3 l)]):=by
 have hsb:=B3 p.mask;have hdp:∀s∈l++[p],s.data.length=16:=λs hs=>by
  rw[List.mem_append,List.mem_singleton]at hs;rcases hs with hs | rfl
  ·exact hd s hs
  ·exact hp
 have key:∀(b:Bool),W.backB p l=b->W.back p l=if b then W.backS p l else En.zero:=λb hb=>by rw[W.back,hb]
 refine FE [0,0] Tryz.func197 λX F hX=>?_;refine J.q λbb=>?_;refine J.ca hX (by kernel_rfl) (a4D 230 [pp (bb 0)] (W.alien p) _ (by kernel_rfl) l (λx hx=>b1C (bb 0) p x (hd x hx)) a n cap hl (by omega)) [1,2] 0 rfl rfl rfl rfl rfl rfl (λ_=>rfl) ?_;refine cpq ⟨_,rfl,trivial,?_⟩;refine J.q λ_=>?_;refine J.join (α:=Unit) (λ_=>[sv 34 (.bool (!W.backC p l)),sv 1 (slv a n cap),sv 5 (.bool false),⟨2,pp (bb 0),3, .tt⟩,⟨4,pp (bb (0+1)),4, .tt⟩]) (λ_=>[.hp F,c8 219 23 a n cap (j3 l), .pt (bb 0) 219 (shL p), .pt (bb (0+1)) 135 (enL En.zero)]) (λhj=>?_) (λ_=>?_)
 ·have hnil:∀b:Bool,(!W.backC p l)=b->∀x:Bool,b=x->(!W.backC p l)=x:=λb h x e=>h.trans e;have hC:(!W.backC p l)=((p.kind !=2)|| !S.may p||l.any (W.alien p)||((n:Int) !=G.slots p.mask-1)):=by
   simp only[W.backC,Bool.not_and,Bool.not_not,hl,bne];congr 1
  refine J.gcase hX rfl rfl rfl trivial (λhb=>?_) (λhb=>?_)
  ·have hb2:(p.kind !=2)=false:=by rwa [Bool.not_eq_true']at hb
   rw[hb2]at hC ⊢;refine J.qp (a3o p hp) [] λ_=>?_;refine J.q λ_=>?_;refine J.gcase hX rfl rfl rfl trivial (λhb=>?_) (λhb=>?_)
   ·have hb3:(false|| !S.may p||l.any (W.alien p))=false:=by rwa [Bool.not_eq_true']at hb
    rw[hb3]at hC ⊢;refine J.qp (D8 p.mask) [] λ_=>?_;refine J.q λ_=>?_;exact J.goto [0,1,2,3] (hj ()) ⟨congrArg (λb=>some (Value.bool b)) hC.symm,rfl,rfl,rfl,rfl,trivial⟩ rfl rfl
   ·have hb3:(false|| !S.may p||l.any (W.alien p))=true:=by rwa [Bool.not_eq_false']at hb
    rw[hb3]at hC ⊢;refine J.q λ_=>?_;refine J.v (iI 0) rfl rfl (λhg a w he hw=>by simp[G.on]at hg) ?_;refine J.q λ_=>?_;exact J.goto [0,1,2,3] (hj ()) ⟨congrArg (λb=>some (Value.bool b)) (show _= !W.backC p l from by rw[hC];rfl),rfl,rfl,rfl,rfl,trivial⟩ rfl rfl
  ·have hb2:(p.kind !=2)=true:=by rwa [Bool.not_eq_false']at hb
   rw[hb2]at hC ⊢;refine J.q λ_=>?_;refine J.v (.bool false) rfl rfl (λhg a w he hw=>by simp[G.on]at hg) ?_;refine J.q λ_=>?_;refine J.gcase hX rfl rfl rfl trivial (λhb=>by simp at hb) (λhb=>?_);refine J.q λ_=>?_;refine J.v (iI 0) rfl rfl (λhg a w he hw=>by simp[G.on]at hg) ?_;refine J.q λ_=>?_;exact J.goto [0,1,2,3] (hj ()) ⟨congrArg (λb=>some (Value.bool b)) (show _= !W.backC p l from by rw[hC];rfl),rfl,rfl,rfl,rfl,trivial⟩ rfl rfl
 refine J.qd (λ_ h1=>?_) λ_ h1=>?_
 ·have hB:W.backB p l=false:=by
   have:W.backB p l=(W.backC p l&&W.ok p.block p.row p.mask (W.backS p l)):=rfl;rw[this,show W.backC p l=false from by simpa using h1];rfl
  refine J.qr [1] λ_=>?_;exact⟨by rw[key _ hB,hB];rfl,rfl⟩
 have h2:W.backC p l=true:=by simpa using h1
 have hB:W.backB p l=W.ok p.block p.row p.mask (W.backS p l):=by
  have:W.backB p l=(W.backC p l&&W.ok p.block p.row p.mask (W.backS p l)):=rfl;rw[this,h2];rfl
 refine J.p (.take true 0 (.take false 2 (.alt false 1 ((.alt false 3 ((.alt false 4 ((.alt false 5 ((.of [24,28,32,38,42,44])) (.alt false 9 ((.of [22,24,28,32,42,44])) .non))) (.alt false 9 ((.of [18,22,24,28,32,42,44])) .non))) (.alt false 9 ((.of [14,18,22,24,28,32,42,44])) .non))) (.alt false 3 ((.alt false 1 ((.alt false 4 ((.alt false 5 ((.of [24,28,32,38,42,44])) (.alt false 9 ((.of [22,24,28,32,42,44])) .non))) (.alt false 9 ((.of [18,22,24,28,32,42,44])) .non))) (.alt false 9 ((.of [6,18,22,24,28,32,42,44])) .non))) (.alt false 9 ((.alt false 1 ((.of [14,18,22,24,28,32,42,44])) (.alt false 3 ((.of [6,18,22,24,28,32,42,44])) .non))) .non))))) [11] [2] λ_=>?_;refine J.join (α:=Nat) (λx=>[⟨7,pp x,5, .tt⟩,⟨8, .int .u64 (W.over (l++[p])).2,0, .tt⟩,⟨2,pp (bb 0),3, .tt⟩,⟨4,pp (bb (0+1)),4, .tt⟩]) (λx=>[.hp F,c8 219 23 a n cap (j3 l), .pt (bb 0) 219 (shL p), .pt (bb (0+1)) 135 (enL En.zero), .pt x 31 (j8 (W.over (l++[p])).1)]) (λhj=>?_) (λx=>?_)
 ·skip
  refine J.qn 2 λ_=>?_;refine J.alts ?_ (J.alts ?_ ?_)
  ·skip
   refine J.qc (R2 a n cap l hl (by omega)) [1] λ_=>?_;rintro v As ⟨a1,c1,rfl,rfl⟩;refine⟨_,rfl,⟨rfl,trivial⟩,?_⟩;refine J.alts ?_ ?_
   ·skip
    refine J.qn 1 λb3=>?_;refine J.alts ?_ ?_
    ·skip
     refine J.append hX tk 4 5 0 rfl rfl rfl rfl rfl rfl rfl rfl rfl rfl rfl rfl rfl rfl rfl rfl ?_ ?_ (λ_=>rfl) λa2 c2=>⟨_,(congrArg (λz=>r8 _ 4 (c8 _ _ _ _ _ z)) (p5 l p).symm).trans rfl,⟨rfl,trivial⟩,?_⟩
     ·simp only[maxLen];omega
     ·omega
     refine J.alts ?_ ?_
     ·skip
      refine J.qp (H8 a2 (n+1) c2 (l++[p]) (by simp[hl]) (by omega) hdp) [4] λ_=>?_;refine J.qn 3 λ_=>?_;refine J.qn 1 λb9=>?_;refine J.qn 3 λ_=>?_;exact J.goto [0,1,2,3,6] (hj (b9 0)) ⟨rfl,rfl,rfl,rfl,trivial⟩ rfl rfl
     ·skip
      refine J.qn 1 λb9=>?_;refine J.qp (H8 a2 (n+1) c2 (l++[p]) (by simp[hl]) (by omega) hdp) [4] λ_=>?_;refine J.qn 6 λ_=>?_;exact J.goto [0,1,2,3,6] (hj (b9 0)) ⟨rfl,rfl,rfl,rfl,trivial⟩ rfl rfl
    ·skip
     refine J.qn 1 λb9=>?_;refine J.append hX tk 4 5 0 rfl rfl rfl rfl rfl rfl rfl rfl rfl rfl rfl rfl rfl rfl rfl rfl ?_ ?_ (λ_=>rfl) λa2 c2=>⟨_,(congrArg (λz=>r8 _ 4 (c8 _ _ _ _ _ z)) (p5 l p).symm).trans rfl,⟨rfl,trivial⟩,?_⟩
     ·simp only[maxLen];omega
     ·omega
     refine J.qp (H8 a2 (n+1) c2 (l++[p]) (by simp[hl]) (by omega) hdp) [4] λ_=>?_;refine J.qn 6 λ_=>?_;exact J.goto [0,1,2,3,6] (hj (b9 0)) ⟨rfl,rfl,rfl,rfl,trivial⟩ rfl rfl
   ·skip
    refine J.qn 1 λb9=>?_;refine J.qn 1 λb3=>?_;refine J.append hX tk 4 6 0 rfl rfl rfl rfl rfl rfl rfl rfl rfl rfl rfl rfl rfl rfl rfl rfl ?_ ?_ (λ_=>rfl) λa2 c2=>⟨_,(congrArg (λz=>r8 _ 4 (c8 _ _ _ _ _ z)) (p5 l p).symm).trans rfl,⟨rfl,trivial⟩,?_⟩
    ·simp only[maxLen];omega
    ·omega
    refine J.qp (H8 a2 (n+1) c2 (l++[p]) (by simp[hl]) (by omega) hdp) [4] λ_=>?_;refine J.qn 6 λ_=>?_;exact J.goto [0,1,2,3,5] (hj (b9 0)) ⟨rfl,rfl,rfl,rfl,trivial⟩ rfl rfl
  ·skip
   refine J.qn 1 λb3=>?_;refine J.alts ?_ ?_
   ·skip
    refine J.qc (R2 a n cap l hl (by omega)) [1] λ_=>?_;rintro v As ⟨a1,c1,rfl,rfl⟩;refine⟨_,rfl,⟨rfl,trivial⟩,?_⟩;refine J.alts ?_ ?_
    ·skip
     refine J.append hX tk 5 4 0 rfl rfl rfl rfl rfl rfl rfl rfl rfl rfl rfl rfl rfl rfl rfl rfl ?_ ?_ (λ_=>rfl) λa2 c2=>⟨_,(congrArg (λz=>r8 _ 5 (c8 _ _ _ _ _ z)) (p5 l p).symm).trans rfl,⟨rfl,trivial⟩,?_⟩
     ·simp only[maxLen];omega
     ·omega
     refine J.alts ?_ ?_
     ·skip
      refine J.qp (H8 a2 (n+1) c2 (l++[p]) (by simp[hl]) (by omega) hdp) [5] λ_=>?_;refine J.qn 3 λ_=>?_;refine J.qn 1 λb9=>?_;refine J.qn 3 λ_=>?_;exact J.goto [0,1,2,3,6] (hj (b9 0)) ⟨rfl,rfl,rfl,rfl,trivial⟩ rfl rfl
     ·skip
      refine J.qn 1 λb9=>?_;refine J.qp (H8 a2 (n+1) c2 (l++[p]) (by simp[hl]) (by omega) hdp) [5] λ_=>?_;refine J.qn 6 λ_=>?_;exact J.goto [0,1,2,3,6] (hj (b9 0)) ⟨rfl,rfl,rfl,rfl,trivial⟩ rfl rfl
    ·skip
     refine J.qn 1 λb9=>?_;refine J.append hX tk 5 4 0 rfl rfl rfl rfl rfl rfl rfl rfl rfl rfl rfl rfl rfl rfl rfl rfl ?_ ?_ (λ_=>rfl) λa2 c2=>⟨_,(congrArg (λz=>r8 _ 5 (c8 _ _ _ _ _ z)) (p5 l p).symm).trans rfl,⟨rfl,trivial⟩,?_⟩
     ·simp only[maxLen];omega
     ·omega
     refine J.qp (H8 a2 (n+1) c2 (l++[p]) (by simp[hl]) (by omega) hdp) [5] λ_=>?_;refine J.qn 6 λ_=>?_;exact J.goto [0,1,2,3,6] (hj (b9 0)) ⟨rfl,rfl,rfl,rfl,trivial⟩ rfl rfl
   ·skip
    refine J.qn 1 λb9=>?_;refine J.qc (R2 a n cap l hl (by omega)) [1] λ_=>?_;rintro v As ⟨a1,c1,rfl,rfl⟩;refine⟨_,rfl,⟨rfl,trivial⟩,?_⟩;refine J.append hX tk 6 4 0 rfl rfl rfl rfl rfl rfl rfl rfl rfl rfl rfl rfl rfl rfl rfl rfl ?_ ?_ (λ_=>rfl) λa2 c2=>⟨_,(congrArg (λz=>r8 _ 6 (c8 _ _ _ _ _ z)) (p5 l p).symm).trans rfl,⟨rfl,trivial⟩,?_⟩
    ·simp only[maxLen];omega
    ·omega
    refine J.qp (H8 a2 (n+1) c2 (l++[p]) (by simp[hl]) (by omega) hdp) [6] λ_=>?_;refine J.qn 6 λ_=>?_;exact J.goto [0,1,2,3,5] (hj (b9 0)) ⟨rfl,rfl,rfl,rfl,trivial⟩ rfl rfl
  ·skip
   refine J.qn 1 λb9=>?_;refine J.alts ?_ ?_
   ·skip
    refine J.qc (R2 a n cap l hl (by omega)) [1] λ_=>?_;rintro v As ⟨a1,c1,rfl,rfl⟩;refine⟨_,rfl,⟨rfl,trivial⟩,?_⟩;refine J.qn 1 λb3=>?_;refine J.append hX tk 5 6 0 rfl rfl rfl rfl rfl rfl rfl rfl rfl rfl rfl rfl rfl rfl rfl rfl ?_ ?_ (λ_=>rfl) λa2 c2=>⟨_,(congrArg (λz=>r8 _ 5 (c8 _ _ _ _ _ z)) (p5 l p).symm).trans rfl,⟨rfl,trivial⟩,?_⟩
    ·simp only[maxLen];omega
    ·omega
    refine J.qp (H8 a2 (n+1) c2 (l++[p]) (by simp[hl]) (by omega) hdp) [5] λ_=>?_;refine J.qn 6 λ_=>?_;exact J.goto [0,1,2,3,4] (hj (b9 0)) ⟨rfl,rfl,rfl,rfl,trivial⟩ rfl rfl
   ·skip
    refine J.qn 1 λb3=>?_;refine J.qc (R2 a n cap l hl (by omega)) [1] λ_=>?_;rintro v As ⟨a1,c1,rfl,rfl⟩;refine⟨_,rfl,⟨rfl,trivial⟩,?_⟩;refine J.append hX tk 6 5 0 rfl rfl rfl rfl rfl rfl rfl rfl rfl rfl rfl rfl rfl rfl rfl rfl ?_ ?_ (λ_=>rfl) λa2 c2=>⟨_,(congrArg (λz=>r8 _ 6 (c8 _ _ _ _ _ z)) (p5 l p).symm).trans rfl,⟨rfl,trivial⟩,?_⟩
    ·simp only[maxLen];omega
    ·omega
    refine J.qp (H8 a2 (n+1) c2 (l++[p]) (by simp[hl]) (by omega) hdp) [6] λ_=>?_;refine J.qn 6 λ_=>?_;exact J.goto [0,1,2,3,4] (hj (b9 0)) ⟨rfl,rfl,rfl,rfl,trivial⟩ rfl rfl

 obtain⟨mm,hm1,hm2⟩:=a1H (l++[p]) (zeros16,0) ⟨by decide,by decide⟩;have hm1:(W.over (l++[p])).2=(mm:Int):=hm1;have hS:W.backS p l=⟨(mm/1099511627776 % 65536:Nat),(mm % 1099511627776:Nat),(mm/72057594037927936:Nat),(W.over (l++[p])).1⟩:=by
  have hx:mm=(W.over (l++[p])).2.toNat:=by rw[hm1];rfl
  rw[W.backS,<- hx]
 rw[hm1];refine J.qp (b3Z mm hm2) [] λ_=>?_;refine J.qp (a4H p.block p.row p.mask ⟨(mm/1099511627776 % 65536:Nat),(mm % 1099511627776:Nat),(mm/72057594037927936:Nat),(W.over (l++[p])).1⟩ (a9P hdp)) [] λ_=>?_;rw[<- hS,<- hB];refine J.qd (λ_ h3=>?_) λ_ h3=>?_
 ·simp only[Bool.not_eq_true']at h3;refine J.qr [1] λ_=>?_;exact⟨by rw[key _ h3,h3];rfl,rfl⟩
 ·simp only[Bool.not_eq_false']at h3;refine J.qr [1] λ_=>?_;exact⟨by rw[key _ h3,h3,if_pos rfl,hS];rfl,rfl⟩
def A7 (l:List Bool):List Value:=l.map .bool
theorem a5L (l:List Bool) (x:Bool):A7 (l++[x])=A7 l++[.bool x]:=by simp[A7]
theorem Q0 {l:List Bool} {k:Nat} {x:Bool} (h:l[k]? =some x):(A7 l)[k]? =some (.bool x):=by simp[A7,h]
def fdL (a1:Option Nat) (c1:Nat) (a2:Option Nat) (c2 n:Nat) (s:Sh) (w:Bool):List Value:=[slv a1 n c1,slv a2 n c2,byC s.data 0,byC s.data 1,byC s.data 2,byC s.data 3,byC s.data 4,byC s.data 5,byC s.data 6,byC s.data 7,byC s.data 8,byC s.data 9,byC s.data 10,byC s.data 11,byC s.data 12,byC s.data 13,byC s.data 14,byC s.data 15,
 iI s.role,iI s.lpn,iI s.seq,iI s.kind,iI s.block,iI s.row,iI s.mask, .bool w]
theorem a3V (s:Sh):FP 138 [shV s] [] (Ps (enV s.en) []):=by
 refine FE [0] Tryz.func138 λX F hX=>?_;exact J.qx []
theorem a6S (p:Nat) (N:Nand) (hN:N.Ok) (hR:N.Room) (b r m d:Int) (b1 b2 b3 b4:Nat):FP 196 [iI d,pp b1,pp b2,pp b3,pp b4] [d8 p N, .pt b1 44 [pp p], .pt b2 3 [iI b], .pt b3 3 [iI r], .pt b4 3 [iI m]]
  (Ps (.tuple #[shV (R.one N b r m d).1, .bool (R.one N b r m d).2]) [d8 p N, .pt b1 44 [pp p], .pt b2 3 [iI b], .pt b3 3 [iI r], .pt b4 3 [iI m]]):=by
 refine FE [0,3,4,5,6] Tryz.func196 λX F hX=>?_;refine J.q λb2=>?_;refine J.q λb3=>?_;refine J.cb (a0c p N hN hR d b r) [1] ?_;refine cpq ⟨_,rfl,trivial,?_⟩;refine J.q λb4=>?_;refine J.plan (.of [1,4,8,12,16,21,25,28,32,38,40]) [10] [5,7] (by rw[hX.hP];kernel_rfl) (by kernel_rfl) ?_;exact J.qx [1,2,3,4,5]
theorem a2V (N:Nand) (b r m:Int) (k:Nat):R.ones N b r m (k+1)=R.ones N b r m k++[R.one N b r m (G.die m b r (k:Nat))]:=by simp[R.ones,List.range_succ]
theorem a9y (p:Nat) (N:Nand) (hN:N.Ok) (hR:N.Room) (b r m:Int):FP 137 [pp p,iI b,iI r,iI m] [d8 p N]
  (λv As=>∃a1 c1 a2 c2,v= .agg (fdL a1 c1 a2 c2 (G.slots m).toNat (R.look N b r m).parity (R.look N b r m).whole).toArray/\As=[d8 p N,c8 219 23 a1 (G.slots m).toNat c1 (j3 (R.look N b r m).slots),c8 4 1 a2 (G.slots m).toNat c2 (A7 (R.look N b r m).good)]):=by
 have hsb:=B3 m;obtain⟨P,hP⟩:∃P,R.one N b r m (G.parity m b r)=P:=⟨_,rfl⟩;refine FE [2,0,0,0] Tryz.func137 λX F hX=>?_;refine J.q λbb=>?_;refine J.cb (E6 m b r) [] ?_;refine cpq ⟨_,rfl,trivial,?_⟩;refine J.q λb8=>?_;refine J.cb (a6S p N hN hR b r m (G.parity m b r) (bb 0) (bb 1) (bb 2) (bb 3)) [1,2,3,4,5] ?_;refine cpq ⟨_,rfl,trivial,?_⟩;rw[hP];refine J.qp (D8 m) [] λ_=>?_;refine J.turn1 [] rfl (As:=[c8 219 23 none 0 0 (j3 []),c8 4 1 none 0 0 (A7 [])]) (λh s=>⟨λ_=>0,λi A hA=>by
  match i,hA with
  | 0,hA=>simp at hA;subst hA;exact⟨rfl,rfl,rfl⟩
  | 1,hA=>simp at hA;subst hA;exact⟨rfl,rfl,rfl⟩
  | k+2,hA=>simp at hA⟩) rfl ?_
 refine J.q λ_=>?_;refine J.l (α:=(Nat×Option Nat×Nat×Option Nat×Nat)) (λz=>z.1<=(G.slots m).toNat) (λz=>[si 28 z.1,si 27 (G.slots m),⟨9,fnC 196 [pp (bb 0),pp (bb 1),pp (bb 2),pp (bb 3)],0, .tt⟩,⟨4,pp (bb 0),3, .tt⟩,⟨5,pp (bb 1),4, .tt⟩,⟨6,pp (bb 2),5, .tt⟩,⟨7,pp (bb 3),6, .tt⟩,⟨8,pp (bb 4),7, .tt⟩,⟨10,pp (bb 5),8, .tt⟩]) [7,8,9] (λz=>[.pt (bb 5) 221 (fdL z.2.1 z.2.2.1 z.2.2.2.1 z.2.2.2.2 z.1 P.1 P.2),c8 219 23 z.2.1 z.1 z.2.2.1 (j3 ((R.ones N b r m z.1).map (·.1))),c8 4 1 z.2.2.2.1 z.1 z.2.2.2.2 (A7 ((R.ones N b r m z.1).map (·.2)))]) (λz=>(G.slots m).toNat-z.1) ((0,none,0,none,0)) (Nat.zero_le _) λz hI=>?_;obtain⟨k,a1,c1,a2,c2⟩:=z;dsimp only at hI ⊢;refine J.qd (λ_ h1=>?_) λ_ h1=>?_
 ·simp only[decide_eq_true_eq]at h1;have hS1:j3 ((R.ones N b r m k).map (·.1))++shL (R.one N b r m (G.die m b r k)).1=j3 ((R.ones N b r m (k+1)).map (·.1)):=by rw[a2V,List.map_append,<- p5];rfl
  have hS2:A7 ((R.ones N b r m k).map (·.2))++[.bool (R.one N b r m (G.die m b r k)).2]=A7 ((R.ones N b r m (k+1)).map (·.2)):=by rw[a2V,List.map_append,<- a5L];rfl
  refine J.qp (a7f m b r k (by omega) (by omega)) [] λ_=>?_;refine J.qp (a6S p N hN hR b r m (G.die m b r k) (bb 0) (bb 1) (bb 2) (bb 3)) [1,2,3,4,5] λ_=>?_;refine J.p (.take true 0 (.take false 1 (.take false 2 (.take true 5 (.take false 6 (.take true 7 (.alt false 3 ((.alt false 4 ((.of [40,34,38,47,48,55])) (.alt false 8 ((.of [18,40,38,47,48,55])) .non))) (.alt false 8 ((.of [14,18,40,38,47,48,55])) .non)))))))) [11,12,13] [7,10] λ_=>?_;refine J.join (α:=Option Nat×Nat×Option Nat×Nat) (λx=>[si 28 k,si 27 (G.slots m),⟨9,fnC 196 [pp (bb 0),pp (bb 1),pp (bb 2),pp (bb 3)],0, .tt⟩,⟨4,pp (bb 0),3, .tt⟩,⟨5,pp (bb 1),4, .tt⟩,⟨6,pp (bb 2),5, .tt⟩,⟨7,pp (bb 3),6, .tt⟩,⟨8,pp (bb 4),7, .tt⟩,⟨10,pp (bb 5),8, .tt⟩]) (λx=>[.hp F,d8 p N, .pt (bb 0) 44 [pp p], .pt (bb 1) 3 [iI b], .pt (bb 2) 3 [iI r], .pt (bb 3) 3 [iI m], .pt (bb 4) 221 (fdL none 0 none 0 0 Sh.zero false), .pt (bb 5) 221 (fdL x.1 x.2.1 x.2.2.1 x.2.2.2 (k+1) P.1 P.2),c8 219 23 x.1 (k+1) x.2.1 (j3 ((R.ones N b r m (k+1)).map (·.1))),c8 4 1 x.2.2.1 (k+1) x.2.2.2 (A7 ((R.ones N b r m (k+1)).map (·.2)))]) (λhj=>?_) (λx=>?_)
  ·skip
   refine J.qn 6 λ_=>?_;refine J.alts ?_ ?_
   ·skip
    refine J.qn 1 λb3=>?_;refine J.alts ?_ ?_
    ·skip
     refine J.ap 8 11 0 hS1 λa3 c3=>?_;refine J.qn 1 λ_=>?_;refine J.qn 1 λb8=>?_;refine J.ap 9 12 0 hS2 λa4 c4=>?_;refine J.qn 4 λ_=>?_;exact J.goto [0,1,2,3,4,5,6,7,8,9] (hj (a3,c3,a4,c4)) ⟨rfl,rfl,rfl,rfl,rfl,rfl,rfl,rfl,rfl,trivial⟩ rfl rfl
    ·skip
     refine J.qn 1 λb8=>?_;refine J.ap 8 11 0 hS1 λa3 c3=>?_;refine J.qn 1 λ_=>?_;refine J.ap 9 12 0 hS2 λa4 c4=>?_;refine J.qn 4 λ_=>?_;exact J.goto [0,1,2,3,4,5,6,7,8,9] (hj (a3,c3,a4,c4)) ⟨rfl,rfl,rfl,rfl,rfl,rfl,rfl,rfl,rfl,trivial⟩ rfl rfl
   ·skip
    refine J.qn 1 λb8=>?_;refine J.qn 1 λb3=>?_;refine J.ap 8 12 0 hS1 λa3 c3=>?_;refine J.qn 1 λ_=>?_;refine J.ap 9 11 0 hS2 λa4 c4=>?_;refine J.qn 4 λ_=>?_;exact J.goto [0,1,2,3,4,5,6,7,8,9] (hj (a3,c3,a4,c4)) ⟨rfl,rfl,rfl,rfl,rfl,rfl,rfl,rfl,rfl,trivial⟩ rfl rfl
  obtain⟨a3,c3,a4,c4⟩:=x;dsimp only;refine J.q λ_=>?_;refine J.n ((k+1,a3,c3,a4,c4)) (by dsimp only;omega) (by dsimp only;omega) [0,1,2,3,4,5,6,7,8,9]
 ·simp only[decide_eq_false_iff_not]at h1;have hk:k=(G.slots m).toNat:=by omega
  subst hk;refine J.qr [1,8,9] λ_=>?_;refine⟨a1,c1,a2,c2,?_,rfl⟩;rw[show(R.look N b r m).parity=P.1 from congrArg Prod.fst hP,show(R.look N b r m).whole=P.2 from congrArg Prod.snd hP];rfl
def O4 (l:List Sh) (k i:Nat):List Sh:=(l.take i).eraseIdx k
theorem b2m (l:List Sh) (i:Nat) (h:i<l.length):O4 l i (i+1)=O4 l i i:=by
 unfold O4;have hl:(l.take i).length=i:=by rw[List.length_take];omega
 rw[List.eraseIdx_of_length_le (l:=l.take i) (by omega),List.take_add_one,List.getElem?_eq_getElem h,Option.toList_some];rw[List.eraseIdx_append_of_length_le (by omega),hl,Nat.sub_self];simp
theorem b2l (l:List Sh) (k i:Nat) (x:Sh) (h:l[i]? =some x) (hk:i≠k):O4 l k (i+1)=O4 l k i++[x]:=by
 unfold O4;rw[List.take_add_one,h,Option.toList_some];have hi:=(List.getElem?_eq_some_iff.1 h).1;have hl:(l.take i).length=i:=by rw[List.length_take];omega
 by_cases hlt:k<i
 ·rw[List.eraseIdx_append_of_lt_length (by omega)]
 ·rw[List.eraseIdx_of_length_le (l:=l.take i++[x]) (by rw[List.length_append,List.length_singleton];omega),List.eraseIdx_of_length_le (by omega)]
theorem a9T (l:List Sh) (k i:Nat):(O4 l k i).length<=l.length:=by
 unfold O4;refine Nat.le_trans (List.length_eraseIdx_le _ _) ?_;rw[List.length_take];omega
theorem a9S {l:List Sh} {k i:Nat} {x:Sh} (h:x∈O4 l k i):x∈l:=List.mem_of_mem_take (List.mem_of_mem_eraseIdx h)
theorem a4S (f:Fd) (n:Nat) (hn:n<=8) (h1l:f.slots.length=n) (h2l:f.good.length=n) (hd:∀s∈f.slots,s.data.length=16) (hp:f.parity.data.length=16) (a1 a2:Option Nat) (c1 c2 k:Nat):FP 139 [.agg (fdL a1 c1 a2 c2 n f.parity f.whole).toArray,iI k] [c8 219 23 a1 n c1 (j3 f.slots),c8 4 1 a2 n c2 (A7 f.good)]
  (λv As=>v= .tuple #[enV (R.mend f k), .bool (R.mendB f k)]/\As=[c8 219 23 a1 n c1 (j3 f.slots),c8 4 1 a2 n c2 (A7 f.good)]):=by
 refine FE [0,0] Tryz.func139 λX F hX=>?_;refine J.q λbb=>?_;refine J.turn1 [] rfl (As:=[c8 219 23 none 0 0 (j3 (O4 f.slots k 0))]) (λh s=>Sep.one ⟨rfl,rfl,rfl⟩) rfl ?_;refine J.q λ_=>?_;refine J.l (α:=(Nat×Option Nat×Nat)) (λz=>z.1<=n/\∀j<z.1,j=k\/f.good.getD j false=true) (λz=>[si 12 z.1,si 11 n,sv 10 (slv a1 n c1),si 1 k,⟨2,pp (bb 0),4, .tt⟩,⟨4,pp (bb 1),5, .tt⟩,sv 5 (.bool false),sv 6 (slv z.2.1 (O4 f.slots k z.1).length z.2.2)]) [5] (λz=>[c8 219 23 z.2.1 (O4 f.slots k z.1).length z.2.2 (j3 (O4 f.slots k z.1))]) (λz=>n-z.1) ((0,none,0)) (⟨Nat.zero_le _,by omega⟩) λz hI=>?_;obtain⟨i,a3,c3⟩:=z;dsimp only at hI ⊢;have hol:=a9T f.slots k i;refine J.qd (λ_ h1=>?_) λ_ h1=>?_
 ·simp only[decide_eq_true_eq,Int.ofNat_lt]at h1;refine J.know (λh' s=>f8 (c:=(a1,c1)) (by omega) (s.get (i:=1) rfl)) λhg=>?_;obtain⟨g1,rfl⟩:=hg;refine J.know (λh' s=>f8 (c:=(a2,c2)) (by omega) (s.get (i:=2) rfl)) λhg=>?_;obtain⟨g2,rfl⟩:=hg;obtain⟨s,hs⟩:∃s,f.slots[i]? =some s:=⟨_,List.getElem?_eq_getElem (by omega)⟩;have hgd:f.good[i]? =some (f.good.getD i false):=by rw[List.getD_eq_getElem?_getD,List.getElem?_eq_getElem (by omega),Option.getD_some]
  refine J.q λ_=>?_;refine J.v (shV s) rfl rfl (λhg a w he hw=>?_) ?_
  ·exact j6 tk rfl rfl he rfl rfl rfl (hw.get (i:=1) rfl) (by rw[show 0+(i:Int).toNat*23=i*23 from by omega];exact P8 hs) rfl
  refine J.qd (λ_ h2=>?_) λ_ h2=>?_
  ·simp only[beq_iff_eq,Int.natCast_inj]at h2;subst h2;rw[<- b2m f.slots i (by omega)];refine J.q λ_=>?_;refine J.nS ((i+1,a3,c3)) (⟨by dsimp only;omega,λj hj=>by
    rcases Nat.lt_succ_iff_lt_or_eq.1 hj with h | h
    ·exact hI.2 j h
    ·exact .inl h⟩) (by dsimp only;omega) [0,1,2,3,4,5] rfl rfl
  simp only[beq_eq_false_iff_ne,ne_eq,Int.natCast_inj]at h2;refine J.q λ_=>?_;refine J.v (.bool (f.good.getD i false)) rfl rfl (λhg a w he hw=>?_) ?_
  ·exact i5 tk rfl rfl he rfl rfl rfl (hw.get (i:=2) rfl) (by rw[show 0+(i:Int).toNat*1=i from by omega];exact Q0 hgd)
  refine J.qd (λ_ h3=>?_) λ_ h3=>?_
  ·simp only[Bool.not_eq_true']at h3;refine J.qr [1,2] λ_=>?_;have hr:R.rest f k=false:=by
    unfold R.rest;rw[List.all_eq_false];exact⟨i,by rw[List.mem_range];omega,by rw[h3];simpa using h2⟩
   simp only[R.mend,R.mendB,hr,Bool.false_and];exact⟨rfl,rfl⟩
  ·simp only[Bool.not_eq_false']at h3;have hsn:=b2l f.slots k i s hs h2;have hsl:(O4 f.slots k i).length+1=(O4 f.slots k (i+1)).length:=by rw[hsn];simp
   refine J.q λ_=>?_;refine J.ap 5 7 0 ((p5 _ s).symm.trans (congrArg j3 hsn.symm)) λa4 c4=>?_;rw[hsl];refine J.q λ_=>?_;refine J.nS ((i+1,a4,c4)) (⟨by dsimp only;omega,λj hj=>by
    rcases Nat.lt_succ_iff_lt_or_eq.1 hj with h | h
    ·exact hI.2 j h
    ·exact .inr (h▸h3)⟩) (by dsimp only;omega) [0,1,2,3,4,5] rfl rfl
 ·simp only[decide_eq_false_iff_not,Int.ofNat_lt]at h1;obtain rfl:i=n:=by omega
  have hr:R.rest f k=true:=by
   unfold R.rest;rw[List.all_eq_true];intro j hj;rcases hI.2 j (by simp at hj;omega)with h | h
   ·simp[h]
   ·rw[h];simp
  have ho:O4 f.slots k i=f.slots.eraseIdx k:=by unfold O4;rw[List.take_of_length_le (by omega)]
  refine J.qd (λ_ h4=>?_) λ_ h4=>?_
  ·simp only[Bool.not_eq_true']at h4;refine J.qr [1,2] λ_=>?_;simp only[R.mend,R.mendB,h4,Bool.and_false,Bool.false_and];exact⟨rfl,rfl⟩
  ·simp only[Bool.not_eq_false']at h4;refine J.qp (a8S f.parity hp a3 (O4 f.slots k i).length c3 (O4 f.slots k i) rfl (by omega) (λs hs=>hd s (a9S hs))) [5] λ_=>?_;refine J.qr [1,2] λ_=>?_;simp only[R.mend,R.mendB,hr,h4,Bool.and_self,Bool.true_and,if_true,<- ho];exact⟨rfl,rfl⟩
theorem a2t:∀m,m<256->∀k,k<8->0<=L.at_ (m:Nat) (k:Nat)->L.count (L.without (m:Nat) (L.at_ (m:Nat) (k:Nat)))=L.count (m:Nat)-1:=by decide+kernel
theorem b4g {m b r s:Int} (h:0<=G.die m b r s):0<=s/\s<G.slots m:=by
 unfold G.die at h;split at h
 ·omega
 ·rename_i hp;have hp0:0<=G.parity m b r:=by omega
  have hs:0<=s/\s<(L.count (L.without m (G.parity m b r)):Int):=by
   by_cases hh:s<0\/(L.count (L.without m (G.parity m b r)):Int)<=s
   ·rw[L.at_ge _ _ hh]at h;omega
   ·omega
  unfold G.parity at hp0 hs;split at hp0
  ·omega
  ·rename_i hc;rw[if_neg hc]at hs;have hm:0<=m/\m<256:=by
    by_cases hh:0<=m/\m<256
    ·exact hh
    ·have:=L.count_no m hh;omega
   obtain⟨M,rfl⟩:=Int.eq_ofNat_of_zero_le hm.1;have hcl:=L.count_le (M:Int);have hq:0<=(b+r) % (L.count (M:Int):Int)/\(b+r) % (L.count (M:Int):Int)<L.count (M:Int):=⟨Int.emod_nonneg _ (by omega),Int.emod_lt_of_pos _ (by omega)⟩;obtain⟨q,hq2⟩:=Int.eq_ofNat_of_zero_le hq.1;rw[hq2]at hs hp0 hq;rw[a2t M (by omega) q (by omega) hp0]at hs;unfold G.slots;rw[if_neg (by omega)];omega
theorem M6 {N:Nand} (hN:N.Ok) (b r m:Int):(∀s∈(R.look N b r m).slots,s.data.length=16)/\(R.look N b r m).parity.data.length=16:=by
 refine⟨λs hs=>?_,a3e hN _ _ _⟩;simp only[R.look,R.ones,List.map_map,List.mem_map]at hs;obtain⟨k,_,rfl⟩:=hs;exact a3e hN _ _ _
theorem a3W (p:Nat) (N:Nand) (hN:N.Ok) (hR:N.Room) (b r s m:Int) (h0: -1000000<=s) (h1:s<=1000000):FP 87 [pp p, .agg #[iI b,iI r,iI s],iI m] [d8 p N]
  (Ps (.tuple #[enV (R.read N b r s m).1,iI (R.read N b r s m).2]) [d8 p N]):=by
 have hbd:=hN.bd;refine FE [2,0,0] Tryz.func87 λX F hX=>?_;refine J.q λbb=>?_;refine J.join (α:=Unit) (λ_=>[⟨30, .bool (decide (G.die m b r s<0)|| !x3 N.dies N.blocks N.pages 0 b r),0, .tt⟩,⟨0,pp p,2, .tt⟩,si 2 m,⟨4,pp (bb 0),3, .tt⟩,⟨6,pp (bb 1),4, .tt⟩]) (λ_=>[.hp F,d8 p N, .pt (bb 0) 139 [iI b,iI r,iI s], .pt (bb 1) 135 (enL En.zero)]) (λhj=>?_) (λ_=>?_)
 ·refine J.p (.of [0,4,9,12,17,20,25,30,32,36,40,48,53,56,61,64,46,70,72,76]) [] [2] λ_=>?_;refine J.qp (a7f m b r s h0 h1) [] λ_=>?_;refine J.q λ_=>?_;refine J.gcase hX rfl rfl rfl ⟨rfl,trivial⟩ (λhb=>?_) (λhb=>?_)
  ·have hb2:decide (G.die m b r s<0)=false:=by rwa [Bool.not_eq_true']at hb
   rw[hb2]at hj ⊢;refine J.qp (M4 p N) [1] λ_=>?_;refine J.qp (a5z N.dies N.blocks N.pages 0 b r (by omega) (by omega) (by omega)) [] λ_=>?_;refine J.q λ_=>?_;exact J.goto [0,1,2,3] (hj ()) ⟨rfl,rfl,rfl,rfl,rfl,trivial⟩ rfl rfl
  ·have hb2:decide (G.die m b r s<0)=true:=by rwa [Bool.not_eq_false']at hb
   rw[hb2]at hj ⊢;refine J.q λ_=>?_;refine J.gcase hX rfl rfl rfl ⟨rfl,trivial⟩ (λhb=>by simp at hb) (λhb=>?_);refine J.q λ_=>?_;refine J.vT (.bool false) rfl rfl (λhg a w he hw=>by simp[G.on]at hg) ?_;refine J.q λ_=>?_;exact J.goto [0,1,2,3] (hj ()) ⟨rfl,rfl,rfl,rfl,rfl,trivial⟩ rfl rfl
 refine J.qd (λ_ h2=>?_) λ_ h2=>?_
 ·refine J.qr [1] λ_=>?_;have:G.die m b r s<0\/x3 N.dies N.blocks N.pages 0 b r=false:=by simpa using h2
  rw[R.read,if_pos this];exact⟨rfl,rfl⟩
 have hc:¬(G.die m b r s<0\/x3 N.dies N.blocks N.pages 0 b r=false):=by simpa using h2
 have hd:=b4g (m:=m) (b:=b) (r:=r) (s:=s) (by omega);have hsb:=B3 m;refine J.qp (U6 p N) [1] λ_=>?_;refine J.qd (λ_ h3=>?_) λ_ h3=>?_
 ·refine J.qr [1] λ_=>?_;have:N.off=true:=by simpa using h3
  rw[R.read,if_neg hc,if_pos this];exact⟨rfl,rfl⟩
 have hoff:¬N.off=true:=by simpa using h3
 obtain⟨k,rfl⟩:=Int.eq_ofNat_of_zero_le hd.1;have hlen:=I4 N b r m;have hdat:=M6 hN b r m;have hkn:k<(G.slots m).toNat:=by omega
 refine J.qc (a9y p N hN hR b r m) [1] λ_=>?_;rintro v As ⟨a1,c1,a2,c2,rfl,rfl⟩;refine⟨_,rfl,trivial,?_⟩;refine J.know (λh' s=>f8 (c:=(a1,c1)) (by omega) (s.get (i:=4) rfl)) λhg=>?_;obtain⟨g1,rfl⟩:=hg;refine J.know (λh' s=>f8 (c:=(a2,c2)) (by omega) (s.get (i:=5) rfl)) λhg=>?_;obtain⟨g2,rfl⟩:=hg;have hgd:(R.look N b r m).good[k]? =some ((R.look N b r m).good.getD k false):=by rw[List.getD_eq_getElem?_getD,List.getElem?_eq_getElem (by omega),Option.getD_some]
 have hsd:(R.look N b r m).slots[k]? =some ((R.look N b r m).slots.getD k Sh.zero):=by rw[List.getD_eq_getElem?_getD,List.getElem?_eq_getElem (by omega),Option.getD_some]
 have hr:R.read N b r k m=if(R.look N b r m).good.getD k false then(((R.look N b r m).slots.getD k Sh.zero).en,0)else if R.mendB (R.look N b r m) k then(R.mend (R.look N b r m) k,0)else(En.zero,10):=by
  rw[R.read,if_neg hc,if_neg hoff,Int.toNat_natCast]
 refine J.q λ_=>?_;refine J.v (.bool ((R.look N b r m).good.getD k false)) rfl rfl (λhg a w he hw=>?_) ?_
 ·exact i5 tk rfl rfl he rfl rfl rfl (hw.get (i:=5) rfl) (by rw[show 0+(k:Int).toNat*1=k from by omega];exact Q0 hgd)
 refine J.qd (λ_ h4=>?_) λ_ h4=>?_
 ·refine J.q λ_=>?_;refine J.v (shV ((R.look N b r m).slots.getD k Sh.zero)) rfl rfl (λhg a w he hw=>?_) ?_
  ·exact j6 tk rfl rfl he rfl rfl rfl (hw.get (i:=4) rfl) (by rw[show 0+(k:Int).toNat*23=k*23 from by omega];exact P8 hsd) rfl
  refine J.qp (a3V ((R.look N b r m).slots.getD k Sh.zero)) [] λ_=>?_;refine J.qr [1] λ_=>?_;rw[hr,if_pos h4];exact⟨rfl,rfl⟩
 refine J.qp (a4S (R.look N b r m) (G.slots m).toNat (by omega) hlen.1 hlen.2 hdat.1 hdat.2 (some g1) (some g2) c1 c2 k) [4,5] λ_=>?_;refine J.qd (λ_ h5=>?_) λ_ h5=>?_
 ·refine J.qr [1] λ_=>?_;rw[hr,if_neg (by rw[h4];exact Bool.false_ne_true),if_pos h5];exact⟨rfl,rfl⟩
 ·refine J.qr [1] λ_=>?_;rw[hr,if_neg (by rw[h4];exact Bool.false_ne_true),if_neg (by rw[h5];exact Bool.false_ne_true)];exact⟨rfl,rfl⟩
def fnL (x:Fnd):List Value:=[iI x.en.lpn,iI x.en.seq,iI x.en.role,byC x.en.data 0,byC x.en.data 1,byC x.en.data 2,byC x.en.data 3,byC x.en.data 4,byC x.en.data 5,byC x.en.data 6,byC x.en.data 7,byC x.en.data 8,byC x.en.data 9,byC x.en.data 10,byC x.en.data 11,byC x.en.data 12,byC x.en.data 13,byC x.en.data 14,byC x.en.data 15,
 iI x.block,iI x.row,iI x.slot,iI x.mask, .bool x.whole, .bool x.mended]
def i3 (l:List Fnd):List Value:=l.flatMap fnL
theorem a4k (x:Fnd):(fnL x).length=25:=rfl
theorem w5 (l:List Fnd):(i3 l).length=l.length*25:=by
 induction l with
 | nil=>rfl
 | cons x l ih=>simp only[i3,List.flatMap_cons,List.length_append,List.length_cons]at ih ⊢;rw[ih,a4k];omega
theorem T8 (l:List Fnd) (x:Fnd):i3 (l++[x])=i3 l++fnL x:=by simp[i3]
theorem J4:∀{l:List Fnd} {k:Nat} {x:Fnd},l[k]? =some x->((i3 l).drop (k*25)).take 25=fnL x
 | [],_,_,h=>by simp at h
 | y::l,0,x,h=>by
  simp at h;subst h;rw[Nat.zero_mul,List.drop_zero];exact List.take_left' (a4k y)
 | y::l,k+1,x,h=>by
  have:=J4 (l:=l) (k:=k) (x:=x) (by simpa using h);rw[show(k+1)*25=25+k*25 from by omega,<- List.drop_drop];simp only[i3,List.flatMap_cons];rw[List.drop_left' (a4k y)];exact this
theorem a4r (x:Int):∀l:List Int,(m6 x l).length<=l.length
 | []=>Nat.le_refl _
 | y::l=>by
  unfold m6;split
  ·have h:=a4r y l;exact Nat.le_trans h (by simp)
  ·have h:=a4r y l;simpa using h
theorem a5F:∀l:List Int,(j9 l).length<=l.length
 | []=>Nat.le_refl _
 | x::l=>by have h:=a4r x l;simpa[j9]using h
theorem a3f (N:Nand) (b r:Int):(M.masks N b r).length<=N.dies:=by
 unfold M.masks;refine Nat.le_trans (a5F _) ?_;rw[I6];refine Nat.le_trans (List.length_filterMap_le _ _) ?_;simp[M.rowN]
def X4 (N:Nand) (b r:Int) (i:Nat):List Fnd:=((M.masks N b r).take i).flatMap (R.allM N b r)
def L5 (N:Nand) (b r mk:Int) (i j:Nat):List Fnd:=X4 N b r i++(List.range j).filterMap (R.fnd (R.look N b r mk) b r mk)
theorem b1o (N:Nand) (b r m:Int):(R.allM N b r m).length<=7:=by
 unfold R.allM;refine Nat.le_trans (List.length_filterMap_le _ _) ?_;rw[List.length_range,(I4 N b r m).1];have:=B3 m;omega
theorem a1I (N:Nand) (b r:Int) (i:Nat) (h:N.dies<=6):(X4 N b r i).length<=42:=by
 have h1:∀l:List Int,(l.flatMap (R.allM N b r)).length<=7*l.length:=by
  intro l
  induction l with
  | nil=>simp
  | cons x l ih=>rw[List.flatMap_cons,List.length_append,List.length_cons];have:=b1o N b r x;omega
 have h2:=h1 ((M.masks N b r).take i);have h3:=a3f N b r;have h4:((M.masks N b r).take i).length<=6:=by rw[List.length_take];omega
 unfold X4;omega
theorem a9Q (N:Nand) (b r mk:Int) (i j:Nat) (h:N.dies<=6) (hj:j<=7):(L5 N b r mk i j).length<=49:=by
 have h1:=a1I N b r i h;have h2:=List.length_filterMap_le (R.fnd (R.look N b r mk) b r mk) (List.range j);rw[List.length_range]at h2;unfold L5;rw[List.length_append];omega
theorem a7P (N:Nand) (b r mk:Int) (i:Nat):L5 N b r mk i 0=X4 N b r i:=by simp[L5]
theorem a7Q (N:Nand) (b r mk:Int) (i j:Nat):L5 N b r mk i (j+1)=L5 N b r mk i j++(R.fnd (R.look N b r mk) b r mk j).toList:=by
 unfold L5;rw[List.range_succ,List.filterMap_append,List.append_assoc];congr 2
theorem a9R (N:Nand) (b r mk:Int) (i:Nat) (h:(M.masks N b r)[i]? =some mk):L5 N b r mk i (G.slots mk).toNat=X4 N b r (i+1):=by
 unfold L5 X4;rw[List.take_add_one,h,Option.toList_some,List.flatMap_append];congr 1;rw[List.flatMap_cons,List.flatMap_nil,List.append_nil,R.allM,(I4 N b r mk).1]
theorem b3i (p:Nat) (N:Nand) (hN:N.Ok) (hR:N.Room) (b r:Int):FP 112 [pp p,iI b,iI r] [d8 p N]
  (λv As=>∃a c,v=slv a (R.all N b r).length c/\As=[d8 p N,c8 190 25 a (R.all N b r).length c (i3 (R.all N b r))]):=by
 have hbd:=hN.bd;have hml:=a3f N b r;refine FE [2,0,0] Tryz.func112 λX F hX=>?_;refine J.qc (a7b p N hN hR b r) [1] λ_=>?_;rintro v As ⟨am,cm,rfl,rfl⟩;refine⟨_,rfl,trivial,?_⟩;refine J.turn1 [] rfl (As:=[c8 190 25 none 0 0 (i3 (X4 N b r 0))]) (λh s=>Sep.one ⟨rfl,rfl,rfl⟩) rfl ?_;refine J.q λ_=>?_;refine J.l (α:=(Nat×Option Nat×Nat)) (λz=>z.1<=(M.masks N b r).length) (λz=>[si 20 z.1,⟨19,iI (M.masks N b r).length,0, .tt⟩,sv 18 (slv am (M.masks N b r).length cm),sv 7 (slv z.2.1 (X4 N b r z.1).length z.2.2),⟨0,pp p,2, .tt⟩,si 1 b,si 2 r]) [3] (λz=>[c8 190 25 z.2.1 (X4 N b r z.1).length z.2.2 (i3 (X4 N b r z.1))]) (λz=>(M.masks N b r).length-z.1) ((0,none,0)) (Nat.zero_le _) λz hI=>?_;obtain⟨i,ao,co⟩:=z;dsimp only at hI ⊢;refine J.qd (λ_ h1=>?_) λ_ h1=>?_
 ·simp only[decide_eq_true_eq,Int.ofNat_lt]at h1;refine J.know (λh' s=>f8 (c:=(am,cm)) (by omega) (s.get (i:=2) rfl)) λhg=>?_;obtain⟨gm,rfl⟩:=hg;obtain⟨mk,hmk⟩:∃mk,(M.masks N b r)[i]? =some mk:=⟨_,List.getElem?_eq_getElem h1⟩;refine J.q λ_=>?_;refine J.v (iI mk) rfl rfl (λhg a w he hw=>?_) ?_
  ·exact i5 tk rfl rfl he rfl rfl rfl (hw.get (i:=2) rfl) (by rw[show 0+(i:Int).toNat*1=i from by omega];exact a2g hmk)
  have hsb:=B3 mk;have hlen:=I4 N b r mk;have hdat:=M6 hN b r mk;refine J.q λb7=>?_;refine J.cb (a9y p N hN hR b r mk) [1] ?_;rintro v As ⟨a1,c1,a2,c2,rfl,rfl⟩;refine⟨_,rfl,trivial,?_⟩;have hfnd:∀j,R.fnd (R.look N b r mk) b r mk j=if R.okAt (R.look N b r mk) j&&(R.enAt (R.look N b r mk) j).role !=3 then some ⟨R.enAt (R.look N b r mk) j,b,r,j,mk,(R.look N b r mk).whole,!((R.look N b r mk).good.getD j false)⟩else none:=λj=>rfl
  have hout:=a7Q N b r mk i;have hz:=a7P N b r mk i;have hall:=a9R N b r mk i hmk;have hol:∀j,j<=7->(L5 N b r mk i j).length<=49:=λj hj=>a9Q N b r mk i j (by omega) hj;have hnb:(G.slots mk).toNat<=7:=by omega
  rw[<- hz];generalize hf:R.look N b r mk=f at hlen hdat hfnd hout;generalize hn:(G.slots mk).toNat=n at hlen hall hnb;refine J.q λbbf=>?_;refine J.l (α:=(Nat×Option Nat×Nat)) (λz=>z.1<=n) (λz=>[si 32 z.1,si 31 n,sv 30 (slv a1 n c1),⟨10,pp (bbf 0),7, .tt⟩,si 9 mk,si 20 i,⟨19,iI (M.masks N b r).length,0, .tt⟩,sv 18 (slv (some gm) (M.masks N b r).length cm),sv 7 (slv z.2.1 (L5 N b r mk i z.1).length z.2.2),⟨0,pp p,2, .tt⟩,si 1 b,si 2 r]) [3] (λz=>[c8 190 25 z.2.1 (L5 N b r mk i z.1).length z.2.2 (i3 (L5 N b r mk i z.1))]) (λz=>n-z.1) ((0,ao,co)) (Nat.zero_le _) λz hI=>?_;obtain⟨j,ao,co⟩:=z;dsimp only at hI ⊢;refine J.qd (λ_ h2=>?_) λ_ h2=>?_
  ·simp only[decide_eq_true_eq,Int.ofNat_lt]at h2;refine J.know (λh' s=>f8 (c:=(a1,c1)) (by omega) (s.get (i:=4) rfl)) λhg=>?_;obtain⟨g1,rfl⟩:=hg;refine J.know (λh' s=>f8 (c:=(a2,c2)) (by omega) (s.get (i:=5) rfl)) λhg=>?_;obtain⟨g2,rfl⟩:=hg;obtain⟨s,hs⟩:∃s,f.slots[j]? =some s:=⟨_,List.getElem?_eq_getElem (by omega)⟩;obtain⟨gk,hgd⟩:∃g,f.good[j]? =some g:=⟨_,List.getElem?_eq_getElem (by omega)⟩;have hgk:f.good.getD j false=gk:=by rw[List.getD_eq_getElem?_getD,hgd,Option.getD_some]
   have hsk:f.slots.getD j Sh.zero=s:=by rw[List.getD_eq_getElem?_getD,hs,Option.getD_some]
   refine J.q λ_=>?_;refine J.v (shV s) rfl rfl (λhg a w he hw=>?_) ?_
   ·exact j6 tk rfl rfl he rfl rfl rfl (hw.get (i:=4) rfl) (by rw[show 0+(j:Int).toNat*23=j*23 from by omega];exact P8 hs) rfl
   obtain⟨bb,hbb⟩:∃x,bbf 0=x:=⟨_,rfl⟩;rw[hbb];refine J.p (.take false 0 (.take true 2 (.take false 3 (.take true 4 (.take true 5 (.take false 6 (.alt false 1 ((.of [30,34,36])) (.alt false 7 ((.of [6,34,36])) .non)))))))) [9] [5,6,7] λ_=>?_;refine J.join (α:=Nat) (λx=>[sv 14 (.bool gk),⟨13,pp x,8, .tt⟩,si 11 j,si 32 j,si 31 n,sv 30 (slv (some g1) n c1),⟨10,pp bb,7, .tt⟩,si 9 mk,si 20 i,⟨19,iI (M.masks N b r).length,0, .tt⟩,sv 18 (slv (some gm) (M.masks N b r).length cm),sv 7 (slv ao (L5 N b r mk i j).length co),⟨0,pp p,2, .tt⟩,si 1 b,si 2 r]) (λx=>[.hp F,d8 p N,c8 3 1 (some gm) (M.masks N b r).length cm (d6 (M.masks N b r)),c8 190 25 ao (L5 N b r mk i j).length co (i3 (L5 N b r mk i j)),c8 219 23 (some g1) n c1 (j3 f.slots),c8 4 1 (some g2) n c2 (A7 f.good), .pt bb 221 (fdL (some g1) c1 (some g2) c2 n f.parity f.whole), .pt x 135 (enL s.en)]) (λhj=>?_) (λx=>?_)
   ·skip
    refine J.qn 5 λ_=>?_;refine J.vT (.bool gk) rfl rfl (λ_ a w he hC=>i5 tk rfl rfl he rfl rfl rfl (hC rfl _ (f0 (i:=5) rfl)) (by rw[show 0+(j:Int).toNat*1=j from by omega];exact Q0 hgd)) ?_;refine J.alts ?_ ?_
    ·skip
     refine J.qp (a3V s) [] λ_=>?_;refine J.qn 1 λb7=>?_;refine J.qn 3 λ_=>?_;exact J.goto [0,1,2,3,4,5,6,8] (hj (b7 0)) ⟨rfl,rfl,rfl,rfl,rfl,rfl,rfl,rfl,rfl,rfl,rfl,rfl,rfl,rfl,rfl,trivial⟩ rfl rfl
    ·skip
     refine J.qn 1 λb7=>?_;refine J.qp (a3V s) [] λ_=>?_;refine J.qn 3 λ_=>?_;exact J.goto [0,1,2,3,4,5,6,8] (hj (b7 0)) ⟨rfl,rfl,rfl,rfl,rfl,rfl,rfl,rfl,rfl,rfl,rfl,rfl,rfl,rfl,rfl,trivial⟩ rfl rfl
   refine J.q λ_=>?_;refine J.join (α:=Unit) (λ_=>[sv 14 (.bool (R.okAt f j)),⟨13,pp x,8, .tt⟩,si 11 j,si 32 j,si 31 n,sv 30 (slv (some g1) n c1),⟨10,pp bb,7, .tt⟩,si 9 mk,si 20 i,⟨19,iI (M.masks N b r).length,0, .tt⟩,sv 18 (slv (some gm) (M.masks N b r).length cm),sv 7 (slv ao (L5 N b r mk i j).length co),⟨0,pp p,2, .tt⟩,si 1 b,si 2 r]) (λ_=>[.hp F,d8 p N,c8 3 1 (some gm) (M.masks N b r).length cm (d6 (M.masks N b r)),c8 190 25 ao (L5 N b r mk i j).length co (i3 (L5 N b r mk i j)),c8 219 23 (some g1) n c1 (j3 f.slots),c8 4 1 (some g2) n c2 (A7 f.good), .pt bb 221 (fdL (some g1) c1 (some g2) c2 n f.parity f.whole), .pt x 135 (enL (R.enAt f j))]) (λhj=>?_) (λ_=>?_)
   ·refine J.qd (λ_ h3=>?_) λ_ h3=>?_
    ·simp only[Bool.not_eq_true']at h3;subst h3;refine J.qp (a4S f n (by omega) hlen.1 hlen.2 hdat.1 hdat.2 (some g1) (some g2) c1 c2 j) [4,5] λ_=>?_;rw[show R.okAt f j=R.mendB f j from by rw[R.okAt,hgk];rfl,show R.enAt f j=R.mend f j from by rw[R.enAt,hgk];rfl]at hj;refine J.qn 6 λ_=>?_;exact J.goto [0,1,2,3,4,5,6,7] (hj ()) ⟨rfl,rfl,rfl,rfl,rfl,rfl,rfl,rfl,rfl,rfl,rfl,rfl,rfl,rfl,rfl,trivial⟩ rfl rfl
    ·simp only[Bool.not_eq_false']at h3;subst h3;rw[show R.okAt f j=true from by rw[R.okAt,hgk];rfl,show R.enAt f j=s.en from by rw[R.enAt,hgk,if_pos rfl,hsk]]at hj;refine J.qn 1 λ_=>?_;exact J.goto [0,1,2,3,4,5,6,7] (hj ()) ⟨rfl,rfl,rfl,rfl,rfl,rfl,rfl,rfl,rfl,rfl,rfl,rfl,rfl,rfl,rfl,trivial⟩ rfl rfl
   have hf1:=hfnd j;have ho1:=hout j;have hol1:=hol j (by omega);generalize R.okAt f j=ok at hf1;generalize R.enAt f j=e at hf1;refine J.qd (λ_ h4=>?_) λ_ h4=>?_
   ·rw[if_pos h4,hgk]at hf1;rw[hf1,Option.toList_some]at ho1;have hsl:(L5 N b r mk i j).length+1=(L5 N b r mk i (j+1)).length:=by rw[ho1,List.length_append];rfl
    refine J.pn 14 (.of [0,5,8,12,16,20,24,28,33,36,41,44,48,53,56,60,66,70,72]) [18] [5,6,7] λ_ _=>?_;refine J.vT (.bool gk) rfl rfl (λ_ a w he hC=>i5 tk rfl rfl he rfl rfl rfl (hC rfl _ (f0 (i:=5) rfl)) (by rw[show 0+(j:Int).toNat*1=j from by omega];exact Q0 hgd)) ?_;refine J.q λ_=>?_;refine J.ap 3 8 0 ((T8 _ _).symm.trans (congrArg i3 ho1.symm)) λa4 c4=>?_;rw[hsl];refine J.q λ_=>?_;rw[<- hbb];refine J.q λ_=>?_;refine J.n ((j+1,a4,c4)) (by dsimp only;omega) (by dsimp only;omega) [0,1,2,3,4,5,6]
   ·rw[if_neg (by rw[h4];exact Bool.false_ne_true)]at hf1;rw[hf1,Option.toList_none,List.append_nil]at ho1;rw[<- ho1];refine J.q λ_=>?_;rw[<- hbb];refine J.q λ_=>?_;refine J.n ((j+1,ao,co)) (by dsimp only;omega) (by dsimp only;omega) [0,1,2,3,4,5,6]
  ·simp only[decide_eq_false_iff_not,Int.ofNat_lt]at h2;obtain rfl:j=n:=by omega
   rw[hall];refine J.q λ_=>?_;refine J.n ((i+1,ao,co)) (by dsimp only;omega) (by dsimp only;omega) [0,1,2,3]
 ·simp only[decide_eq_false_iff_not,Int.ofNat_lt]at h1;obtain rfl:i=(M.masks N b r).length:=by omega
  have:X4 N b r (M.masks N b r).length=R.all N b r:=by unfold X4 R.all;rw[List.take_length]
  rw[this];refine J.qr [1,3] λ_=>?_;exact⟨ao,co,rfl,rfl⟩
theorem b0N (b r:Int) {mm:Nat}:∀(q:List (Int×Sh)) (N:Nand) (f:Int) (k:Nat),(∀x∈q,x.2.data.length=16)->N.Gd (q.length+k) mm->(R.go b r q N f).1.Gd k mm
 | [],N,f,k,_,h=>by rw[R.go];exact h.less (by simp) (Nat.le_refl _)
 | (d,s)::q,N,f,k,hd,h=>by
  have h1:(N.progN d b r (H6 s)).Gd (q.length+k) mm:=Nand.Gd.prog (h.less (by rw[List.length_cons];omega) (Nat.le_refl _)) d b r _ (R5 s (hd (d,s) (by simp)));have hd':∀x∈q,x.2.data.length=16:=λx hx=>hd x (by simp[hx]);rw[R.go];split
  ·exact b0N b r q _ _ k hd' h1
  ·split
   ·exact h1.less (by omega) (Nat.le_refl _)
   ·exact b0N b r q _ _ k hd' h1
theorem b0u {b r m:Int} {l:List En} (hd:∀s∈l,s.data.length=16):∀x∈R.job b r m l,x.2.data.length=16:=by
 intro x hx;simp only[R.job,List.mem_append,List.mem_map,List.mem_range,List.mem_singleton]at hx;rcases hx with⟨k,hk,rfl⟩ | rfl
 ·refine hd _ ?_;rw[List.getD_eq_getElem?_getD,List.getElem?_eq_getElem hk];exact List.getElem_mem _
 ·exact T3 (λt ht=>by obtain⟨e,he,rfl⟩:=List.mem_map.1 ht;exact hd e he) _ rfl
theorem a9J {b r m:Int} {l:List En} (h:W.parB b r m l=true):(l.length:Int)=G.slots m/\1<=l.length/\l.length<=7/\∀e∈l,W.ok b r m e=true:=by
 simp only[W.parB,Bool.and_eq_true,decide_eq_true_eq,List.all_eq_true]at h;have:=B3 m;refine⟨h.1.1,?_,by omega,h.2⟩;cases l with
 | nil=>simp at h
 | cons x l=>simp
theorem W6 {N:Nand} {b r m:Int} {l:List En} {k mm:Nat} (hd:∀s∈l,s.data.length=16) (h:N.Gd (8+k) mm):(R.write N b r m l).1.Gd k mm:=by
 unfold R.write;split
 ·rename_i hB;have:=a9J hB;exact b0N b r _ _ _ k (b0u hd) (h.less (by rw[a4f];omega) (Nat.le_refl _))
 ·exact h.less (by omega) (Nat.le_refl _)
theorem a4i (b r:Int):∀(q:List (Int×Sh)) (N:Nand) (f:Int),N.Like (R.go b r q N f).1
 | [],N,f=>by rw[R.go];exact Nand.Like.refl N
 | (d,s)::q,N,f=>by
  rw[R.go];split
  ·exact(Nand.like_prog _ _ _ _ _).trans (a4i b r q _ _)
  ·split
   ·exact Nand.like_prog _ _ _ _ _
   ·exact(Nand.like_prog _ _ _ _ _).trans (a4i b r q _ _)
theorem a5P (N:Nand) (b r m:Int) (l:List En):N.Like (R.write N b r m l).1:=by
 unfold R.write;split
 ·exact a4i b r _ _ _
 ·exact Nand.Like.refl N
end Go.Proofs.YtpohajhbfllbbaaGreat
