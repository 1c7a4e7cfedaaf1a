/- Helpers, proved here. No condition. -/
import Derived.Test.YtkdlnfdjjifedaaGreatD06
import Derived.Test.YtkdlnfdjjifedaaGreatD08
import Derived.Test.YtkdlnfdjjifedaaGreatD09
import Derived.Test.YtkdlnfdjjifedaaGreatD13
import Derived.Test.YtkdlnfdjjifedaaGreatD14
set_option maxRecDepth 20000
set_option linter.all false
namespace Go.Proofs.YtkdlnfdjjifedaaGreat
open Go Go.RowKit
def pkSome (kind:Int->Bool) (open_:Int) (k:Nat):List Int:=((List.range k).filter λi:Nat=>((i:Int) !=open_)&&kind i).map λi:Nat=>(i:Int)
theorem pkSome_succ (kind:Int->Bool) (o:Int) (k:Nat):pkSome kind o (k+1)=if(((k:Int) !=o)&&kind k)=true then pkSome kind o k++[(k:Int)]else pkSome kind o k:=by
 unfold pkSome;rw[List.range_succ,List.filter_append,List.map_append];cases h:(((k:Int) !=o)&&kind k)<;>simp[List.filter_cons,h]
theorem pkSome_len (kind:Int->Bool) (o:Int) (k:Nat):(pkSome kind o k).length<=k:=by
 unfold pkSome;rw[List.length_map];exact Nat.le_trans (List.length_filter_le _ _) (by rw[List.length_range];exact Nat.le_refl _)
theorem p_some (q:Nat) (t:Tl) (hb:t.b<=1000) (o:Int) (c:Nat) (cs:List Value) (kind:Int->Bool) (A:Atom) (hcal:callable Tryz.prog c=true) (hf:∀x,Fn Tryz.prog c (.int .i64 x::cs) [TlA q t,A] (λv As=>v= .bool (kind x)/\As=[TlA q t,A])):Fn Tryz.prog 177 [.pointer (some ⟨q,0,none⟩), .int .i64 o,fnC c cs] [TlA q t,A]
  (λv As=>∃a cc,v=slv a (pkSome kind o t.b).length cc/\As=[TlA q t,A,ownA 3 1 a (pkSome kind o t.b).length cc (cellsI (pkSome kind o t.b))]):=by
 refine Fn.enter [2,0,0] Tryz.func177 rfl rfl rfl λX F hX=>?_;refine J.q hX λ_=>?_;refine J.cb hX (tl_Geo q t) [1] ?_;refine cpq ⟨_,rfl,trivial,?_⟩;refine J.turn1 [] rfl (As:=[ownA 3 1 none 0 0 (cellsI [])]) (λh s=>Sep.one ⟨rfl,rfl,rfl⟩) rfl ?_;refine J.q hX λ_=>?_;refine J.lo (α:=(Nat×Option Nat×Nat)) (λz=>z.1<=t.b) (λz=>[⟨12, .int .i64 z.1,0, .tt⟩,⟨11, .int .i64 t.b,0, .tt⟩,⟨7,slv z.2.1 (pkSome kind o z.1).length z.2.2,0, .tt⟩,⟨1, .int .i64 o,0, .tt⟩,⟨2,fnC c cs,0, .tt⟩]) [3] (λz=>[ownA 3 1 z.2.1 (pkSome kind o z.1).length z.2.2 (cellsI (pkSome kind o z.1))]) (λz=>t.b-z.1) ((0,none,0)) (Nat.zero_le _) rfl ?_ (λ_=>rfl) λz hI=>?_
 ·rfl
 obtain⟨k,a1,c1⟩:=z;dsimp only at hI ⊢;refine J.q hX λ_=>?_;refine J.cond rfl (λh2=>?_) (λh2=>?_)
 ·simp only[decide_eq_true_eq,Int.ofNat_lt]at h2;have hkl:=pkSome_len kind o k;refine J.q hX λ_=>?_;cases ho:((k:Int) !=o)with
  | false=>
   refine J.val hX (.bool false) 0 rfl rfl (λhg a w he hs=>absurd hg (by simp[G.on])) rfl trivial ?_;refine J.q hX λ_=>?_;refine J.cF ?_;have hs:pkSome kind o (k+1)=pkSome kind o k:=by rw[pkSome_succ,if_neg (by rw[ho];simp)]
   rw[<- hs];refine J.q hX λ_=>?_;refine J.nS ((k+1,a1,c1)) (by dsimp only;omega) (by dsimp only;omega) [0,1,2,3] rfl rfl
  | true=>
   refine J.call hX hcal (hf (k:Int)) [1,2] 0 rfl rfl rfl rfl (by(repeat' (first | exact Conj.nil | refine Conj.cons ?_ ?_ | omega | exact hq0 | (simpa using hq0) | (exactλh=>h) | exact rfl | (intro hq;have hq0:=hq;try simp only[Bool.and_eq_true,Bool.or_eq_true,decide_eq_true_eq,Bool.not_eq_true',decide_eq_false_iff_not]at hq) | (simp;done) | (simp;omega) | decide))) rfl rfl (λ_=>rfl) ?_;refine cpq ⟨_,rfl,trivial,?_⟩;refine J.q hX λ_=>?_;refine J.cond rfl (λh3=>?_) (λh3=>?_)
   ·have hs:pkSome kind o (k+1)=pkSome kind o k++[(k:Int)]:=by rw[pkSome_succ,if_pos (by rw[ho];exact h3)]
    refine J.q hX λ_=>?_;refine J.append hX tk 3 4 0 rfl rfl rfl rfl rfl rfl rfl rfl rfl rfl rfl rfl rfl rfl rfl rfl ?_ ?_ (λ_=>rfl) λa3 c3=>⟨_,(congrArg (λz=>lset _ 3 (ownA _ _ _ _ _ z)) (cellsI_snoc _ (k:Int)).symm).trans rfl,trivial,?_⟩
    ·simp only[maxLen];omega
    ·omega
    rw[<- hs,show(pkSome kind o k).length+1=(pkSome kind o (k+1)).length from by rw[hs];simp];refine J.q hX λ_=>?_;refine J.nS ((k+1,a3,c3)) (by dsimp only;omega) (by dsimp only;omega) [0,1,2,3] rfl rfl
   ·have hs:pkSome kind o (k+1)=pkSome kind o k:=by rw[pkSome_succ,if_neg (by rw[ho,h3];simp)]
    rw[<- hs];refine J.q hX λ_=>?_;refine J.nS ((k+1,a1,c1)) (by dsimp only;omega) (by dsimp only;omega) [0,1,2,3] rfl rfl
 ·simp only[decide_eq_false_iff_not,Int.ofNat_lt]at h2;obtain rfl:k=t.b:=by omega
  refine J.q hX λ_=>?_;refine J.ru hX [1,2,3] ?_;exact⟨a1,c1,rfl,rfl⟩
def pkMin (f:Int->Int->Int):List Int->Int->Int
 | [],m=>m
 | x::l,m=>pkMin f l (if f x m<0 then x else m)
theorem x_Min (c:Nat) (cs:List Value) (f:Int->Int->Int) (A:Atom) (hcal:callable Tryz.prog c=true) (hf:∀x y,Fn Tryz.prog c (.int .i64 x:: .int .i64 y::cs) [A] (λv As=>v= .int .i64 (f x y)/\As=[A]))
  (a:Option Nat) (cap:Nat) (x:Int) (l:List Int) (hn:l.length<1000000):Fn Tryz.prog 236 [slv a (x::l).length cap,fnC c cs] [ownA 3 1 a (x::l).length cap (cellsI (x::l)),A]
  (λv As=>v= .int .i64 (pkMin f l x)/\As=[ownA 3 1 a (x::l).length cap (cellsI (x::l)),A]):=by
 refine Fn.enter [0,0] Tryz.func236 rfl rfl rfl λX F hX=>?_;cases a with
 | none=>
  refine J.know (λh' s=>(s.get (i:=1) rfl).2.1) λhn0=>?_;simp at hn0
 | some g=>
  refine J.q hX λ_=>?_;refine J.cond rfl (λh0=>?_) (λh0=>?_)
  ·simp only[decide_eq_true_eq,List.length_cons]at h0;omega
  refine J.q hX λ_=>?_;refine J.val hX (.int .i64 x) 0 rfl rfl (λhg a w he hs=>?_) rfl trivial ?_
  ·exact own1_run tk rfl rfl he rfl rfl rfl (hs.get (i:=1) rfl) rfl
  refine J.q hX λ_=>?_;refine J.lo (α:=(Nat×Int)) (λz=>z.1<=l.length/\pkMin f (l.drop z.1) z.2=pkMin f l x) (λz=>[⟨6, .int .i64 ((z.1+1:Nat):Int),0, .tt⟩,⟨5, .int .i64 z.2,0, .tt⟩,⟨0,slv (some g) (x::l).length cap,0, .tt⟩,⟨1,fnC c cs,0, .tt⟩]) [] (λz=>[]) (λz=>l.length-z.1) ((0,x)) (⟨Nat.zero_le _,rfl⟩) rfl ?_ (λ_=>rfl) λz hI=>?_
  ·rfl
  obtain⟨j,m⟩:=z;dsimp only at hI ⊢;refine J.q hX λ_=>?_;refine J.cond rfl (λh1=>?_) (λh1=>?_)
  ·simp only[decide_eq_true_eq,Int.ofNat_lt,List.length_cons]at h1;have hj:j<l.length:=by omega
   have hk:(x::l)[j+1]? =some (l.getD j 0):=by rw[List.getElem?_cons_succ,List.getD_eq_getElem?_getD,List.getElem?_eq_getElem hj,Option.getD_some]
   have hget:(cellsI (x::l))[0+((j+1:Nat):Int).toNat*1]? =some (.int .i64 (l.getD j 0)):=by
    rw[show 0+((j+1:Nat):Int).toNat*1=j+1 from by omega,cellsI,List.getElem?_map,hk];rfl
   have hstep:pkMin f (l.drop (j+1)) (if f (l.getD j 0) m<0 then l.getD j 0 else m)=pkMin f l x:=by
    rw[<- hI.2,List.drop_eq_getElem_cons hj,pkMin];have:l.getD j 0=l[j]:=by rw[List.getD_eq_getElem?_getD,List.getElem?_eq_getElem hj,Option.getD_some]
    rw[this]
   refine J.q hX λ_=>?_;refine J.val hX (.int .i64 (l.getD j 0)) 0 rfl rfl (λhg a w he hs=>?_) rfl trivial ?_
   ·exact own1_run tk rfl rfl he rfl rfl rfl (hs.get (i:=1) rfl) hget
   refine J.q hX λ_=>?_;refine J.call hX hcal (hf (l.getD j 0) m) [2] 0 rfl rfl rfl rfl (by(repeat' (first | exact Conj.nil | refine Conj.cons ?_ ?_ | omega | exact hq0 | (simpa using hq0) | (exactλh=>h) | exact rfl | (intro hq;have hq0:=hq;try simp only[Bool.and_eq_true,Bool.or_eq_true,decide_eq_true_eq,Bool.not_eq_true',decide_eq_false_iff_not]at hq) | (simp;done) | (simp;omega) | decide))) rfl rfl (λ_=>rfl) ?_;refine cpq ⟨_,rfl,trivial,?_⟩;refine J.q hX λ_=>?_;refine J.cond rfl (λh2=>?_) (λh2=>?_)
   ·simp only[decide_eq_true_eq]at h2;refine J.q hX λ_=>?_;refine J.val hX (.int .i64 (l.getD j 0)) 0 rfl rfl (λhg a w he hs=>?_) rfl trivial ?_
    ·exact own1_run tk rfl rfl he rfl rfl rfl (hs.get (i:=1) rfl) hget
    rw[if_pos h2]at hstep;refine J.q hX λ_=>?_;refine J.nS ((j+1,l.getD j 0)) (⟨by dsimp only;omega,hstep⟩) (by dsimp only;omega) [0,1,2] rfl rfl
   ·simp only[decide_eq_false_iff_not]at h2;rw[if_neg h2]at hstep;refine J.q hX λ_=>?_;refine J.nS ((j+1,m)) (⟨by dsimp only;omega,hstep⟩) (by dsimp only;omega) [0,1,2] rfl rfl
  ·simp only[decide_eq_false_iff_not,Int.ofNat_lt,List.length_cons]at h1;obtain rfl:j=l.length:=by omega
   have:=hI.2;rw[List.drop_length,pkMin]at this;refine J.q hX λ_=>?_;refine J.ru hX [1,2] ?_;exact⟨by rw[this],rfl⟩
def pkLeast (f:Int->Int->Int) (l:List Int):Int:=match l with
 | []=> -1
 | x::l=>pkMin f l x
theorem p_least (c:Nat) (cs:List Value) (f:Int->Int->Int) (A:Atom) (hcal:callable Tryz.prog c=true) (hf:∀x y,Fn Tryz.prog c (.int .i64 x:: .int .i64 y::cs) [A] (λv As=>v= .int .i64 (f x y)/\As=[A]))
  (a:Option Nat) (cap:Nat) (l:List Int) (hn:l.length<1000000):Fn Tryz.prog 186 [slv a l.length cap,fnC c cs] [ownA 3 1 a l.length cap (cellsI l),A]
  (λv As=>v= .int .i64 (pkLeast f l)/\As=[ownA 3 1 a l.length cap (cellsI l),A]):=by
 refine Fn.enter [0,0] Tryz.func186 rfl rfl rfl λX F hX=>?_;cases l with
 | nil=>
  refine J.q hX λ_=>?_;refine J.cT ?_;refine J.q hX λ_=>?_;exact J.ru hX [1,2] ⟨rfl,rfl⟩
 | cons x l=>
  refine J.q hX λ_=>?_;refine J.cond rfl (λh0=>?_) (λh0=>?_)
  ·simp only[beq_iff_eq,List.length_cons]at h0;omega
  refine J.q hX λ_=>?_;refine J.cb hX (x_Min c cs f A hcal hf a cap x l (by simp at hn;omega)) [1,2] ?_;refine cpq ⟨_,rfl,trivial,?_⟩;refine J.q hX λ_=>?_;exact J.ru hX [1,2] ⟨rfl,rfl⟩
def PkE (bt q bl r:Nat) (T:Tb):Atom:= .hp (HP.of [.pt bt 120 [.pointer (some ⟨q,0,none⟩)], .pt bl 114 [.pointer (some ⟨r,0,none⟩)],TbA r T])
theorem PkE_un {bt q bl r:Nat} {T:Tb} {h:Hl}:Sep [PkE bt q bl r T] h↔Sep [.pt bt 120 [.pointer (some ⟨q,0,none⟩)], .pt bl 114 [.pointer (some ⟨r,0,none⟩)],TbA r T] h:=Sep.hpOf
def pkFree (t:Tl) (T:Tb) (k:Int):Bool:=t.usable k&&t.blank k&&(T.count k==0)
def pkUsed (t:Tl) (T:Tb) (k:Int):Bool:=decide (T.count k>0)&& !t.held k
def pkSpent (t:Tl) (T:Tb) (k:Int):Bool:=t.usable k&& !t.blank k&& !t.held k&&(T.count k==0)
theorem p_free1 (q:Nat) (t:Tl) (hb:t.b<=1000) (hl:t.l.length=t.b) (bt bl r:Nat) (T:Tb) (k:Int):Fn Tryz.prog 235 [.int .i64 k, .pointer (some ⟨bt,0,none⟩), .pointer (some ⟨bl,0,none⟩)] [TlA q t,PkE bt q bl r T]
  (λv As=>v= .bool (pkFree t T k)/\As=[TlA q t,PkE bt q bl r T]):=by
 refine Fn.enter [0,3,4] Tryz.func235 rfl rfl rfl λX F hX=>?_;refine J.turn1 [2] rfl (λh s=>PkE_un.1 s) rfl ?_;refine J.q hX λ_=>?_;refine J.cb hX (tl_Usable q t hb hl k) [1] ?_;refine cpq ⟨_,rfl,trivial,?_⟩;cases h3:t.usable k with
 | false=>
  refine J.q hX λ_=>?_;refine J.val hX (.bool false) 0 rfl rfl (λhg a w he hs=>absurd hg (by simp[G.on])) rfl trivial ?_;refine J.q hX λ_=>?_;refine J.val hX (.int .i64 0) 0 rfl rfl (λhg a w he hs=>absurd hg (by simp[G.on])) rfl trivial ?_;refine J.q hX λ_=>?_;refine J.turn1 [2,3,4] rfl (λh s=>PkE_un.2 s) rfl ?_;refine J.q hX λ_=>?_;refine J.ru hX [1,2] ?_;exact⟨by simp[pkFree,h3],rfl⟩
 | true=>
  refine J.q hX λ_=>?_;refine J.cb hX (tl_Blank q t hb hl k) [1] ?_;refine cpq ⟨_,rfl,trivial,?_⟩;cases h2:t.blank k with
  | false=>
   refine J.q hX λ_=>?_;refine J.val hX (.int .i64 0) 0 rfl rfl (λhg a w he hs=>absurd hg (by simp[G.on])) rfl trivial ?_;refine J.q hX λ_=>?_;refine J.turn1 [2,3,4] rfl (λh s=>PkE_un.2 s) rfl ?_;refine J.q hX λ_=>?_;refine J.ru hX [1,2] ?_;exact⟨by simp[pkFree,h3,h2],rfl⟩
  | true=>
   refine J.q hX λ_=>?_;refine J.cb hX (tb_Count r T k) [4] ?_;refine cpq ⟨_,rfl,trivial,?_⟩;refine J.q hX λ_=>?_;refine J.turn1 [2,3,4] rfl (λh s=>PkE_un.2 s) rfl ?_;refine J.q hX λ_=>?_;refine J.ru hX [1,2] ?_;exact⟨by simp[pkFree,h3,h2],rfl⟩
theorem p_spent1 (q:Nat) (t:Tl) (hb:t.b<=1000) (hl:t.l.length=t.b) (bt bl r:Nat) (T:Tb) (k:Int):Fn Tryz.prog 178 [.int .i64 k, .pointer (some ⟨bt,0,none⟩), .pointer (some ⟨bl,0,none⟩)] [TlA q t,PkE bt q bl r T]
  (λv As=>v= .bool (pkSpent t T k)/\As=[TlA q t,PkE bt q bl r T]):=by
 refine Fn.enter [0,3,4] Tryz.func178 rfl rfl rfl λX F hX=>?_;refine J.turn1 [2] rfl (λh s=>PkE_un.1 s) rfl ?_;refine J.q hX λ_=>?_;refine J.cb hX (tl_Usable q t hb hl k) [1] ?_;refine cpq ⟨_,rfl,trivial,?_⟩;cases h4:t.usable k with
 | false=>
  refine J.q hX λ_=>?_;refine J.val hX (.bool false) 0 rfl rfl (λhg a w he hs=>absurd hg (by simp[G.on])) rfl trivial ?_;refine J.q hX λ_=>?_;refine J.val hX (.bool false) 0 rfl rfl (λhg a w he hs=>absurd hg (by simp[G.on])) rfl trivial ?_;refine J.q hX λ_=>?_;refine J.val hX (.int .i64 0) 0 rfl rfl (λhg a w he hs=>absurd hg (by simp[G.on])) rfl trivial ?_;refine J.q hX λ_=>?_;refine J.turn1 [2,3,4] rfl (λh s=>PkE_un.2 s) rfl ?_;refine J.q hX λ_=>?_;refine J.ru hX [1,2] ?_;exact⟨by simp[pkSpent,h4],rfl⟩
 | true=>
  refine J.q hX λ_=>?_;refine J.cb hX (tl_Blank q t hb hl k) [1] ?_;refine cpq ⟨_,rfl,trivial,?_⟩;cases h3:t.blank k with
  | true=>
   refine J.q hX λ_=>?_;refine J.val hX (.bool false) 0 rfl rfl (λhg a w he hs=>absurd hg (by simp[G.on])) rfl trivial ?_;refine J.q hX λ_=>?_;refine J.val hX (.int .i64 0) 0 rfl rfl (λhg a w he hs=>absurd hg (by simp[G.on])) rfl trivial ?_;refine J.q hX λ_=>?_;refine J.turn1 [2,3,4] rfl (λh s=>PkE_un.2 s) rfl ?_;refine J.q hX λ_=>?_;refine J.ru hX [1,2] ?_;exact⟨by simp[pkSpent,h4,h3],rfl⟩
  | false=>
   refine J.q hX λ_=>?_;refine J.cb hX (tl_Held q t hb hl k) [1] ?_;refine cpq ⟨_,rfl,trivial,?_⟩;cases h2:t.held k with
   | true=>
    refine J.q hX λ_=>?_;refine J.val hX (.int .i64 0) 0 rfl rfl (λhg a w he hs=>absurd hg (by simp[G.on])) rfl trivial ?_;refine J.q hX λ_=>?_;refine J.turn1 [2,3,4] rfl (λh s=>PkE_un.2 s) rfl ?_;refine J.q hX λ_=>?_;refine J.ru hX [1,2] ?_;exact⟨by simp[pkSpent,h4,h3,h2],rfl⟩
   | false=>
    refine J.q hX λ_=>?_;refine J.cb hX (tb_Count r T k) [4] ?_;refine cpq ⟨_,rfl,trivial,?_⟩;refine J.q hX λ_=>?_;refine J.turn1 [2,3,4] rfl (λh s=>PkE_un.2 s) rfl ?_;refine J.q hX λ_=>?_;refine J.ru hX [1,2] ?_;exact⟨by simp[pkSpent,h4,h3,h2],rfl⟩
theorem p_used1 (q:Nat) (t:Tl) (hb:t.b<=1000) (hl:t.l.length=t.b) (bt bl r:Nat) (T:Tb) (k:Int):Fn Tryz.prog 185 [.int .i64 k, .pointer (some ⟨bl,0,none⟩), .pointer (some ⟨bt,0,none⟩)] [TlA q t,PkE bt q bl r T]
  (λv As=>v= .bool (pkUsed t T k)/\As=[TlA q t,PkE bt q bl r T]):=by
 refine Fn.enter [0,4,3] Tryz.func185 rfl rfl rfl λX F hX=>?_;refine J.turn1 [2] rfl (λh s=>PkE_un.1 s) rfl ?_;refine J.q hX λ_=>?_;refine J.cb hX (tb_Count r T k) [4] ?_;refine cpq ⟨_,rfl,trivial,?_⟩;refine J.q hX λ_=>?_;cases hc:decide (T.count k>0)with
 | false=>
  refine J.val hX (.bool false) 0 rfl rfl (λhg a w he hs=>absurd hg (by simp[G.on])) rfl trivial ?_;refine J.q hX λ_=>?_;refine J.turn1 [2,3,4] rfl (λh s=>PkE_un.2 s) rfl ?_;refine J.q hX λ_=>?_;refine J.ru hX [1,2] ?_;exact⟨by simp only[pkUsed,hc];rfl,rfl⟩
 | true=>
  refine J.q hX λ_=>?_;refine J.cb hX (tl_Held q t hb hl k) [1] ?_;refine cpq ⟨_,rfl,trivial,?_⟩;refine J.q hX λ_=>?_;refine J.turn1 [2,3,4] rfl (λh s=>PkE_un.2 s) rfl ?_;refine J.q hX λ_=>?_;refine J.ru hX [1,2] ?_;exact⟨by simp only[pkUsed,hc],rfl⟩
def idxN (p:Int->Bool) (l:List Int):Int:=match l.findIdx? p with
 | some k=>k
 | none=> -1
theorem idxN_step {p:Int->Bool} {l:List Int} {k:Nat} {x:Int} (h:l[k]? =some x) (h0:∀i<k,p (l.getD i 0)=false) (hp:p x=true):l.findIdx? p=some k:=by
 rw[List.findIdx?_eq_some_iff_getElem];obtain⟨h1,h2⟩:=List.getElem?_eq_some_iff.1 h;refine⟨h1,by rw[h2];exact hp,λj hj=>?_⟩;have:=h0 j hj;rw[List.getD_eq_getElem?_getD,List.getElem?_eq_getElem (by omega),Option.getD_some]at this;simp[this]
theorem idxN_none {p:Int->Bool} {l:List Int} (h0:∀i<l.length,p (l.getD i 0)=false):l.findIdx? p=none:=by
 rw[List.findIdx?_eq_none_iff];intro x hx;obtain⟨i,hi,rfl⟩:=List.mem_iff_getElem.1 hx;have:=h0 i hi
 rwa [List.getD_eq_getElem?_getD,List.getElem?_eq_getElem hi,Option.getD_some]at this
theorem idxN_any (p:Int->Bool) (l:List Int):decide (idxN p l>=0)=l.any p:=by
 unfold idxN;cases h:l.findIdx? p with
 | none=>
  rw[List.findIdx?_eq_none_iff]at h;have:l.any p=false:=by rw[List.any_eq_false];exactλx hx=>by simp[h x hx]
  rw[this];rfl
 | some k=>
  rw[List.findIdx?_eq_some_iff_getElem]at h;obtain⟨h1,h2,_⟩:=h;have:l.any p=true:=List.any_eq_true.2 ⟨l[k],List.getElem_mem _,h2⟩;rw[this];simp
theorem x_IndexI (c:Nat) (cs:List Value) (p:Int->Bool) (A:Atom) (hcal:callable Tryz.prog c=true) (l:List Int) (hf:∀x∈l,Fn Tryz.prog c (.int .i64 x::cs) [A] (λv As=>v= .bool (p x)/\As=[A]))
  (a:Option Nat) (n cap:Nat) (hl:l.length=n) (hn:n<=4611686018427387904):Fn Tryz.prog 212 [slv a n cap,fnC c cs] [ownA 3 1 a n cap (cellsI l),A]
  (λv As=>v= .int .i64 (idxN p l)/\As=[ownA 3 1 a n cap (cellsI l),A]):=by
 refine Fn.enter [0,0] Tryz.func212 rfl rfl rfl λX F hX=>?_;refine J.q hX λ_=>?_;refine J.lo (α:=Nat) (λk=>k<=n/\∀i<k,p (l.getD i 0)=false) (λk=>[⟨8, .int .i64 k,0, .tt⟩,⟨7, .int .i64 n,0, .tt⟩,⟨0,slv a n cap,0, .tt⟩,⟨1,fnC c cs,0, .tt⟩]) [] (λk=>[]) (λk=>n-k) (0) (⟨by omega,by omega⟩) rfl ?_ (λ_=>rfl) λk hI=>?_
 ·rfl
 refine J.q hX λ_=>?_;refine J.cond rfl (λh1=>?_) (λh1=>?_)
 ·simp only[decide_eq_true_eq,Int.ofNat_lt]at h1;cases a with
  | none=>
   refine J.know (λh' s=>(s.get (i:=1) rfl).2.1) λhn0=>?_;omega
  | some g=>
   have hk:l[k]? =some (l.getD k 0):=by rw[List.getD_eq_getElem?_getD,List.getElem?_eq_getElem (by omega),Option.getD_some]
   refine J.q hX λ_=>?_;refine J.val hX (.int .i64 (l.getD k 0)) 0 rfl rfl (λhg a w he hs=>?_) rfl trivial ?_
   ·exact own1_run tk rfl rfl he rfl rfl rfl (hs.get (i:=1) rfl) (by rw[show 0+(k:Int).toNat*1=k from by omega,cellsI,List.getElem?_map,hk];rfl)
   refine J.q hX λ_=>?_;refine J.call hX hcal (hf (l.getD k 0) (List.mem_of_getElem? hk)) [2] 0 rfl rfl rfl rfl (by(repeat' (first | exact Conj.nil | refine Conj.cons ?_ ?_ | omega | exact hq0 | (simpa using hq0) | (exactλh=>h) | exact rfl | (intro hq;have hq0:=hq;try simp only[Bool.and_eq_true,Bool.or_eq_true,decide_eq_true_eq,Bool.not_eq_true',decide_eq_false_iff_not]at hq) | (simp;done) | (simp;omega) | decide))) rfl rfl (λ_=>rfl) ?_;refine cpq ⟨_,rfl,trivial,?_⟩;refine J.q hX λ_=>?_;refine J.cond rfl (λh2=>?_) (λh2=>?_)
   ·refine J.q hX λ_=>?_;refine J.ru hX [1,2] ?_;exact⟨by rw[idxN,idxN_step hk hI.2 h2],rfl⟩
   ·refine J.q hX λ_=>?_;refine J.nx (k+1) (⟨by omega,λi hi=>by
     rcases Nat.lt_succ_iff_lt_or_eq.1 hi with h3 | h3
     ·exact hI.2 i h3
     ·rw[h3];exact h2⟩) (by omega) (λ_ s=>s)
 ·simp only[decide_eq_false_iff_not,Int.ofNat_lt]at h1;refine J.q hX λ_=>?_;refine J.ru hX [1,2] ?_;exact⟨by rw[idxN,idxN_none (λi hi=>hI.2 i (by omega))],rfl⟩
theorem x_ContainsI (c:Nat) (cs:List Value) (p:Int->Bool) (A:Atom) (hcal:callable Tryz.prog c=true) (l:List Int) (hf:∀x∈l,Fn Tryz.prog c (.int .i64 x::cs) [A] (λv As=>v= .bool (p x)/\As=[A]))
  (a:Option Nat) (n cap:Nat) (hl:l.length=n) (hn:n<=4611686018427387904):Fn Tryz.prog 160 [slv a n cap,fnC c cs] [ownA 3 1 a n cap (cellsI l),A]
  (λv As=>v= .bool (l.any p)/\As=[ownA 3 1 a n cap (cellsI l),A]):=by
 refine Fn.enter [0,0] Tryz.func160 rfl rfl rfl λX F hX=>?_;refine J.q hX λ_=>?_;refine J.cb hX (x_IndexI c cs p A hcal l hf a n cap hl hn) [1,2] ?_;refine cpq ⟨_,rfl,trivial,?_⟩;refine J.q hX λ_=>?_;refine J.ru hX [1,2] ?_;exact⟨by rw[<- idxN_any],rfl⟩
theorem p_free (q:Nat) (t:Tl) (hb:t.b<=1000) (hl:t.l.length=t.b) (r:Nat) (T:Tb) (o:Int):Fn Tryz.prog 184 [.pointer (some ⟨q,0,none⟩), .pointer (some ⟨r,0,none⟩), .int .i64 o] [TlA q t,TbA r T]
  (λv As=>∃a c,v=slv a (pkSome (pkFree t T) o t.b).length c/\As=[TlA q t,TbA r T,ownA 3 1 a (pkSome (pkFree t T) o t.b).length c (cellsI (pkSome (pkFree t T) o t.b))]):=by
 refine Fn.enter [2,3,0] Tryz.func184 rfl rfl rfl λX F hX=>?_;refine J.q hX λbb=>?_;refine J.turn1 [3,4,2] rfl (As:=[PkE (bb 0) q (bb (0+1)) r T]) (λh s=>PkE_un.2 s) rfl ?_;refine J.q hX λ_=>?_;refine J.cb hX (p_some q t hb o 235 [.pointer (some ⟨bb 0,0,none⟩), .pointer (some ⟨bb (0+1),0,none⟩)] (pkFree t T) (PkE (bb 0) q (bb (0+1)) r T) (by kernel_rfl) (λx=>p_free1 q t hb hl (bb 0) (bb (0+1)) r T x)) [1,3] ?_;rintro v As ⟨a,c,rfl,rfl⟩;refine⟨_,rfl,trivial,?_⟩;refine J.turn1 [3] rfl (λh s=>PkE_un.1 s) rfl ?_;refine J.q hX λ_=>?_;refine J.ru hX [1,7,5] ?_;exact⟨a,c,rfl,rfl⟩
theorem p_Free (q:Nat) (t:Tl) (hb:t.b<=1000) (hl:t.l.length=t.b) (r:Nat) (T:Tb) (o:Int):Fn Tryz.prog 128 [.pointer (some ⟨q,0,none⟩), .pointer (some ⟨r,0,none⟩), .int .i64 o] [TlA q t,TbA r T]
  (λv As=>v= .int .i64 (pkSome (pkFree t T) o t.b).length/\As=[TlA q t,TbA r T]):=by
 refine Fn.enter [2,3,0] Tryz.func128 rfl rfl rfl λX F hX=>?_;refine J.q hX λ_=>?_;refine J.cb hX (p_free q t hb hl r T o) [1,2] ?_;rintro v As ⟨a,c,rfl,rfl⟩;refine⟨_,rfl,trivial,?_⟩;refine J.q hX λ_=>?_;exact J.ru hX [1,2] ⟨rfl,rfl⟩
theorem p_Open1 (q:Nat) (t:Tl) (hb:t.b<=1000) (hl:t.l.length=t.b) (bt:Nat) (x y:Int):Fn Tryz.prog 244 [.int .i64 x, .int .i64 y, .pointer (some ⟨bt,0,none⟩)] [.pt bt 120 [.pointer (some ⟨q,0,none⟩)],TlA q t]
  (λv As=>v= .int .i64 (cmpI (t.wear x) (t.wear y))/\As=[.pt bt 120 [.pointer (some ⟨q,0,none⟩)],TlA q t]):=by
 refine Fn.enter [0,0,2] Tryz.func244 rfl rfl rfl λX F hX=>?_;refine J.q hX λ_=>?_;refine J.plan (.of [1,4,13,16,10,23,27,28]) [5,6,7] [1,2] (by rw[hX.hP];kernel_rfl) (by kernel_rfl) ?_;refine J.q hX λ_=>?_;refine J.cb hX (tl_Wear q t hb hl x) [2] ?_;refine cpq ⟨_,rfl,(by first | exact trivial | (repeat' (first | exact trivial | refine⟨rfl,?_⟩))),?_⟩;refine J.q hX λ_=>?_;refine J.cb hX (tl_Wear q t hb hl y) [2] ?_;refine cpq ⟨_,rfl,(by first | exact trivial | (repeat' (first | exact trivial | refine⟨rfl,?_⟩))),?_⟩;refine J.q hX λ_=>?_;refine J.cb hX (c_Compare (t.wear x) (t.wear y)) [] ?_;refine cpq ⟨_,rfl,(by first | exact trivial | (repeat' (first | exact trivial | refine⟨rfl,?_⟩))),?_⟩;refine J.q hX λ_=>?_;exact J.ru hX [1,2] ⟨rfl,rfl⟩
theorem p_Open (q:Nat) (t:Tl) (hb:t.b<=1000) (hl:t.l.length=t.b) (r:Nat) (T:Tb) (o:Int):Fn Tryz.prog 197 [.pointer (some ⟨q,0,none⟩), .pointer (some ⟨r,0,none⟩), .int .i64 o] [TlA q t,TbA r T]
  (λv As=>v= .int .i64 (pkLeast (λx y=>cmpI (t.wear x) (t.wear y)) (pkSome (pkFree t T) o t.b))/\As=[TlA q t,TbA r T]):=by
 have hlen:=pkSome_len (pkFree t T) o t.b;refine Fn.enter [2,3,0] Tryz.func197 rfl rfl rfl λX F hX=>?_;refine J.q hX λbb=>?_;refine J.cb hX (p_free q t hb hl r T o) [1,2] ?_;rintro v As ⟨a,c,rfl,rfl⟩;refine⟨_,rfl,trivial,?_⟩;refine J.q hX λ_=>?_;refine J.turn1 [3,1] rfl (As:=[.hp (HP.of [.pt (bb 0) 120 [.pointer (some ⟨q,0,none⟩)],TlA q t])]) (λh s=>Sep.hpOf.2 s) rfl ?_;refine J.q hX λ_=>?_;refine J.ca hX (by kernel_rfl) (p_least 244 [.pointer (some ⟨bb 0,0,none⟩)] (λx y=>cmpI (t.wear x) (t.wear y)) _ (by kernel_rfl) (λx y=>Fn.pack (p_Open1 q t hb hl (bb 0) x y)) a c (pkSome (pkFree t T) o t.b) (by omega)) [4,3] 0 rfl rfl rfl rfl rfl rfl (λ_=>rfl) ?_;refine cpq ⟨_,rfl,trivial,?_⟩;refine J.turn1 [3] rfl (As:=[.pt (bb 0) 120 [.pointer (some ⟨q,0,none⟩)],TlA q t]) (λh s=>Sep.hpOf.1 s) rfl ?_;refine J.q hX λ_=>?_;exact J.ru hX [5,2] ⟨rfl,rfl⟩
theorem c_Or2 (b:Nat) (x y:Int):Fn Tryz.prog 188 [.slice (some ⟨b,0,none⟩) 2 2] [.pt b 3 [.int .i64 x, .int .i64 y]] (λv As=>v= .int .i64 (orI [x,y])/\As=[.pt b 3 [.int .i64 x, .int .i64 y]]):=by
 refine Fn.enter [2] Tryz.func188 rfl rfl rfl λX F hX=>?_;refine J.q hX λ_=>?_;refine J.lo (α:=Nat) (λk=>k<=2/\orI ([x,y].drop k)=orI [x,y]) (λk=>[⟨8, .int .i64 k,0, .tt⟩,⟨7, .int .i64 2,0, .tt⟩,⟨6, .slice (some ⟨b,0,none⟩) 2 2,2, .tt⟩,⟨3, .int .i64 0,0, .tt⟩]) [] (λk=>[]) (λk=>2-k) (0) (⟨by omega,rfl⟩) rfl ?_ (λ_=>rfl) λk hI=>?_
 ·rfl
 refine J.q hX λ_=>?_;refine J.cond rfl (λh1=>?_) (λh1=>?_)
 ·simp only[decide_eq_true_eq]at h1;obtain⟨v,hv⟩:∃v,([x,y]:List Int)[k]? =some v:=⟨_,List.getElem?_eq_getElem (by simp;omega)⟩;have hd:([x,y]:List Int).drop k=v::([x,y]:List Int).drop (k+1):=by
   obtain⟨h2,h3⟩:=List.getElem?_eq_some_iff.1 hv;rw[List.drop_eq_getElem_cons h2,h3]
  refine J.q hX λ_=>?_;refine J.val hX (.int .i64 v) 0 rfl rfl (λhg a w he hs=>?_) rfl trivial ?_
  ·exact load1_run tk rfl rfl he rfl rfl rfl (hs.get (i:=1) rfl) (by
    rw[show 0+(k:Int).toNat*1=k from by omega,show([.int .i64 x, .int .i64 y]:List Value)=([x,y]:List Int).map (.int .i64)from rfl,List.getElem?_map,hv];rfl)
  refine J.q hX λ_=>?_;refine J.cond rfl (λh2=>?_) (λh2=>?_)
  ·simp only[bne_iff_ne,ne_eq]at h2;refine J.q hX λ_=>?_;refine J.ru hX [1] ?_;refine⟨?_,rfl⟩;rw[<- hI.2,hd];simp[orI,h2]
  ·simp only[bne_eq_false_iff_eq]at h2;refine J.q hX λ_=>?_;refine J.nx (k+1) (⟨by omega,by rw[<- hI.2,hd,orI,if_neg (by simp[h2])]⟩) (by omega) (λ_ s=>s)
 ·simp only[decide_eq_false_iff_not]at h1;refine J.q hX λ_=>?_;refine J.ru hX [1] ?_;refine⟨?_,rfl⟩;rw[<- hI.2,List.drop_of_length_le (by simp;omega)];rfl
theorem p_Victim2 (q:Nat) (t:Tl) (hb:t.b<=1000) (hl:t.l.length=t.b) (bt bl r:Nat) (T:Tb) (x y:Int):Fn Tryz.prog 187 [.int .i64 x, .int .i64 y, .pointer (some ⟨bl,0,none⟩), .pointer (some ⟨bt,0,none⟩)] [TlA q t,PkE bt q bl r T]
  (λv As=>v= .int .i64 (orI [cmpI (T.count x) (T.count y),cmpI (t.wear x) (t.wear y)])/\As=[TlA q t,PkE bt q bl r T]):=by
 refine Fn.enter [0,0,4,3] Tryz.func187 rfl rfl rfl λX F hX=>?_;refine J.turn1 [2] rfl (λh s=>PkE_un.1 s) rfl ?_;refine J.q hX λ_=>?_;refine J.plan (.of [1,4,13,16,29,32,41,44,10,22,26,38,51,55,59,63,64]) [12,13,14,15,16] [1,2,3,4] (by rw[hX.hP];kernel_rfl) (by kernel_rfl) ?_;refine J.q hX λ_=>?_;refine J.cb hX (tb_Count r T x) [4] ?_;refine cpq ⟨_,rfl,(by first | exact trivial | (repeat' (first | exact trivial | refine⟨rfl,?_⟩))),?_⟩;refine J.q hX λ_=>?_;refine J.cb hX (tb_Count r T y) [4] ?_;refine cpq ⟨_,rfl,(by first | exact trivial | (repeat' (first | exact trivial | refine⟨rfl,?_⟩))),?_⟩;refine J.q hX λ_=>?_;refine J.cb hX (c_Compare (T.count x) (T.count y)) [] ?_;refine cpq ⟨_,rfl,(by first | exact trivial | (repeat' (first | exact trivial | refine⟨rfl,?_⟩))),?_⟩;refine J.q hX λ_=>?_;refine J.cb hX (tl_Wear q t hb hl x) [1] ?_;refine cpq ⟨_,rfl,(by first | exact trivial | (repeat' (first | exact trivial | refine⟨rfl,?_⟩))),?_⟩;refine J.q hX λ_=>?_;refine J.cb hX (tl_Wear q t hb hl y) [1] ?_;refine cpq ⟨_,rfl,(by first | exact trivial | (repeat' (first | exact trivial | refine⟨rfl,?_⟩))),?_⟩;refine J.q hX λ_=>?_;refine J.cb hX (c_Compare (t.wear x) (t.wear y)) [] ?_;refine cpq ⟨_,rfl,(by first | exact trivial | (repeat' (first | exact trivial | refine⟨rfl,?_⟩))),?_⟩;refine J.q hX λbs=>?_;refine J.cb hX (c_Or2 (bs 0) (cmpI (T.count x) (T.count y)) (cmpI (t.wear x) (t.wear y))) [5] ?_;refine cpq ⟨_,rfl,(by first | exact trivial | (repeat' (first | exact trivial | refine⟨rfl,?_⟩))),?_⟩;refine J.q hX λ_=>?_;refine J.turn1 [2,3,4] rfl (λh s=>PkE_un.2 s) rfl ?_;refine J.q hX λ_=>?_;exact J.ru hX [1,2] ⟨rfl,rfl⟩
theorem p_Victim (q:Nat) (t:Tl) (hb:t.b<=1000) (hl:t.l.length=t.b) (r:Nat) (T:Tb) (o:Int):Fn Tryz.prog 129 [.pointer (some ⟨q,0,none⟩), .pointer (some ⟨r,0,none⟩), .int .i64 o] [TlA q t,TbA r T]
  (λv As=>v= .int .i64 (pkLeast (λx y=>orI [cmpI (T.count x) (T.count y),cmpI (t.wear x) (t.wear y)]) (pkSome (pkUsed t T) o t.b))/\As=[TlA q t,TbA r T]):=by
 have hlen:=pkSome_len (pkUsed t T) o t.b;refine Fn.enter [2,3,0] Tryz.func129 rfl rfl rfl λX F hX=>?_;refine J.q hX λbb=>?_;refine J.turn1 [3,4,2] rfl (As:=[PkE (bb 0) q (bb (0+1)) r T]) (λh s=>PkE_un.2 s) rfl ?_;refine J.q hX λ_=>?_;refine J.cb hX (p_some q t hb o 185 [.pointer (some ⟨bb (0+1),0,none⟩), .pointer (some ⟨bb 0,0,none⟩)] (pkUsed t T) (PkE (bb 0) q (bb (0+1)) r T) (by kernel_rfl) (λx=>p_used1 q t hb hl (bb 0) (bb (0+1)) r T x)) [1,3] ?_;rintro v As ⟨a,c,rfl,rfl⟩;refine⟨_,rfl,trivial,?_⟩;refine J.q hX λ_=>?_;refine J.turn1 [1,3] rfl (As:=[.hp (HP.of [TlA q t,PkE (bb 0) q (bb (0+1)) r T])]) (λh s=>Sep.hpOf.2 s) rfl ?_;refine J.q hX λ_=>?_;refine J.ca hX (by kernel_rfl) (p_least 187 [.pointer (some ⟨bb (0+1),0,none⟩), .pointer (some ⟨bb 0,0,none⟩)] (λx y=>orI [cmpI (T.count x) (T.count y),cmpI (t.wear x) (t.wear y)]) _ (by kernel_rfl) (λx y=>Fn.pack (p_Victim2 q t hb hl (bb 0) (bb (0+1)) r T x y)) a c (pkSome (pkUsed t T) o t.b) (by omega)) [5,1] 0 rfl rfl rfl rfl rfl rfl (λ_=>rfl) ?_;refine cpq ⟨_,rfl,trivial,?_⟩;refine J.turn1 [1] rfl (As:=[TlA q t,PkE (bb 0) q (bb (0+1)) r T]) (λh s=>Sep.hpOf.1 s) rfl ?_;refine J.turn1 [6] rfl (λh s=>PkE_un.1 s) rfl ?_;refine J.q hX λ_=>?_;exact J.ru hX [1,8] ⟨rfl,rfl⟩
theorem p_Spent (q:Nat) (t:Tl) (hb:t.b<=1000) (hl:t.l.length=t.b) (r:Nat) (T:Tb) (o:Int):Fn Tryz.prog 125 [.pointer (some ⟨q,0,none⟩), .pointer (some ⟨r,0,none⟩), .int .i64 o] [TlA q t,TbA r T]
  (λv As=>∃a c,v=slv a (pkSome (pkSpent t T) o t.b).length c/\As=[TlA q t,TbA r T,ownA 3 1 a (pkSome (pkSpent t T) o t.b).length c (cellsI (pkSome (pkSpent t T) o t.b))]):=by
 refine Fn.enter [2,3,0] Tryz.func125 rfl rfl rfl λX F hX=>?_;refine J.q hX λbb=>?_;refine J.turn1 [3,4,2] rfl (As:=[PkE (bb 0) q (bb (0+1)) r T]) (λh s=>PkE_un.2 s) rfl ?_;refine J.q hX λ_=>?_;refine J.cb hX (p_some q t hb o 178 [.pointer (some ⟨bb 0,0,none⟩), .pointer (some ⟨bb (0+1),0,none⟩)] (pkSpent t T) (PkE (bb 0) q (bb (0+1)) r T) (by kernel_rfl) (λx=>p_spent1 q t hb hl (bb 0) (bb (0+1)) r T x)) [1,3] ?_;rintro v As ⟨a,c,rfl,rfl⟩;refine⟨_,rfl,trivial,?_⟩;refine J.turn1 [3] rfl (λh s=>PkE_un.1 s) rfl ?_;refine J.q hX λ_=>?_;refine J.ru hX [1,7,5] ?_;exact⟨a,c,rfl,rfl⟩
def pkLost (t:Tl) (T:Tb) (b i:Int):Bool:=IntKind.i64.wrap ((BitVec.ofInt IntKind.i64.bits ((Tb.look T.at_ i).getD AtV.zero).mask&&& BitVec.ofInt IntKind.i64.bits (Tl.andN (L.all t.d) (t.mask b))).toNat:Int) !=0
theorem p_Hurt2 (q:Nat) (t:Tl) (hb:t.b<=1000) (hl:t.l.length=t.b) (bt bl bb r:Nat) (T:Tb) (b i:Int):Fn Tryz.prog 205 [.int .i64 i, .pointer (some ⟨bl,0,none⟩), .pointer (some ⟨bt,0,none⟩), .pointer (some ⟨bb,0,none⟩)] [TlA q t, .pt bt 120 [.pointer (some ⟨q,0,none⟩)], .pt bl 114 [.pointer (some ⟨r,0,none⟩)],TbA r T, .pt bb 3 [.int .i64 b]]
  (λv As=>v= .bool (pkLost t T b i)/\As=[TlA q t, .pt bt 120 [.pointer (some ⟨q,0,none⟩)], .pt bl 114 [.pointer (some ⟨r,0,none⟩)],TbA r T, .pt bb 3 [.int .i64 b]]):=by
 refine Fn.enter [0,4,3,6] Tryz.func205 rfl rfl rfl λX F hX=>?_;refine J.q hX λ_=>?_;refine J.cb hX (tb_Get r T i) [4] ?_;refine cpq ⟨_,rfl,trivial,?_⟩;refine J.q hX λ_=>?_;refine J.plan (.of [1,17,21,6,8,14,27,28,32]) [6,7,8] [1,2,3,4,5] (by rw[hX.hP];kernel_rfl) (by kernel_rfl) ?_;refine J.q hX λ_=>?_;refine J.cb hX (tl_Geo q t) [1] ?_;refine cpq ⟨_,rfl,(by first | exact trivial | (repeat' (first | exact trivial | refine⟨rfl,?_⟩))),?_⟩;refine J.q hX λ_=>?_;refine J.cb hX (l_All t.d) [] ?_;refine cpq ⟨_,rfl,(by first | exact trivial | (repeat' (first | exact trivial | refine⟨rfl,?_⟩))),?_⟩;refine J.q hX λ_=>?_;refine J.cb hX (tl_Mask q t hb hl b) [1] ?_;refine cpq ⟨_,rfl,(by first | exact trivial | (repeat' (first | exact trivial | refine⟨rfl,?_⟩))),?_⟩;refine J.q hX λ_=>?_;exact J.ru hX [1,2,3,4,5] ⟨rfl,rfl⟩
def pkHurt (t:Tl) (T:Tb) (b:Int):Bool:=(T.ins b).any (pkLost t T b)
theorem p_Hurt1 (q:Nat) (t:Tl) (hb:t.b<=1000) (hl:t.l.length=t.b) (bt bl r:Nat) (T:Tb) (n:Nat) (hlog:T.logical=(n:Int)) (hn:n<=65536) (b:Int):Fn Tryz.prog 204 [.int .i64 b, .pointer (some ⟨bl,0,none⟩), .pointer (some ⟨bt,0,none⟩)] [TlA q t,PkE bt q bl r T]
  (λv As=>v= .bool (pkHurt t T b)/\As=[TlA q t,PkE bt q bl r T]):=by
 have hlen:(T.ins b).length<=65536:=by
  unfold Tb.ins;split
  ·simp
  ·refine Nat.le_trans (T.inK_len b _) ?_;rw[hlog];omega
 refine Fn.enter [0,4,3] Tryz.func204 rfl rfl rfl λX F hX=>?_;refine J.turn1 [2] rfl (λh s=>PkE_un.1 s) rfl ?_;refine J.q hX λbb=>?_;refine J.cb hX (tb_In r T n hlog hn b) [4] ?_;rintro v As ⟨a,c,rfl,rfl⟩;refine⟨_,rfl,trivial,?_⟩;refine J.q hX λ_=>?_;refine J.turn1 [1,2,3,4,5] rfl (As:=[.hp (HP.of [TlA q t, .pt bt 120 [.pointer (some ⟨q,0,none⟩)], .pt bl 114 [.pointer (some ⟨r,0,none⟩)],TbA r T, .pt (bb 0) 3 [.int .i64 b]])]) (λh s=>Sep.hpOf.2 s) rfl ?_;refine J.q hX λ_=>?_;refine J.ca hX (by kernel_rfl) (x_ContainsI 205 [.pointer (some ⟨bl,0,none⟩), .pointer (some ⟨bt,0,none⟩), .pointer (some ⟨bb 0,0,none⟩)] (pkLost t T b) _ (by kernel_rfl) (T.ins b) (λi _=>Fn.pack (p_Hurt2 q t hb hl bt bl (bb 0) r T b i)) a (T.ins b).length c rfl (by omega)) [6,1] 0 rfl rfl rfl rfl rfl rfl (λ_=>rfl) ?_;refine cpq ⟨_,rfl,trivial,?_⟩;refine J.turn1 [1] rfl (As:=[TlA q t, .pt bt 120 [.pointer (some ⟨q,0,none⟩)], .pt bl 114 [.pointer (some ⟨r,0,none⟩)],TbA r T, .pt (bb 0) 3 [.int .i64 b]]) (λh s=>Sep.hpOf.1 s) rfl ?_;refine J.turn1 [7,8,9] rfl (λh s=>PkE_un.2 s) rfl ?_;refine J.q hX λ_=>?_;exact J.ru hX [1,7] ⟨rfl,rfl⟩
theorem p_Hurt (q:Nat) (t:Tl) (hb:t.b<=1000) (hl:t.l.length=t.b) (r:Nat) (T:Tb) (n:Nat) (hlog:T.logical=(n:Int)) (hn:n<=65536):Fn Tryz.prog 143 [.pointer (some ⟨q,0,none⟩), .pointer (some ⟨r,0,none⟩)] [TlA q t,TbA r T]
  (λv As=>∃a c,v=slv a (pkSome (pkHurt t T) (-1) t.b).length c/\As=[TlA q t,TbA r T,ownA 3 1 a (pkSome (pkHurt t T) (-1) t.b).length c (cellsI (pkSome (pkHurt t T) (-1) t.b))]):=by
 refine Fn.enter [2,3] Tryz.func143 rfl rfl rfl λX F hX=>?_;refine J.q hX λbb=>?_;refine J.turn1 [3,4,2] rfl (As:=[PkE (bb 0) q (bb (0+1)) r T]) (λh s=>PkE_un.2 s) rfl ?_;refine J.q hX λ_=>?_;refine J.cb hX (p_some q t hb (-1) 204 [.pointer (some ⟨bb (0+1),0,none⟩), .pointer (some ⟨bb 0,0,none⟩)] (pkHurt t T) (PkE (bb 0) q (bb (0+1)) r T) (by kernel_rfl) (λx=>p_Hurt1 q t hb hl (bb 0) (bb (0+1)) r T n hlog hn x)) [1,3] ?_;rintro v As ⟨a,c,rfl,rfl⟩;refine⟨_,rfl,trivial,?_⟩;refine J.turn1 [3] rfl (λh s=>PkE_un.1 s) rfl ?_;refine J.q hX λ_=>?_;refine J.ru hX [1,7,5] ?_;exact⟨a,c,rfl,rfl⟩
end Go.Proofs.YtkdlnfdjjifedaaGreat
namespace Go.Proofs.YtkdlnfdjjifedaaGreat
namespace Tb
def cntB (l:List (Int×AtV)) (b:Int):Nat:=l.countP λx=>x.2.block==b
structure Ok (t:Tb):Prop where
 keys:(t.at_.map (·.1)).Nodup
 rng:∀x∈t.at_,0<=x.1/\x.1<t.logical
 cnt:∀b,t.count b=(cntB t.at_ b:Int)
 log:0<=t.logical/\t.logical<=65536
theorem look_none {α:Type} {k:Int}:∀{l:List (Int×α)},look l k=none↔k∉l.map (·.1)
 | []=>by simp[look]
 | x::l=>by
  simp only[look,List.map_cons,List.mem_cons,not_or];split
  ·rename_i h;simp[h]
  ·rename_i h;rw[look_none];simp[h]
theorem look_mem {α:Type} {k:Int} {a:α}:∀{l:List (Int×α)},look l k=some a->(k,a)∈l
 | [],h=>by simp[look]at h
 | x::l,h=>by
  simp only[look]at h;split at h
  ·rename_i e;injection h with h;subst h;subst e;exact List.mem_cons_self ..
  ·exact List.mem_cons_of_mem _ (look_mem h)
theorem put1_new {α:Type} {k:Int} {v:α}:∀{l:List (Int×α)},look l k=none->put1 l k v=l++[(k,v)]
 | [],_=>rfl
 | x::l,h=>by
  simp only[look]at h;split at h
  ·cases h
  ·rename_i e;simp only[put1,if_neg e,put1_new h,List.cons_append]
theorem put1_keys {α:Type} {k:Int} {v:α}:∀{l:List (Int×α)},(look l k).isSome=true->(put1 l k v).map (·.1)=l.map (·.1)
 | [],h=>by simp[look]at h
 | x::l,h=>by
  simp only[look]at h;simp only[put1];split
  ·rename_i e;simp[e]
  ·rename_i e;rw[if_neg e]at h;simp only[List.map_cons,put1_keys h]
theorem cntB_put {k:Int} {v:AtV} (b:Int):∀{l:List (Int×AtV)},(l.map (·.1)).Nodup->(cntB (put1 l k v) b:Int)=(cntB l b:Int)-(match look l k with | some a=>if a.block=b then 1 else 0 | none=>0)+(if v.block=b then 1 else 0)
 | [],_=>by simp[put1,look,cntB];split<;>simp_all
 | x::l,h=>by
  simp only[put1,look]
  by_cases e:k=x.1
  ·rw[if_pos e,if_pos e];simp only[cntB,List.countP_cons,beq_iff_eq];split<;>split<;>omega
  ·rw[if_neg e,if_neg e];have:=cntB_put (k:=k) (v:=v) b (l:=l) (by simp only[List.map_cons,List.nodup_cons]at h;exact h.2);simp only[cntB,List.countP_cons]at this ⊢;rw[Int.natCast_add,Int.natCast_add,this];omega
theorem count_put1 (c:List (Int×Int)) (k v b:Int):(look (put1 c k v) b).getD 0=if b=k then v else(look c b).getD 0:=by
 rw[look_put1];split<;>rfl
theorem ok_spec {t:Tb} {e:En} (h:t.ok e=true):0<=e.lpn/\e.lpn<t.logical:=by
 simp only[ok,Bool.not_eq_true',Bool.or_eq_false_iff,decide_eq_false_iff_not]at h;omega
theorem Ok.new (n:Int):(Tb.new n).Ok:=⟨by simp[Tb.new],by simp[Tb.new],λb=>rfl,by simp only[Tb.new];omega⟩
theorem Ok.put {t:Tb} (h:t.Ok) (e:En) (b r s m:Int):(t.put e b r s m).Ok:=by
 unfold Tb.put;split
 ·rename_i hp;simp only[putB,Bool.and_eq_true]at hp;have ho:=ok_spec hp.1;have hk:(put1 t.at_ e.lpn ⟨b,r,s,m,e.seq,e.role⟩).map (·.1)=t.at_.map (·.1)\/look t.at_ e.lpn=none/\(put1 t.at_ e.lpn ⟨b,r,s,m,e.seq,e.role⟩).map (·.1)=t.at_.map (·.1)++[e.lpn]:=by
   cases hl:look t.at_ e.lpn with
   | none=>right;exact⟨rfl,by rw[put1_new hl];simp⟩
   | some a=>left;exact put1_keys (by rw[hl];rfl)
  refine⟨?_,?_,?_,h.log⟩
  ·rcases hk with hk | ⟨hn,hk⟩
   ·show((put1 _ _ _).map _).Nodup;rw[hk];exact h.keys
   ·show((put1 _ _ _).map _).Nodup;rw[hk,List.nodup_append];exact⟨h.keys,by simp,λa ha c hc=>by simp at hc;subst hc;exactλe=>look_none.1 hn (e▸ha)⟩
  ·intro x hx;have hx:x.1∈(put1 t.at_ e.lpn ⟨b,r,s,m,e.seq,e.role⟩).map (·.1):=List.mem_map_of_mem hx;have hr:∀k∈t.at_.map (·.1),0<=k/\k<t.logical:=λk hk=>by
    obtain⟨y,hy,rfl⟩:=List.mem_map.1 hk;exact h.rng y hy
   rcases hk with hk | ⟨_,hk⟩
   ·rw[hk]at hx;exact hr _ hx
   ·rw[hk,List.mem_append]at hx;rcases hx with hx | hx
    ·exact hr _ hx
    ·simp at hx;rw[hx];exact ho
  ·intro c;show(look (cnt2 t e b) c).getD 0=(cntB (put1 t.at_ e.lpn ⟨b,r,s,m,e.seq,e.role⟩) c:Int);rw[cntB_put c h.keys];have h1:∀d,(look (cnt1 t e) d).getD 0=(cntB t.at_ d:Int)-(match look t.at_ e.lpn with | some a=>if a.block=d then 1 else 0 | none=>0):=by
    intro d;have hd:(look t.cnt d).getD 0=(cntB t.at_ d:Int):=h.cnt d;unfold cnt1;cases hl:look t.at_ e.lpn with
    | none=>dsimp only;rw[hd];omega
    | some a=>
     dsimp only;rw[count_put1];split
     ·rename_i e1;subst e1;rw[if_pos rfl,h.cnt]
     ·rename_i e1;rw[if_neg (λe=>e1 e.symm),hd];omega
   unfold cnt2;rw[count_put1,h1 b,h1 c];dsimp only
   by_cases e1:c=b
   ·subst e1;rw[if_pos rfl,if_pos rfl]
   ·rw[if_neg e1,if_neg (λe=>e1 e.symm)];omega
 ·exact h
theorem countP_one {p q:Nat->Bool} {i0:Nat} (h1:∀i,i≠i0->p i=q i) (h2:q i0=false):∀n,(List.range n).countP p=(List.range n).countP q+(if i0<n/\p i0=true then 1 else 0)
 | 0=>by simp
 | n+1=>by
  rw[List.range_succ,List.countP_append,List.countP_append,countP_one h1 h2 n];simp only[List.countP_singleton]
  by_cases e:n=i0
  ·subst e;rw[h2];cases p n<;>simp
  ·rw[h1 n e]
   by_cases e2:i0<n
   ·simp[e2,show i0<n+1 by omega];omega
   ·simp[e2,show¬i0<n+1 by omega]
theorem at_cnt {α:Type} (n:Nat):∀l:List (Int×α),(l.map (·.1)).Nodup->(∀x∈l,0<=x.1/\x.1<(n:Int))->l.length=(List.range n).countP λi:Nat=>(look l (i:Int)).isSome
 | [],_,_=>by simp[look]
 | x::l,h1,h2=>by
  simp only[List.map_cons,List.nodup_cons]at h1;have ih:=at_cnt n l h1.2 (λy hy=>h2 y (List.mem_cons_of_mem _ hy));have hx:=h2 x (List.mem_cons_self ..);have hn:look l x.1=none:=look_none.2 h1.1;rw[countP_one (q:=λi:Nat=>(look l (i:Int)).isSome) (i0:=x.1.toNat)]
  ·rw[<- ih];have:((x.1.toNat:Nat):Int)=x.1:=by omega
   simp only[this,look,if_true,Option.isSome_some,and_true,List.length_cons];rw[if_pos (by omega)]
  ·intro i hi;simp only[look];rw[if_neg (by omega)]
  ·have:((x.1.toNat:Nat):Int)=x.1:=by omega
   simp only[this,hn];rfl
theorem len_le {α:Type} (n:Nat) (l:List (Int×α)) (h1:(l.map (·.1)).Nodup) (h2:∀x∈l,0<=x.1/\x.1<(n:Int)):l.length<=n:=by
 rw[at_cnt n l h1 h2];have:=List.countP_le_length (p:=λi:Nat=>(look l (i:Int)).isSome) (l:=List.range n)
 rwa [List.length_range]at this
theorem Ok.len {t:Tb} (h:t.Ok):t.at_.length<=65536:=by
 have:=len_le t.logical.toNat t.at_ h.keys (λx hx=>by have:=h.rng x hx;omega);have:=h.log;omega
theorem Ok.bd {t:Tb} (h:t.Ok) (k:Int):0<=t.count k/\t.count k<=1000000:=by
 rw[h.cnt];have:cntB t.at_ k<=t.at_.length:=List.countP_le_length;have:=h.len;omega
theorem range_cnt (b:Int) (n:Nat):∀l:List (Int×AtV),(l.map (·.1)).Nodup->(∀x∈l,0<=x.1/\x.1<(n:Int))->(List.range n).countP (λi:Nat=>match look l (i:Int)with | some a=>a.block==b | none=>false)=cntB l b
 | [],_,_=>by simp[look,cntB]
 | x::l,h1,h2=>by
  simp only[List.map_cons,List.nodup_cons]at h1;have ih:=range_cnt b n l h1.2 (λy hy=>h2 y (List.mem_cons_of_mem _ hy));have hx:=h2 x (List.mem_cons_self ..);have hn:look l x.1=none:=look_none.2 h1.1;rw[countP_one (q:=λi:Nat=>match look l (i:Int)with | some a=>a.block==b | none=>false) (i0:=x.1.toNat)]
  ·rw[ih,cntB,cntB,List.countP_cons];have:((x.1.toNat:Nat):Int)=x.1:=by omega
   simp only[this,look,if_true];have hlt:x.1.toNat<n:=by omega
   simp only[hlt,true_and]
  ·intro i hi;simp only[look];rw[if_neg (by omega)]
  ·have:((x.1.toNat:Nat):Int)=x.1:=by omega
   simp only[this,hn]
theorem Ok.inK_len {t:Tb} (h:t.Ok) (b:Int):((inK t b t.logical.toNat).length:Int)=t.count b:=by
 rw[h.cnt,inK,List.length_map,<- List.countP_eq_length_filter,<- range_cnt b t.logical.toNat t.at_ h.keys (λx hx=>by have:=h.rng x hx;omega)];rfl
theorem Ok.ins {t:Tb} (h:t.Ok) (b:Int):t.ins b=inK t b t.logical.toNat:=by
 unfold Tb.ins;split
 ·rename_i h0;have:=h.inK_len b;rw[h0]at this;have:(inK t b t.logical.toNat).length=0:=by omega
  exact(List.eq_nil_of_length_eq_zero this).symm
 ·rfl
theorem Ok.ins_len {t:Tb} (h:t.Ok) (b:Int):((t.ins b).length:Int)=t.count b:=by rw[h.ins,h.inK_len]
theorem put_logical (t:Tb) (e:En) (b r s m:Int):(t.put e b r s m).logical=t.logical:=by unfold Tb.put;split<;>rfl
end Tb
end Go.Proofs.YtkdlnfdjjifedaaGreat
namespace Go.Proofs.YtkdlnfdjjifedaaGreat
open Go Go.RowKit
def mk0 (N:Nand) (b r:Int) (k:Nat):List Int:=((M.rowN N b r N.dies).take k).filterMap M.maskOf
theorem rowN_at (N:Nand) (b r:Int) (n k:Nat) (h:k<n):(M.rowN N b r n)[k]? =some (M.look N (k:Nat) b r):=by simp[M.rowN,h]
theorem mk0_succ (N:Nand) (b r:Int) (k:Nat) (h:k<N.dies):mk0 N b r (k+1)=mk0 N b r k++(M.maskOf (M.look N (k:Nat) b r)).toList:=by
 unfold mk0;rw[List.take_add_one,rowN_at N b r _ k h,List.filterMap_append];congr 1
theorem mk0_len (N:Nand) (b r:Int) (k:Nat):(mk0 N b r k).length<=k:=by
 refine Nat.le_trans (List.length_filterMap_le _ _) ?_;rw[List.length_take];omega
theorem cellsI_get {l:List Int} {k:Nat} {x:Int} (h:l[k]? =some x):(cellsI l)[k]? =some (.int .i64 x):=by simp[cellsI,h]
theorem cellsS_get {l:List Sh} {k:Nat} {x:Sh} (h:l[k]? =some x):((cellsS l).drop (k*23)).take 23=shL x:=by
 have:=cellsS_at l [] k x h;rwa [List.append_nil]at this
theorem m_Masks (p:Nat) (N:Nand) (hN:N.Ok) (hR:N.Room) (b r:Int):Fn Tryz.prog 157 [.pointer (some ⟨p,0,none⟩), .int .i64 b, .int .i64 r] [NandA p N]
  (λv As=>∃a c,v=slv a (M.masks N b r).length c/\As=[NandA p N,ownA 3 1 a (M.masks N b r).length c (cellsI (M.masks N b r))]):=by
 have hbd:=hN.bd;refine Fn.enter [2,0,0] Tryz.func157 rfl rfl rfl λX F hX=>?_;refine J.q hX λ_=>?_;refine J.cb hX (m_Row p N hN hR b r) [1] ?_;rintro v As ⟨a1,c1,a2,c2,rfl,rfl⟩;refine⟨_,rfl,trivial,?_⟩;refine J.turn1 [] rfl (As:=[ownA 3 1 none 0 0 (cellsI (mk0 N b r 0))]) (λh s=>Sep.one ⟨rfl,rfl,rfl⟩) rfl ?_;refine J.q hX λ_=>?_;refine J.lo (α:=(Nat×Option Nat×Nat)) (λz=>z.1<=N.dies) (λz=>[⟨21, .int .i64 z.1,0, .tt⟩,⟨20, .int .i64 N.dies,0, .tt⟩,⟨19,slv a1 N.dies c1,0, .tt⟩,⟨9,slv a2 N.dies c2,0, .tt⟩,⟨7,slv z.2.1 (mk0 N b r z.1).length z.2.2,0, .tt⟩]) [4] (λz=>[ownA 3 1 z.2.1 (mk0 N b r z.1).length z.2.2 (cellsI (mk0 N b r z.1))]) (λz=>N.dies-z.1) ((0,none,0)) (Nat.zero_le _) rfl ?_ (λ_=>rfl) λz hI=>?_
 ·rfl
 obtain⟨k,a3,c3⟩:=z;dsimp only at hI ⊢;have hml:=mk0_len N b r k;refine J.q hX λ_=>?_;refine J.cond rfl (λh1=>?_) (λh1=>?_)
 ·simp only[decide_eq_true_eq,Int.ofNat_lt]at h1;refine J.know (λh' s=>own_some (c:=(a1,c1)) (by omega) (s.get (i:=2) rfl)) λhg=>?_;obtain⟨g1,rfl⟩:=hg;refine J.know (λh' s=>own_some (c:=(a2,c2)) (by omega) (s.get (i:=3) rfl)) λhg=>?_;obtain⟨g2,rfl⟩:=hg;have hat:=rowN_at N b r _ k h1;refine J.q hX λ_=>?_;refine J.val hX (shV (M.look N (k:Nat) b r).1) 0 rfl rfl (λhg a w he hs=>?_) rfl trivial ?_
  ·exact ownN_run tk rfl rfl he rfl rfl rfl (hs.get (i:=2) rfl) (by rw[show 0+(k:Int).toNat*23=k*23 from by omega];exact cellsS_get (by rw[List.getElem?_map,hat];rfl)) rfl
  refine J.q hX λ_=>?_;refine J.val hX (.int .i64 (M.look N (k:Nat) b r).2) 0 rfl rfl (λhg a w he hs=>?_) rfl trivial ?_
  ·exact own1_run tk rfl rfl he rfl rfl rfl (hs.get (i:=3) rfl) (by rw[show 0+(k:Int).toNat*1=k from by omega];exact cellsI_get (by rw[List.getElem?_map,hat];rfl))
  refine J.q hX λ_=>?_;refine J.cond rfl (λh2=>?_) (λh2=>?_)
  ·simp only[beq_iff_eq]at h2;have hs:mk0 N b r (k+1)=mk0 N b r k++[(M.look N (k:Nat) b r).1.mask]:=by rw[mk0_succ N b r k h1,M.maskOf,if_pos h2];rfl
   have hl:(mk0 N b r k).length+1=(mk0 N b r (k+1)).length:=by rw[hs];simp
   refine J.q hX λ_=>?_;refine J.append hX tk 4 6 0 rfl rfl rfl rfl rfl rfl rfl rfl rfl rfl rfl rfl rfl rfl rfl rfl ?_ ?_ (λ_=>rfl) λa4 c4=>⟨_,(congrArg (λz=>lset _ 4 (ownA _ _ _ _ _ z)) ((cellsI_snoc _ _).symm.trans (congrArg cellsI hs.symm))).trans rfl,trivial,?_⟩
   ·simp only[maxLen];omega
   ·omega
   rw[hl];refine J.q hX λ_=>?_;refine J.nS ((k+1,a4,c4)) (by dsimp only;omega) (by dsimp only;omega) [0,1,2,3,4] rfl rfl
  ·simp only[beq_eq_false_iff_ne,ne_eq]at h2;have hs:mk0 N b r k=mk0 N b r (k+1):=by rw[mk0_succ N b r k h1,M.maskOf,if_neg h2];simp
   rw[hs];refine J.q hX λ_=>?_;refine J.nS ((k+1,a3,c3)) (by dsimp only;omega) (by dsimp only;omega) [0,1,2,3,4] rfl rfl
 ·simp only[decide_eq_false_iff_not,Int.ofNat_lt]at h1;obtain rfl:k=N.dies:=by omega
  have hall:mk0 N b r N.dies=(M.rowN N b r N.dies).filterMap M.maskOf:=by
   unfold mk0;rw[List.take_of_length_le (by simp[M.rowN])]
  refine J.q hX λ_=>?_;refine J.cb hX (s_SortInts a3 (mk0 N b r N.dies).length c3 (mk0 N b r N.dies) rfl (by omega)) [4] ?_;refine cpq ⟨_,rfl,trivial,?_⟩;refine J.q hX λ_=>?_;refine J.ca hX (by kernel_rfl) (x_Compact a3 (mk0 N b r N.dies).length c3 (isortL (mk0 N b r N.dies)) (isortL_len _) (by omega)) [4] 0 rfl rfl rfl rfl rfl rfl (λ_=>rfl) ?_;rintro v As ⟨l',hl',rfl,rfl⟩;refine⟨_,rfl,trivial,?_⟩;have he:l'=M.masks N b r:=by rw[hl',hall];rfl
  subst he;refine J.q hX λ_=>?_;refine J.ru hX [1,4] ?_;exact⟨a3,c3,rfl,rfl⟩
end Go.Proofs.YtkdlnfdjjifedaaGreat
