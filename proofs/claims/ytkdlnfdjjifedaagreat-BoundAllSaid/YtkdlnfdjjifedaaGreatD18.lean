/- Helpers, proved here. No condition. -/
import Derived.Test.YtkdlnfdjjifedaaGreatD06
import Derived.Test.YtkdlnfdjjifedaaGreatD10
import Derived.Test.YtkdlnfdjjifedaaGreatD13
import Derived.Test.YtkdlnfdjjifedaaGreatD15
import Derived.Test.YtkdlnfdjjifedaaGreatD16
import Derived.Test.YtkdlnfdjjifedaaGreatD17
set_option maxRecDepth 20000
set_option linter.all false
namespace Go.Proofs.YtkdlnfdjjifedaaGreat
open Go Go.RowKit
theorem g_Logical (d b p:Nat) (h:geoMay d b p=true):Fn Tryz.prog 76 [.agg #[.int .i64 d, .int .i64 b, .int .i64 p]] [] (λv As=>v= .int .i64 ((((b:Int)-5)*p*((d:Int)-2)+1).tdiv 2)/\As=[]):=by
 have hbd:(3<=d/\d<=6)/\(8<=b/\b<=16)/\(2<=p/\p<=8):=by simp[geoMay]at h;omega
 have h1:0<=((b:Int)-5)*p/\((b:Int)-5)*p<=88:=by
  refine⟨Int.mul_nonneg (by omega) (by omega),?_⟩;have:((b:Int)-5)*p<=11*8:=Int.mul_le_mul (by omega) (by omega) (by omega) (by omega);omega
 have h2:0<=((b:Int)-5)*p*((d:Int)-2)/\((b:Int)-5)*p*((d:Int)-2)<=352:=by
  refine⟨Int.mul_nonneg h1.1 (by omega),?_⟩;have:((b:Int)-5)*p*((d:Int)-2)<=88*4:=Int.mul_le_mul h1.2 (by omega) (by omega) (by omega);omega
 have h3: -1<=(((b:Int)-5)*p*((d:Int)-2)+1).tdiv 2/\(((b:Int)-5)*p*((d:Int)-2)+1).tdiv 2<=1000:=by
  generalize((b:Int)-5)*p*((d:Int)-2)=x at h2;rw[Int.tdiv_eq_ediv_of_nonneg (by omega)];omega
 refine Fn.enter [0] Tryz.func76 rfl rfl rfl λX F hX=>?_;refine J.q hX λ_=>?_;refine J.cb hX (f_May d b p) [] ?_;refine cpq ⟨_,rfl,trivial,?_⟩;rw[h];refine J.q hX λ_=>?_;refine J.cF ?_;refine J.q hX λ_=>?_;exact J.ru hX [] ⟨rfl,rfl⟩
theorem l6_begun:Fn Tryz.prog 305 [] [] (λv As=>v= .bool true/\As=[]):=by
 refine Fn.enter [] Tryz.func305 rfl rfl rfl λX F hX=>?_;refine J.q hX λ_=>?_;refine J.cb hX (l1_Begun) [] ?_;refine cpq ⟨_,rfl,trivial,?_⟩;refine J.q hX λ_=>?_;refine J.cb hX (f_May 3 8 2) [] ?_;refine cpq ⟨_,rfl,trivial,?_⟩;rw[show geoMay 3 8 2=true from rfl];refine J.q hX λ_=>?_;refine J.cb hX (f_May 0 0 0) [] ?_;refine cpq ⟨_,rfl,trivial,?_⟩;rw[show geoMay 0 0 0=false from rfl];refine J.q hX λ_=>?_;refine J.cb hX (f_In 3 8 2 2 7 1 (by decide) (by decide) (by decide)) [] ?_;refine cpq ⟨_,rfl,trivial,?_⟩;rw[show geoIn 3 8 2 2 7 1=true from rfl];refine J.q hX λ_=>?_;refine J.cb hX (f_In 3 8 2 3 0 0 (by decide) (by decide) (by decide)) [] ?_;refine cpq ⟨_,rfl,trivial,?_⟩;rw[show geoIn 3 8 2 3 0 0=false from rfl];refine J.q hX λ_=>?_;refine J.cb hX (g_Parity 7 1 1) [] ?_;refine cpq ⟨_,rfl,trivial,?_⟩;rw[show G.parity 7 1 1=2 from by kernel_rfl];refine J.q hX λ_=>?_;refine J.cb hX (g_Slots 7) [] ?_;refine cpq ⟨_,rfl,trivial,?_⟩;rw[show G.slots 7=2 from by kernel_rfl];refine J.q hX λ_=>?_;refine J.cb hX (g_Die 7 0 0 0 (by decide) (by decide)) [] ?_;refine cpq ⟨_,rfl,trivial,?_⟩;rw[show G.die 7 0 0 0=1 from by kernel_rfl];refine J.q hX λ_=>?_;refine J.cb hX (g_Slot 7 0 0 2) [] ?_;refine cpq ⟨_,rfl,trivial,?_⟩;rw[show G.slot 7 0 0 2=1 from by kernel_rfl];refine J.q hX λ_=>?_;refine J.cb hX (g_Slot 7 0 0 0) [] ?_;refine cpq ⟨_,rfl,trivial,?_⟩;rw[show G.slot 7 0 0 0= -1 from by kernel_rfl];refine J.q hX λ_=>?_;refine J.cb hX (g_Logical 3 8 2 rfl) [] ?_;refine cpq ⟨_,rfl,trivial,?_⟩;refine J.q hX λ_=>?_;refine J.ru hX [] ?_;exact⟨by kernel_rfl,rfl⟩
theorem l6_Begun:Fn Tryz.prog 297 [] [] (λv As=>v= .bool true/\As=[]):=by
 refine Fn.enter [] Tryz.func297 rfl rfl rfl λX F hX=>?_;refine J.q hX λ_=>?_;refine J.cb hX (l6_begun) [] ?_;refine cpq ⟨_,rfl,trivial,?_⟩;refine J.q hX λ_=>?_;exact J.ru hX [] ⟨rfl,rfl⟩
def ft (a k d n x:Int):List Value:=[.int .i64 a, .int .i64 k, .int .i64 d, .int .i64 0, .int .i64 0, .int .i64 n, .int .i64 x]
theorem q_May0:Fn Tryz.prog 146 [.agg #[.int .i64 3, .int .i64 8, .int .i64 2], .agg (ft 3 4 2 0 0).toArray] [] (λv As=>v= .bool true/\As=[]):=by
 refine Fn.enter [0,0] Tryz.func146 rfl rfl rfl λX F hX=>?_;refine J.q hX λ_=>?_;refine J.cT ?_;refine J.q hX λ_=>?_;refine J.cb hX (f_In 3 8 2 2 0 0 (by decide) (by decide) (by decide)) [] ?_;refine cpq ⟨_,rfl,trivial,?_⟩;refine J.q hX λ_=>?_;exact J.ru hX [] ⟨rfl,rfl⟩
theorem q_May1:Fn Tryz.prog 146 [.agg #[.int .i64 3, .int .i64 8, .int .i64 2], .agg (ft (-1) 0 0 0 0).toArray] [] (λv As=>v= .bool false/\As=[]):=by
 refine Fn.enter [0,0] Tryz.func146 rfl rfl rfl λX F hX=>?_;refine J.q hX λ_=>?_;refine J.cT ?_;refine J.q hX λ_=>?_;refine J.val hX (.bool false) 0 rfl rfl (λhg a w he hw=>absurd hg (by decide)) rfl trivial ?_;refine J.q hX λ_=>?_;exact J.ru hX [] ⟨rfl,rfl⟩
theorem q_Sort1 (a:Option Addr) (c:Nat) (d:Value):Fn Tryz.prog 245 [.slice a 1 c, .int .i64 0, .int .i64 1,d] [] (λv As=>v= .tuple #[]/\As=[]):=by
 refine Fn.enter [0,0,0,0] Tryz.func245 rfl rfl rfl λX F hX=>?_;refine J.q hX λ_=>?_;refine J.lo (α:=Nat) (λk=>True) (λk=>[⟨8, .int .i64 1,0, .tt⟩,⟨2, .int .i64 1,0, .tt⟩]) [] (λk=>[]) (λk=>0) (0) (trivial) rfl ?_ (λ_=>rfl) λk hI=>?_
 ·rfl
 refine J.q hX λ_=>?_;refine J.cF ?_;refine J.q hX λ_=>?_;refine J.fi hX tk [] rfl rfl rfl ?_;exact⟨rfl,rfl⟩
theorem q_Stable (a:Option Addr) (c:Nat) (d:Value):Fn Tryz.prog 207 [.slice a 1 c, .int .i64 1,d] [] (λv As=>v= .tuple #[]/\As=[]):=by
 refine Fn.enter [0,0,0] Tryz.func207 rfl rfl rfl λX F hX=>?_;refine J.q hX λ_=>?_;refine J.lo (α:=Nat) (λk=>True) (λk=>[⟨8, .int .i64 20,0, .tt⟩,⟨6, .int .i64 20,0, .tt⟩,⟨7, .int .i64 0,0, .tt⟩,⟨0, .slice a 1 c,0, .tt⟩,⟨1, .int .i64 1,0, .tt⟩,⟨2,d,0, .tt⟩]) [] (λk=>[]) (λk=>0) (0) (trivial) rfl ?_ (λ_=>rfl) λk hI=>?_
 ·rfl
 refine J.q hX λ_=>?_;refine J.cF ?_;refine J.q hX λ_=>?_;refine J.cb hX (q_Sort1 a c d) [] ?_;refine cpq ⟨_,rfl,trivial,?_⟩;refine J.q hX λ_=>?_;refine J.lo (α:=Nat) (λk=>True) (λk=>[⟨6, .int .i64 20,0, .tt⟩,⟨1, .int .i64 1,0, .tt⟩]) [] (λk=>[]) (λk=>0) (0) (trivial) rfl ?_ (λ_=>rfl) λk hI=>?_
 ·rfl
 refine J.q hX λ_=>?_;refine J.cF ?_;refine J.q hX λ_=>?_;refine J.fi hX tk [] rfl rfl rfl ?_;exact⟨rfl,rfl⟩
theorem q_SortStable (a:Option Addr) (c:Nat) (d:Value):Fn Tryz.prog 147 [.slice a 1 c,d] [] (λv As=>v= .tuple #[]/\As=[]):=by
 refine Fn.enter [0,0] Tryz.func147 rfl rfl rfl λX F hX=>?_;refine J.q hX λ_=>?_;refine J.cb hX (q_Stable a c d) [] ?_;refine cpq ⟨_,rfl,trivial,?_⟩;refine J.q hX λ_=>?_;refine J.fi hX tk [] rfl rfl rfl ?_;exact⟨rfl,rfl⟩
def fk (k:Nat):List Value:=match k with | 0=>[] | _=>ft 3 4 2 0 0
theorem q_New (g:Nat):Fn Tryz.prog 96 [.agg #[.int .i64 3, .int .i64 8, .int .i64 2], .slice (some ⟨g,0,none⟩) 2 2] [.pt g 34 (ft 3 4 2 0 0++ft (-1) 0 0 0 0)]
  (λv As=>∃p a c,v= .pointer (some ⟨p,0,none⟩)/\As=[.pt p 235 [slv a 1 c],ownA 34 7 a 1 c (ft 3 4 2 0 0)]):=by
 refine Fn.enter [0,2] Tryz.func96 rfl rfl rfl λX F hX=>?_;refine J.q hX λbb=>?_;refine J.turn1 [] rfl (As:=[ownA 34 7 none 0 0 (fk 0)]) (λh s=>Sep.one ⟨rfl,rfl,rfl⟩) rfl ?_;refine J.q hX λ_=>?_;refine J.lo (α:=(Nat×Option Nat×Nat)) (λz=>z.1<=2) (λz=>[⟨12, .int .i64 z.1,0, .tt⟩,⟨11, .int .i64 2,0, .tt⟩,⟨10, .slice (some ⟨g,0,none⟩) 2 2,2, .tt⟩,⟨2, .pointer (some ⟨bb 0,0,none⟩),3, .tt⟩,⟨5, .pointer (some ⟨bb 1,0,none⟩),4, .tt⟩]) [3,4] (λz=>[.pt (bb 1) 235 [slv z.2.1 (nk z.1) z.2.2],ownA 34 7 z.2.1 (nk z.1) z.2.2 (fk z.1)]) (λz=>2-z.1) ((0,none,0)) (Nat.zero_le _) rfl ?_ (λ_=>rfl) λz hI=>?_
 ·rfl
 obtain⟨k,a,c⟩:=z;dsimp only at hI ⊢;rcases(by omega:k=0\/k=1\/k=2)with rfl | rfl | rfl
 ·refine J.q hX λ_=>?_;refine J.cT ?_;refine J.q hX λ_=>?_;refine J.val hX (.agg (ft 3 4 2 0 0).toArray) 0 rfl rfl (λhg a w he hw=>loadN_run tk rfl rfl he rfl rfl rfl (hw.get (i:=1) rfl) rfl rfl) rfl trivial ?_;refine J.q hX λ_=>?_;refine J.cb hX (q_May0) [] ?_;refine cpq ⟨_,rfl,trivial,?_⟩;refine J.q hX λ_=>?_;refine J.cT ?_;refine J.q hX λ_=>?_;refine J.plan (.of [0,4,8,12,17,21,26,30,32,36,43]) [8,9,10] [3,5] (by rw[hX.hP];kernel_rfl) (by kernel_rfl) ?_;refine J.q hX λ_=>?_;refine J.append hX tk 4 6 0 rfl rfl rfl rfl rfl rfl rfl rfl rfl rfl rfl rfl rfl rfl rfl rfl (by decide) (by decide) (λ_=>rfl) λa2 c2=>⟨_,rfl,⟨rfl,rfl,trivial⟩,?_⟩;refine J.q hX λ_=>?_;refine J.nS ((1,a2,c2)) (by dsimp only;omega) (by dsimp only;omega) [0,1,2,3,4] rfl rfl
 ·refine J.q hX λ_=>?_;refine J.cT ?_;refine J.q hX λ_=>?_;refine J.val hX (.agg (ft (-1) 0 0 0 0).toArray) 0 rfl rfl (λhg a w he hw=>loadN_run tk rfl rfl he rfl rfl rfl (hw.get (i:=1) rfl) rfl rfl) rfl trivial ?_;refine J.q hX λ_=>?_;refine J.cb hX (q_May1) [] ?_;refine cpq ⟨_,rfl,trivial,?_⟩;refine J.q hX λ_=>?_;refine J.cF ?_;refine J.q hX λ_=>?_;refine J.nS ((2,a,c)) (by dsimp only;omega) (by dsimp only;omega) [0,1,2,3,4] rfl rfl
 ·refine J.q hX λ_=>?_;refine J.cF ?_;refine J.q hX λ_=>?_;refine J.cb hX (q_SortStable (oad a) c (.func (.func 148) #[] #[])) [] ?_;refine cpq ⟨_,rfl,trivial,?_⟩;refine J.q hX λ_=>?_;refine J.ru hX [3,4] ?_;exact⟨bb 1,a,c,rfl,rfl⟩
theorem q_Left (p:Nat) (a:Option Addr) (n c:Nat):Fn Tryz.prog 298 [.pointer (some ⟨p,0,none⟩)] [.pt p 235 [.slice a n c]] (λv As=>v= .int .i64 n/\As=[.pt p 235 [.slice a n c]]):=by
 refine Fn.enter [2] Tryz.func298 rfl rfl rfl λX F hX=>?_;refine J.q hX λ_=>?_;refine J.cF ?_;refine J.q hX λ_=>?_;exact J.ru hX [1] ⟨rfl,rfl⟩
theorem q_Dies (g:Nat):Fn Tryz.prog 299 [.slice (some ⟨g,0,none⟩) 1 1] [.pt g 34 (ft 0 0 2 0 0)] (λv As=>v= .int .i64 4/\As=[]):=by
 refine Fn.enter [2] Tryz.func299 rfl rfl rfl λX F hX=>?_;refine J.q hX λ_=>?_;refine J.lo (α:=Nat) (λk=>k<=1) (λk=>[⟨8, .int .i64 k,0, .tt⟩,⟨7, .int .i64 1,0, .tt⟩,⟨6, .slice (some ⟨g,0,none⟩) 1 1,2, .tt⟩,⟨3, .int .i64 (4*k),0, .tt⟩]) [] (λk=>[]) (λk=>1-k) (0) (Nat.zero_le _) rfl ?_ (λ_=>rfl) λk hI=>?_
 ·rfl
 rcases(by omega:k=0\/k=1)with rfl | rfl
 ·refine J.q hX λ_=>?_;refine J.cT ?_;refine J.q hX λ_=>?_;refine J.val hX (.agg (ft 0 0 2 0 0).toArray) 0 rfl rfl (λhg a w he hw=>loadN_run tk rfl rfl he rfl rfl rfl (hw.get (i:=1) rfl) rfl rfl) rfl trivial ?_;refine J.q hX λ_=>?_;refine J.cb hX (l_With 0 2) [] ?_;refine cpq ⟨_,rfl,trivial,?_⟩;refine J.q hX λ_=>?_;refine J.nS (1) (by omega) (by omega) [0,1] rfl rfl
 ·refine J.q hX λ_=>?_;refine J.cF ?_;refine J.q hX λ_=>?_;exact J.ru hX [] ⟨rfl,rfl⟩
theorem f6_May (d b p:Nat) (h:geoMay d b p=true):Fn Tryz.prog 61 [.agg #[.int .i64 d, .int .i64 b, .int .i64 p]] [] (λv As=>v= .bool true/\As=[]):=by
 have hbd:(3<=d/\d<=6)/\(8<=b/\b<=16)/\(2<=p/\p<=8):=by simp[geoMay]at h;omega
 refine Fn.enter [0] Tryz.func61 rfl rfl rfl λX F hX=>?_;refine J.q hX λ_=>?_;refine J.ru hX [] ?_;refine⟨?_,rfl⟩;simp;omega
def lgN (d b p:Nat):Nat:=((b-5)*p*(d-2)+1)/2
theorem lgN_eq (d b p:Nat) (hd:2<=d) (hb:5<=b):(((b:Int)-5)*p*((d:Int)-2)+1).tdiv 2=(lgN d b p:Int):=by
 have e1:(b:Int)-5=((b-5:Nat):Int):=by omega
 have e2:(d:Int)-2=((d-2:Nat):Int):=by omega
 rw[e1,e2,<- Int.natCast_mul,<- Int.natCast_mul,show(((b-5)*p*(d-2):Nat):Int)+1=(((b-5)*p*(d-2)+1:Nat):Int)from by omega,Int.tdiv_eq_ediv_of_nonneg (by omega)];unfold lgN;omega
theorem f6_Logical (d b p:Nat) (h:geoMay d b p=true):Fn Tryz.prog 29 [.agg #[.int .i64 d, .int .i64 b, .int .i64 p]] [] (λv As=>v= .int .i64 (lgN d b p)/\As=[]):=by
 have hbd:(3<=d/\d<=6)/\(8<=b/\b<=16)/\(2<=p/\p<=8):=by simp[geoMay]at h;omega
 have h1:0<=((b:Int)-5)*p/\((b:Int)-5)*p<=88:=by
  refine⟨Int.mul_nonneg (by omega) (by omega),?_⟩;have:((b:Int)-5)*p<=11*8:=Int.mul_le_mul (by omega) (by omega) (by omega) (by omega);omega
 have h2:0<=((b:Int)-5)*p*((d:Int)-2)/\((b:Int)-5)*p*((d:Int)-2)<=352:=by
  refine⟨Int.mul_nonneg h1.1 (by omega),?_⟩;have:((b:Int)-5)*p*((d:Int)-2)<=88*4:=Int.mul_le_mul h1.2 (by omega) (by omega) (by omega);omega
 have h3: -1<=(((b:Int)-5)*p*((d:Int)-2)+1).tdiv 2/\(((b:Int)-5)*p*((d:Int)-2)+1).tdiv 2<=1000:=by
  generalize((b:Int)-5)*p*((d:Int)-2)=x at h2;rw[Int.tdiv_eq_ediv_of_nonneg (by omega)];omega
 refine Fn.enter [0] Tryz.func29 rfl rfl rfl λX F hX=>?_;refine J.q hX λ_=>?_;refine J.cb hX (f6_May d b p h) [] ?_;refine cpq ⟨_,rfl,trivial,?_⟩;refine J.q hX λ_=>?_;refine J.cF ?_;refine J.q hX λ_=>?_;refine J.ru hX [] ?_;exact⟨by rw[lgN_eq d b p (by omega) (by omega)],rfl⟩
theorem cellsE_set:∀(l:List En) (r:List Value) (k:Nat) (x:En),k<l.length->(cellsE l++r).take (k*19)++enL x++(cellsE l++r).drop (k*19+19)=cellsE (l.set k x)++r
 | [],_,_,_,h=>by simp at h
 | y::l,r,0,x,h=>by simp[cellsE,enL]
 | y::l,r,k+1,x,h=>by
  have:=cellsE_set l r k x (by simpa using h);have hy:(enL y).length=19:=rfl;have e1:cellsE (y::l)++r=enL y++(cellsE l++r):=by simp[cellsE]
  have e2:cellsE ((y::l).set (k+1) x)++r=enL y++(cellsE (l.set k x)++r):=by simp[cellsE]
  rw[e1,e2,<- this,show(k+1)*19=(enL y).length+k*19 from by omega,List.take_length_add_append,show(enL y).length+k*19+19=(enL y).length+(k*19+19)from by omega,<- List.drop_drop,List.drop_left' rfl];simp only[List.append_assoc]
theorem cellsE_len:∀l:List En,(cellsE l).length=l.length*19
 | []=>rfl
 | x::l=>by
  have:=cellsE_len l;have e1:cellsE (x::l)=enL x++cellsE l:=by simp[cellsE]
  have hy:(enL x).length=19:=rfl;rw[e1,List.length_append,this,hy,List.length_cons];omega
def idxE (p:En->Bool) (l:List En):Int:=match l.findIdx? p with
 | some k=>k
 | none=> -1
theorem idxE_step {p:En->Bool} {l:List En} {k:Nat} {x:En} (h:l[k]? =some x) (h0:∀i<k,p (l.getD i En.zero)=false) (hp:p x=true):l.findIdx? p=some k:=by
 rw[List.findIdx?_eq_some_iff_getElem];obtain⟨h1,h2⟩:=List.getElem?_eq_some_iff.1 h;refine⟨h1,by rw[h2];exact hp,λj hj=>?_⟩;have:=h0 j hj;rw[List.getD_eq_getElem?_getD,List.getElem?_eq_getElem (by omega),Option.getD_some]at this;simp[this]
theorem idxE_none {p:En->Bool} {l:List En} (h0:∀i<l.length,p (l.getD i En.zero)=false):l.findIdx? p=none:=by
 rw[List.findIdx?_eq_none_iff];intro x hx;obtain⟨i,hi,rfl⟩:=List.mem_iff_getElem.1 hx;have:=h0 i hi
 rwa [List.getD_eq_getElem?_getD,List.getElem?_eq_getElem hi,Option.getD_some]at this
theorem idxE_any (p:En->Bool) (l:List En):decide (idxE p l>=0)=l.any p:=by
 unfold idxE;cases h:l.findIdx? p with
 | none=>
  rw[List.findIdx?_eq_none_iff]at h;have:l.any p=false:=by rw[List.any_eq_false];exactλx hx=>by simp[h x hx]
  rw[this];rfl
 | some k=>
  rw[List.findIdx?_eq_some_iff_getElem]at h;obtain⟨h1,h2,_⟩:=h;have:l.any p=true:=List.any_eq_true.2 ⟨l[k],List.getElem_mem _,h2⟩;rw[this];simp
theorem x_IndexE (c:Nat) (cs:List Value) (p:En->Bool) (A:Atom) (hcal:callable Tryz.prog c=true) (l:List En) (hf:∀x∈l,Fn Tryz.prog c (enV x::cs) [A] (λv As=>v= .bool (p x)/\As=[A]))
  (a:Option Nat) (n cap:Nat) (hl:l.length=n) (hn:n<=4611686018427387904):Fn Tryz.prog 133 [slv a n cap,fnC c cs] [ownA 133 19 a n cap (cellsE l),A]
  (λv As=>v= .int .i64 (idxE p l)/\As=[ownA 133 19 a n cap (cellsE l),A]):=by
 refine Fn.enter [0,0] Tryz.func133 rfl rfl rfl λX F hX=>?_;refine J.q hX λ_=>?_;refine J.lo (α:=Nat) (λk=>k<=n/\∀i<k,p (l.getD i En.zero)=false) (λk=>[⟨8, .int .i64 k,0, .tt⟩,⟨7, .int .i64 n,0, .tt⟩,⟨0,slv a n cap,0, .tt⟩,⟨1,fnC c cs,0, .tt⟩]) [] (λk=>[]) (λk=>n-k) (0) (⟨by omega,by omega⟩) rfl ?_ (λ_=>rfl) λk hI=>?_
 ·rfl
 refine J.q hX λ_=>?_;refine J.cond rfl (λh1=>?_) (λh1=>?_)
 ·simp only[decide_eq_true_eq,Int.ofNat_lt]at h1;cases a with
  | none=>
   refine J.know (λh' s=>(s.get (i:=1) rfl).2.1) λhn0=>?_;omega
  | some g=>
   have hk:l[k]? =some (l.getD k En.zero):=by rw[List.getD_eq_getElem?_getD,List.getElem?_eq_getElem (by omega),Option.getD_some]
   refine J.q hX λ_=>?_;refine J.val hX (enV (l.getD k En.zero)) 0 rfl rfl (λhg a w he hs=>?_) rfl trivial ?_
   ·exact ownN_run tk rfl rfl he rfl rfl rfl (hs.get (i:=1) rfl) (by rw[show 0+(k:Int).toNat*19=k*19 from by omega];have:=cellsE_at l [] k _ hk;rwa [List.append_nil]at this) rfl
   refine J.q hX λ_=>?_;refine J.call hX hcal (hf (l.getD k En.zero) (List.mem_of_getElem? hk)) [2] 0 rfl rfl rfl rfl (by(repeat' (first | exact Conj.nil | refine Conj.cons ?_ ?_ | omega | exact hq0 | (simpa using hq0) | (exactλh=>h) | exact rfl | (intro hq;have hq0:=hq;try simp only[Bool.and_eq_true,Bool.or_eq_true,decide_eq_true_eq,Bool.not_eq_true',decide_eq_false_iff_not]at hq) | (simp;done) | (simp;omega) | decide))) rfl rfl (λ_=>rfl) ?_;refine cpq ⟨_,rfl,trivial,?_⟩;refine J.q hX λ_=>?_;refine J.cond rfl (λh2=>?_) (λh2=>?_)
   ·refine J.q hX λ_=>?_;refine J.ru hX [1,2] ?_;exact⟨by rw[idxE,idxE_step hk hI.2 h2],rfl⟩
   ·refine J.q hX λ_=>?_;refine J.nx (k+1) (⟨by omega,λi hi=>by
     rcases Nat.lt_succ_iff_lt_or_eq.1 hi with h3 | h3
     ·exact hI.2 i h3
     ·rw[h3];exact h2⟩) (by omega) (λ_ s=>s)
 ·simp only[decide_eq_false_iff_not,Int.ofNat_lt]at h1;refine J.q hX λ_=>?_;refine J.ru hX [1,2] ?_;exact⟨by rw[idxE,idxE_none (λi hi=>hI.2 i (by omega))],rfl⟩
theorem cellsE_one (l:List En):∀u∈cellsE l,u.oneCell'=true:=by
 intro u hu;simp only[cellsE,List.mem_flatMap]at hu;obtain⟨s,_,hu⟩:=hu;simp only[enL,List.mem_cons,List.not_mem_nil,or_false]at hu;rcases hu with rfl | rfl | rfl | rfl | rfl | rfl | rfl | rfl | rfl | rfl | rfl | rfl | rfl | rfl | rfl | rfl | rfl | rfl | rfl<;>rfl
def DelE (p:En->Bool) (l m:List En) (i j:Nat):Prop:=m.length=l.length/\i<j/\j<=l.length/\m.drop j=l.drop j/\m.take i++(l.drop j).filter (λx=>!p x)=l.filter (λx=>!p x)
theorem DelE.start {p:En->Bool} {l:List En} {k:Nat} (h:l.findIdx? p=some k):DelE p l l k (k+1):=by
 rw[List.findIdx?_eq_some_iff_getElem]at h;obtain⟨h1,h2,h3⟩:=h;refine⟨rfl,by omega,by omega,rfl,?_⟩;have e:l=l.take k++l[k]::l.drop (k+1):=by rw[<- List.drop_eq_getElem_cons h1,List.take_append_drop]
 have e2:(l.take k).filter (λx=>!p x)=l.take k:=by
  rw[List.filter_eq_self];intro x hx;obtain⟨i,hi,rfl⟩:=List.mem_iff_getElem.1 hx;rw[List.getElem_take];have:=h3 i (by simp at hi;omega);simpa using this
 conv=>rhs;rw[e]
 rw[List.filter_append,e2,List.filter_cons_of_neg (by simp[h2])]
theorem DelE.skip {p:En->Bool} {l m:List En} {i j:Nat} (h:DelE p l m i j) (hj:j<l.length) (hp:p (m.getD j En.zero)=true):DelE p l m i (j+1):=by
 obtain⟨h1,h2,h3,h4,h5⟩:=h;have e1:m[j]? =l[j]?:=by have:=congrArg (λz=>z[0]?) h4;simpa using this
 have hx:l[j]=m.getD j En.zero:=by rw[List.getD_eq_getElem?_getD,e1,List.getElem?_eq_getElem hj,Option.getD_some]
 refine⟨h1,by omega,by omega,?_,?_⟩
 ·have:=congrArg (List.drop 1) h4;simpa[List.drop_drop]using this
 ·rw[<- h5,List.drop_eq_getElem_cons hj,List.filter_cons_of_neg (by rw[hx,hp];simp)]
theorem DelE.keep {p:En->Bool} {l m:List En} {i j:Nat} (h:DelE p l m i j) (hj:j<l.length) (hp:p (m.getD j En.zero)=false):DelE p l (m.set i (m.getD j En.zero)) (i+1) (j+1):=by
 obtain⟨h1,h2,h3,h4,h5⟩:=h;have e1:m[j]? =l[j]?:=by have:=congrArg (λz=>z[0]?) h4;simpa using this
 have hx:l[j]=m.getD j En.zero:=by rw[List.getD_eq_getElem?_getD,e1,List.getElem?_eq_getElem hj,Option.getD_some]
 refine⟨by simp[h1],by omega,by omega,?_,?_⟩
 ·rw[List.drop_set_of_lt (by omega)];have:=congrArg (List.drop 1) h4;simpa[List.drop_drop]using this
 ·rw[<- h5,List.drop_eq_getElem_cons hj,List.filter_cons_of_pos (by rw[hx,hp];simp),hx,List.take_set,List.take_add_one,List.getElem?_eq_getElem (by omega)];rw[List.set_append_right _ _ (by simp;omega)];simp[List.length_take,Nat.min_eq_left (show i<=m.length by omega)]
theorem x_DeleteE (c:Nat) (cs:List Value) (p:En->Bool) (A:Atom) (hcal:callable Tryz.prog c=true) (hf:∀x,Fn Tryz.prog c (enV x::cs) [A] (λv As=>v= .bool (p x)/\As=[A]))
  (a:Option Nat) (n cap:Nat) (l:List En) (hl:l.length=n) (hn:n<=4611686018427387904):Fn Tryz.prog 198 [slv a n cap,fnC c cs] [ownA 133 19 a n cap (cellsE l),A]
  (λv As=>∃l',l'=l.filter (λx=>!p x)/\v=slv a l'.length cap/\As=[ownA 133 19 a l'.length cap (cellsE l'),A]):=by
 refine Fn.enter [0,0] Tryz.func198 rfl rfl rfl λX F hX=>?_;refine J.q hX λ_=>?_;refine J.cb hX (x_IndexE c cs p A hcal l (λx _=>hf x) a n cap hl hn) [1,2] ?_;refine cpq ⟨_,rfl,trivial,?_⟩;rw[idxE];cases hx:l.findIdx? p with
 | none=>
  dsimp only;refine J.q hX λ_=>?_;refine J.cT ?_;refine J.q hX λ_=>?_;refine J.ru hX [1,2] ?_;have:l.filter (λx=>!p x)=l:=by
   rw[List.filter_eq_self];intro x hm;rw[List.findIdx?_eq_none_iff]at hx;simp[hx x hm]
  exact⟨l,this.symm,by rw[hl],by rw[hl];rfl⟩
 | some k=>
  dsimp only;refine J.q hX λ_=>?_;refine J.cond rfl (λh0=>?_) (λh0=>?_)
  ·simp only[beq_iff_eq]at h0;omega
  have hk:k<n:=by rw[List.findIdx?_eq_some_iff_getElem]at hx;obtain⟨h1,_⟩:=hx;omega
  cases a with
  | none=>
   refine J.know (λh' s=>(s.get (i:=1) rfl).2.1) λhn0=>?_;omega
  | some g=>
   refine J.openOwn 1 rfl rfl (λ_=>rfl) λr q1 q2 q3 q4=>?_;refine J.q hX λ_=>?_;rw[show(k:Int)+1=((k+1:Nat):Int)from by omega];refine J.q hX λ_=>?_;refine J.lo (α:=(Nat×Nat×List En)) (λx=>DelE p l x.2.2 x.1 x.2.1) (λx=>[⟨6, .int .i64 x.2.1,0, .tt⟩,⟨5, .int .i64 x.1,0, .tt⟩,⟨0,slv (some g) n cap,0, .tt⟩,⟨1,fnC c cs,0, .tt⟩]) [1] (λx=>[.pt g 133 (cellsE x.2.2++r)]) (λx=>n-x.2.1) ((k,k+1,l)) (DelE.start hx) rfl ?_ (λ_=>rfl) λx hI=>?_
   ·rfl
   obtain⟨i,j,m⟩:=x;dsimp only at hI ⊢;have hml:m.length=n:=hI.1.trans hl;have hij:i<j:=hI.2.1;have hjn:j<=n:=by have:=hI.2.2.1;omega
   refine J.q hX λ_=>?_;refine J.cond rfl (λh1=>?_) (λh1=>?_)
   ·simp only[decide_eq_true_eq,Int.ofNat_lt]at h1;have hget:m[j]? =some (m.getD j En.zero):=by rw[List.getD_eq_getElem?_getD,List.getElem?_eq_getElem (by omega),Option.getD_some]
    refine J.q hX λ_=>?_;refine J.val hX (enV (m.getD j En.zero)) 0 rfl rfl (λhg a w he hs=>?_) rfl trivial ?_
    ·exact loadN_run tk rfl rfl he rfl rfl rfl (hs.get (i:=1) rfl) (by rw[show 0+(j:Int).toNat*19=j*19 from by omega];exact cellsE_at m r _ _ hget) rfl
    refine J.q hX λ_=>?_;refine J.call hX hcal (hf (m.getD j En.zero)) [2] 0 rfl rfl rfl rfl (by(repeat' (first | exact Conj.nil | refine Conj.cons ?_ ?_ | omega | exact hq0 | (simpa using hq0) | (exactλh=>h) | exact rfl | (intro hq;have hq0:=hq;try simp only[Bool.and_eq_true,Bool.or_eq_true,decide_eq_true_eq,Bool.not_eq_true',decide_eq_false_iff_not]at hq) | (simp;done) | (simp;omega) | decide))) rfl rfl (λ_=>rfl) ?_;refine cpq ⟨_,rfl,trivial,?_⟩;refine J.q hX λ_=>?_;refine J.cond rfl (λh2=>?_) (λh2=>?_)
    ·simp only[Bool.not_eq_true']at h2;refine J.q hX λ_=>?_;refine J.storeN hX tk 1 rfl rfl rfl rfl rfl rfl rfl rfl rfl rfl rfl rfl rfl ?_ (cellsE (m.set i (m.getD j En.zero))++r) ?_ rfl (λ_=>rfl) ⟨trivial,?_⟩
     ·rw[List.length_append,cellsE_len];show 0+(i:Int).toNat*19+19<=_;omega
     ·rw[show 0+(i:Int).toNat*19=i*19 from by omega];exact cellsE_set m r i _ (by omega)
     refine J.q hX λ_=>?_;refine J.nS ((i+1,j+1,m.set i (m.getD j En.zero))) (hI.keep (by omega) h2) (by dsimp only;omega) [0,1,2] rfl rfl
    ·simp only[Bool.not_eq_false']at h2;refine J.q hX λ_=>?_;refine J.nS ((i,j+1,m)) (hI.skip (by omega) h2) (by dsimp only;omega) [0,1,2] rfl rfl
   ·simp only[decide_eq_false_iff_not,Int.ofNat_lt]at h1;obtain rfl:j=n:=by omega
    have hfil:m.take i=l.filter (λx=>!p x):=by
     have h5:=hI.2.2.2.2;rw[List.drop_of_length_le (by omega)]at h5;simpa using h5
    refine J.q hX λ_=>?_;refine J.clear hX tk 1 rfl rfl rfl rfl rfl rfl rfl rfl rfl rfl rfl ?_ (λ_=>rfl) (λ_=>rfl) λcs' z1 z2=>⟨trivial,?_⟩
    ·rw[List.length_append,cellsE_len];rw[cellsE_len]at q4;show 0+(i:Int).toNat*19+(j-(i:Int).toNat)*19<=_;have:(i:Int).toNat=i:=by omega
     rw[this];omega
    have hilen:(l.filter (λx=>!p x)).length=i:=by rw[<- hfil,List.length_take];omega
    refine J.closeOwn (e:=133) (size:=19) (n:=i) (cap:=cap) (xs:=cellsE (l.filter (λx=>!p x))) 1 rfl rfl (by rw[cellsE_len,hilen]) (by omega) q3 (by rw[z1,List.length_append,cellsE_len,hml];rw[cellsE_len,hl]at q4;exact q4) ?_ rfl ?_
    ·have z3:(0+(i:Int).toNat*19)=i*19:=by omega
     rw[z3]at z2;rw[z2,<- hfil];have e:cellsE m=cellsE (m.take i)++cellsE (m.drop i):=by
      conv=>lhs;rw[<- List.take_append_drop i m]
      simp only[cellsE,List.flatMap_append]
     rw[e,List.append_assoc,List.take_left' (by rw[cellsE_len,List.length_take,Nat.min_eq_left (by omega)])]
    refine J.q hX λ_=>?_;refine J.ru hX [1,2] ?_;exact⟨_,rfl,by rw[hilen];rfl,by rw[hilen];rfl⟩
theorem cutE_run {E:Env} {n:Nat} {ac:Act} {w:World} {o:Oper} {x y:Operand} {k1 k2 t1 t2:Nat} {g1 g2:G} {a:Option Addr} {m c h:Nat} {kk:IntKind} {hI:Int} (hop:o.op= .slice 115 x none (some y) none) (hx:ev E x=some ⟨k1, .slice a m c,t1,g1⟩) (hy:ev E y=some ⟨k2, .int kk hI,t2,g2⟩) (he:EnvOK n E ac) (v1:g1.on=true) (v2:g2.on=true) (hh:hI=(h:Int)) (hc:h<=c):
  (execOp ac.eval o).run Tryz.prog w= .ok (.value (.slice a h c)) w:=by
 subst hh;have e1:=ev_spec he hx;have e2:=ev_spec he hy;simp only[Slot.val,v1,v2]at e1 e2;obtain⟨d,f,zv,ok⟩:=tiOf_spec (tk.get (t:=115) rfl);obtain⟨fe,rfl,g1,g2⟩:=ok.slice rfl;have h0:∀ad:Addr,ad.add 0=ad:=λad=>by unfold Addr.add;rw[if_pos rfl]
 cases a with
 | none=>
  simp only[execOp,hop,Option.map_some,Option.map_none,e1,e2,Instr.sliceAt,Instr.slice,Instr.sliceBounds,Instr.sliceBound,asIntOf,Sem.run_bind,Sem.run_pure,Result.andThen_ok,underlying_run ok.hd,sizeOf_run g1,g2];simp[hc,h0]
 | some ad=>
  simp only[execOp,hop,Option.map_some,Option.map_none,e1,e2,Instr.sliceAt,Instr.slice,Instr.sliceBounds,Instr.sliceBound,asIntOf,Sem.run_bind,Sem.run_pure,Result.andThen_ok,underlying_run ok.hd,sizeOf_run g1,g2];simp[hc,h0]
theorem ownP_cap {e size:Nat} {a:Option Nat} {n cap:Nat} {xs:List Value} {h:Hl} (s:ownP e size a n cap xs h):n<=cap:=by
 obtain⟨_,s⟩:=s;cases a with
 | none=>obtain⟨rfl,rfl⟩:=s;exact Nat.le_refl _
 | some g=>obtain⟨_,_,h,_⟩:=s;exact h
theorem cellsE_take' (l:List En):∀k,(cellsE l).take (k*19)=cellsE (l.take k):=by
 induction l with
 | nil=>intro k;simp[cellsE]
 | cons x l ih=>
  intro k;cases k with
  | zero=>simp[cellsE]
  | succ k=>
   have e1:cellsE (x::l)=enL x++cellsE l:=by simp[cellsE]
   have e2:cellsE (x::l.take k)=enL x++cellsE (l.take k):=by simp[cellsE]
   rw[e1,List.take_succ_cons,e2,<- ih k,show(k+1)*19=(enL x).length+k*19 from by show _=19+k*19;omega,List.take_length_add_append]
theorem cellsE_snoc (l:List En) (e:En):cellsE l++enL e=cellsE (l++[e]):=by simp[cellsE]
theorem x_CloneP (a:Option Nat) (N cap cap2 k:Nat) (l:List En) (hl:l.length=N) (hk:k<=N) (hn:N<=1000000):Fn Tryz.prog 200 [slv a k cap2] [ownA 133 19 a N cap (cellsE l)]
  (λv As=>∃a' c',v=slv a' k c'/\As=[ownA 133 19 a N cap (cellsE l),ownA 133 19 a' k c' (cellsE (l.take k))]):=by
 refine Fn.enter [0] Tryz.func200 rfl rfl rfl λX F hX=>?_;cases a with
 | none=>
  refine J.know (λh' s=>(s.get (i:=1) rfl).2) λhn0=>?_;obtain⟨rfl,rfl⟩:=hn0;obtain rfl:k=0:=by omega
  have:l=[]:=List.eq_nil_of_length_eq_zero hl;subst this;refine J.q hX λ_=>?_;refine J.cT ?_;refine J.turn1 [] rfl (As:=[ownA 133 19 none 0 0 (cellsE [])]) (λh s=>Sep.one ⟨rfl,rfl,rfl⟩) rfl ?_;refine J.q hX λ_=>?_;refine J.ru hX [1,2] ?_;exact⟨none,0,rfl,rfl⟩
 | some g=>
  refine J.q hX λ_=>?_;refine J.cF ?_;refine J.qn hX 5 λbb=>?_;refine J.closeOwn (e:=133) (size:=19) (n:=0) (cap:=0) (xs:=[]) 2 rfl rfl rfl (Nat.le_refl _) (Nat.zero_le _) rfl rfl rfl ?_;refine J.q hX λ_=>?_;have hRd:Rd (ownA 133 19 (some g) N cap (cellsE l)) (some ⟨g,0,none⟩) 19 k (cellsE (l.take k)):=by
   have:=(own_rd 133 19 (some g) N cap (cellsE l)).take k hk
   rwa [cellsE_take']at this
  refine J.appendR hX tk (a:=some (bb 0)) (n:=0) (cap:=0) (xs:=[]) (oo:=0) (Ay:=ownA 133 19 (some g) N cap (cellsE l)) 2 1 0 rfl rfl rfl rfl rfl rfl rfl rfl rfl rfl hRd rfl rfl rfl rfl (cellsE_one _) ?_ ?_ (λ_=>rfl) λa' c'=>⟨_,rfl,trivial,?_⟩
  ·simp only[maxLen];omega
  ·omega
  rw[Nat.zero_add k,List.nil_append];refine J.q hX λ_=>?_;refine J.ru hX [1,2] ?_;exact⟨a',c',rfl,rfl⟩
theorem x_IndexR (c:Nat) (cs:List Value) (p:En->Bool) (A B:Atom) (hcal:callable Tryz.prog c=true) (l:List En) (hf:∀x∈l,Fn Tryz.prog c (enV x::cs) [A] (λv As=>v= .bool (p x)/\As=[A]))
  (a:Option Addr) (n cap:Nat) (hB:Rd B a 19 n (cellsE l)) (hl:l.length=n) (hn:n<=4611686018427387904):Fn Tryz.prog 133 [.slice a n cap,fnC c cs] [B,A]
  (λv As=>v= .int .i64 (idxE p l)/\As=[B,A]):=by
 refine Fn.enter [0,0] Tryz.func133 rfl rfl rfl λX F hX=>?_;refine J.q hX λ_=>?_;refine J.lo (α:=Nat) (λk=>k<=n/\∀i<k,p (l.getD i En.zero)=false) (λk=>[⟨8, .int .i64 k,0, .tt⟩,⟨7, .int .i64 n,0, .tt⟩,⟨0, .slice a n cap,0, .tt⟩,⟨1,fnC c cs,0, .tt⟩]) [] (λk=>[]) (λk=>n-k) (0) (⟨by omega,by omega⟩) rfl ?_ (λ_=>rfl) λk hI=>?_
 ·rfl
 refine J.q hX λ_=>?_;refine J.cond rfl (λh1=>?_) (λh1=>?_)
 ·simp only[decide_eq_true_eq,Int.ofNat_lt]at h1;refine J.know (p:=∃g o,a=some ⟨g,o,none⟩) (λh' s=>Rd.addr (hB _ (s.get (i:=1) rfl)) (by omega)) λhk=>?_;obtain⟨g,o,rfl⟩:=hk;have hk:l[k]? =some (l.getD k En.zero):=by rw[List.getD_eq_getElem?_getD,List.getElem?_eq_getElem (by omega),Option.getD_some]
  refine J.q hX λ_=>?_;refine J.val hX (enV (l.getD k En.zero)) 0 rfl rfl (λhg a w he hs=>?_) rfl trivial ?_
  ·exact rdN_run tk rfl rfl he rfl rfl rfl (hB _ (hs.get (i:=1) rfl)) (by omega) (j:=k*19) (by omega) (by have:=cellsE_at l [] k _ hk;rwa [List.append_nil]at this) rfl
  refine J.q hX λ_=>?_;refine J.call hX hcal (hf (l.getD k En.zero) (List.mem_of_getElem? hk)) [2] 0 rfl rfl rfl rfl (by(repeat' (first | exact Conj.nil | refine Conj.cons ?_ ?_ | omega | exact hq0 | (simpa using hq0) | (exactλh=>h) | exact rfl | (intro hq;have hq0:=hq;try simp only[Bool.and_eq_true,Bool.or_eq_true,decide_eq_true_eq,Bool.not_eq_true',decide_eq_false_iff_not]at hq) | (simp;done) | (simp;omega) | decide))) rfl rfl (λ_=>rfl) ?_;refine cpq ⟨_,rfl,trivial,?_⟩;refine J.q hX λ_=>?_;refine J.cond rfl (λh2=>?_) (λh2=>?_)
  ·refine J.q hX λ_=>?_;refine J.ru hX [1,2] ?_;exact⟨by rw[idxE,idxE_step hk hI.2 h2],rfl⟩
  ·refine J.q hX λ_=>?_;refine J.nx (k+1) (⟨by omega,λi hi=>by
    rcases Nat.lt_succ_iff_lt_or_eq.1 hi with h3 | h3
    ·exact hI.2 i h3
    ·rw[h3];exact h2⟩) (by omega) (λ_ s=>s)
 ·simp only[decide_eq_false_iff_not,Int.ofNat_lt]at h1;refine J.q hX λ_=>?_;refine J.ru hX [1,2] ?_;exact⟨by rw[idxE,idxE_none (λi hi=>hI.2 i (by omega))],rfl⟩
theorem x_ContainsR (c:Nat) (cs:List Value) (p:En->Bool) (A B:Atom) (hcal:callable Tryz.prog c=true) (l:List En) (hf:∀x∈l,Fn Tryz.prog c (enV x::cs) [A] (λv As=>v= .bool (p x)/\As=[A]))
  (a:Option Addr) (n cap:Nat) (hB:Rd B a 19 n (cellsE l)) (hl:l.length=n) (hn:n<=4611686018427387904):Fn Tryz.prog 202 [.slice a n cap,fnC c cs] [B,A]
  (λv As=>v= .bool (l.any p)/\As=[B,A]):=by
 refine Fn.enter [0,0] Tryz.func202 rfl rfl rfl λX F hX=>?_;refine J.q hX λ_=>?_;refine J.cb hX (x_IndexR c cs p A B hcal l hf a n cap hB hl hn) [1,2] ?_;refine cpq ⟨_,rfl,trivial,?_⟩;refine J.q hX λ_=>?_;refine J.ru hX [1,2] ?_;exact⟨by rw[<- idxE_any],rfl⟩
def DeskA (d:Nat) (L:List En):Atom:=exA λx:Option Nat×Nat=>[.pt d 204 [slv x.1 L.length x.2],ownA 133 19 x.1 L.length x.2 (cellsE L)]
theorem d_New:Fn Tryz.prog 78 [] [] (λv As=>∃d,v= .pointer (some ⟨d,0,none⟩)/\As=[DeskA d []]):=by
 refine Fn.enter [] Tryz.func78 rfl rfl rfl λX F hX=>?_;refine J.q hX λbs=>?_;refine J.turn1 [] rfl (As:=[ownA 133 19 none 0 0 (cellsE [])]) (λh s=>Sep.one ⟨rfl,rfl,rfl⟩) rfl ?_;refine J.close (f:=λx:Option Nat×Nat=>[.pt (bs 0) 204 [slv x.1 ([]:List En).length x.2],ownA 133 19 x.1 ([]:List En).length x.2 (cellsE [])]) (none,0) [1,2] rfl rfl rfl ?_;refine J.q hX λ_=>?_;refine J.ru hX [1] ?_;exact⟨bs 0,rfl,rfl⟩
theorem d_Len (d:Nat) (L:List En):Fn Tryz.prog 90 [.pointer (some ⟨d,0,none⟩)] [DeskA d L] (λv As=>v= .int .i64 L.length/\As=[DeskA d L]):=by
 refine Fn.enter [2] Tryz.func90 rfl rfl rfl λX F hX=>?_;refine J.open_ (α:=(Option Nat×Nat)) 1 rfl rfl (λ_=>rfl) λx=>?_;refine J.q hX λ_=>?_;refine J.cF ?_;refine J.q hX λ_=>?_;refine J.close (f:=λx:Option Nat×Nat=>[.pt d 204 [slv x.1 L.length x.2],ownA 133 19 x.1 L.length x.2 (cellsE L)]) x [1,2] rfl rfl rfl ?_;refine J.q hX λ_=>?_;exact J.ru hX [1] ⟨rfl,rfl⟩
theorem d_Put1 (b:Nat) (e x:En):Fn Tryz.prog 199 [enV x, .pointer (some ⟨b,0,none⟩)] [.pt b 133 (enL e)] (λv As=>v= .bool (x.lpn==e.lpn)/\As=[.pt b 133 (enL e)]):=by
 refine Fn.enter [0,2] Tryz.func199 rfl rfl rfl λX F hX=>?_;refine J.q hX λ_=>?_;exact J.ru hX [1] ⟨rfl,rfl⟩
def dkPut (L:List En) (e:En):List En:=(L.filter λx=>!(x.lpn==e.lpn))++[e]
theorem d_Put (d:Nat) (L:List En) (hL:L.length<=100000) (e:En):Fn Tryz.prog 140 [.pointer (some ⟨d,0,none⟩),enV e] [DeskA d L] (λv As=>v= .tuple #[]/\As=[DeskA d (dkPut L e)]):=by
 refine Fn.enter [2,0] Tryz.func140 rfl rfl rfl λX F hX=>?_;refine J.open_ (α:=(Option Nat×Nat)) 1 rfl rfl (λ_=>rfl) λx=>?_;obtain⟨a,c⟩:=x;refine J.q hX λbb=>?_;refine J.cF ?_;refine J.q hX λ_=>?_;refine J.cb hX (x_DeleteE 199 [.pointer (some ⟨bb 0,0,none⟩)] (λx=>x.lpn==e.lpn) (.pt (bb 0) 133 (enL e)) (by kernel_rfl) (λx=>d_Put1 (bb 0) e x) a L.length c L rfl (by omega)) [2,3] ?_;rintro v As ⟨l',hl',rfl,rfl⟩;refine⟨_,rfl,trivial,?_⟩;have hll:l'.length<=L.length:=by rw[hl'];exact List.length_filter_le _ _
 have hput:dkPut L e=l'++[e]:=by unfold dkPut;rw[hl']
 refine J.q hX λ_=>?_;refine J.plan (.of [0,4,8,12,17,21,26,30,32,36,43]) [8,9,10] [1,3] (by rw[hX.hP];kernel_rfl) (by kernel_rfl) ?_;refine J.q hX λ_=>?_;refine J.append hX tk 2 4 0 rfl rfl rfl rfl rfl rfl rfl rfl rfl rfl rfl rfl rfl rfl rfl rfl ?_ ?_ (λ_=>rfl) λa2 c2=>⟨_,(congrArg (λz=>lset _ 2 (ownA _ _ _ _ _ z)) (cellsE_snoc l' e)).trans rfl,⟨rfl,rfl,trivial⟩,?_⟩
 ·simp only[maxLen];omega
 ·omega
 refine J.q hX λ_=>?_;rw[show l'.length+1=(dkPut L e).length from by rw[hput];simp,<- hput];refine J.close (f:=λx:Option Nat×Nat=>[.pt d 204 [slv x.1 (dkPut L e).length x.2],ownA 133 19 x.1 (dkPut L e).length x.2 (cellsE (dkPut L e))]) (a2,c2) [1,2] rfl rfl rfl ?_;refine J.q hX λ_=>?_;refine J.fi hX tk [1] rfl rfl rfl ?_;exact⟨rfl,rfl⟩
theorem d_Get1 (b:Nat) (k:Int) (x:En):Fn Tryz.prog 134 [enV x, .pointer (some ⟨b,0,none⟩)] [.pt b 3 [.int .i64 k]] (λv As=>v= .bool (x.lpn==k)/\As=[.pt b 3 [.int .i64 k]]):=by
 refine Fn.enter [0,2] Tryz.func134 rfl rfl rfl λX F hX=>?_;refine J.q hX λ_=>?_;exact J.ru hX [1] ⟨rfl,rfl⟩
def dkGet (L:List En) (k:Int):En×Bool:=match L.find? (λx=>x.lpn==k)with
 | some e=>(e,true)
 | none=>(En.zero,false)
theorem find_idx {p:En->Bool} {l:List En} {k:Nat} (h:l.findIdx? p=some k):l.find? p=some (l.getD k En.zero)/\l[k]? =some (l.getD k En.zero):=by
 rw[List.findIdx?_eq_some_iff_getElem]at h;obtain⟨h1,h2,h3⟩:=h;have e:l[k]? =some (l.getD k En.zero):=by rw[List.getD_eq_getElem?_getD,List.getElem?_eq_getElem h1,Option.getD_some]
 refine⟨?_,e⟩;have e2:l.getD k En.zero=l[k]:=by rw[List.getElem?_eq_getElem h1]at e;injection e with e;exact e.symm
 rw[List.find?_eq_some_iff_getElem,e2];exact⟨h2,k,h1,rfl,λj hj=>by simpa using h3 j hj⟩
theorem d_Get (d:Nat) (L:List En) (hL:L.length<=100000) (k:Int):Fn Tryz.prog 86 [.pointer (some ⟨d,0,none⟩), .int .i64 k] [DeskA d L] (λv As=>v= .tuple #[enV (dkGet L k).1, .bool (dkGet L k).2]/\As=[DeskA d L]):=by
 refine Fn.enter [2,0] Tryz.func86 rfl rfl rfl λX F hX=>?_;refine J.open_ (α:=(Option Nat×Nat)) 1 rfl rfl (λ_=>rfl) λx=>?_;obtain⟨a,c⟩:=x;refine J.q hX λbb=>?_;refine J.cF ?_;refine J.q hX λ_=>?_;refine J.ca hX (by kernel_rfl) (x_IndexE 134 [.pointer (some ⟨bb 0,0,none⟩)] (λx=>x.lpn==k) (.pt (bb 0) 3 [.int .i64 k]) (by kernel_rfl) L (λx _=>d_Get1 (bb 0) k x) a L.length c rfl (by omega)) [2,3] 0 rfl rfl rfl rfl rfl rfl (λ_=>rfl) ?_;refine cpq ⟨_,rfl,trivial,?_⟩;rw[idxE];cases hx:L.findIdx? (λx=>x.lpn==k)with
 | none=>
  dsimp only;refine J.q hX λ_=>?_;refine J.cT ?_;refine J.close (f:=λx:Option Nat×Nat=>[.pt d 204 [slv x.1 L.length x.2],ownA 133 19 x.1 L.length x.2 (cellsE L)]) (a,c) [1,2] rfl rfl rfl ?_;refine J.q hX λ_=>?_;refine J.ru hX [1] ?_;have:dkGet L k=(En.zero,false):=by
   unfold dkGet;rw[List.find?_eq_none.2 (λx hm=>by rw[List.findIdx?_eq_none_iff]at hx;simp[hx x hm])]
  rw[this];exact⟨rfl,rfl⟩
 | some i=>
  dsimp only;obtain⟨f1,f2⟩:=find_idx hx;have hi:i<L.length:=(List.getElem?_eq_some_iff.1 f2).1;refine J.q hX λ_=>?_;refine J.cond rfl (λh0=>?_) (λh0=>?_)
  ·simp only[decide_eq_true_eq]at h0;omega
  cases a with
  | none=>
   refine J.know (λh' s=>(s.get (i:=2) rfl).2.1) λhn0=>?_;omega
  | some g=>
   refine J.q hX λ_=>?_;refine J.val hX (enV (L.getD i En.zero)) 0 rfl rfl (λhg a w he hs=>?_) rfl trivial ?_
   ·exact ownN_run tk rfl rfl he rfl rfl rfl (hs.get (i:=2) rfl) (by rw[show 0+(i:Int).toNat*19=i*19 from by omega];have:=cellsE_at L [] i _ f2;rwa [List.append_nil]at this) rfl
   refine J.close (f:=λx:Option Nat×Nat=>[.pt d 204 [slv x.1 L.length x.2],ownA 133 19 x.1 L.length x.2 (cellsE L)]) (some g,c) [1,2] rfl rfl rfl ?_;refine J.q hX λ_=>?_;refine J.ru hX [1] ?_;have:dkGet L k=(L.getD i En.zero,true):=by
    unfold dkGet;rw[f1]
   rw[this];exact⟨rfl,rfl⟩
def dkN (L:List En) (n:Int):Nat:=min n.toNat L.length
theorem d_First (d:Nat) (L:List En) (hL:L.length<=100000) (n:Int):Fn Tryz.prog 141 [.pointer (some ⟨d,0,none⟩), .int .i64 n] [DeskA d L] (λv As=>∃a' c',v=slv a' (dkN L n) c'/\As=[DeskA d L,ownA 133 19 a' (dkN L n) c' (cellsE (L.take (dkN L n)))]):=by
 refine Fn.enter [2,0] Tryz.func141 rfl rfl rfl λX F hX=>?_;refine J.open_ (α:=(Option Nat×Nat)) 1 rfl rfl (λ_=>rfl) λx=>?_;obtain⟨a,c⟩:=x;refine J.q hX λ_=>?_;refine J.cF ?_;refine J.know (λh' s=>ownP_cap (s.get (i:=2) rfl)) λhcap=>?_;dsimp only at hcap;have hmin:(if(L.length:Int)<(if(0:Int)>n then 0 else n)then(L.length:Int)else(if(0:Int)>n then 0 else n))=(dkN L n:Int):=by
  unfold dkN
  by_cases h:(0:Int)>n
  ·simp only[if_pos h];rw[if_neg (by omega)];omega
  ·simp only[if_neg h];split<;>omega
 have hk:dkN L n<=L.length:=Nat.min_le_right _ _;refine J.q hX λ_=>?_;refine J.plan (.of [0,4,8,13,16,20,24,28,32,37,40,44,48,54,56]) [14] [1,2] (by rw[hX.hP];kernel_rfl) (by kernel_rfl) ?_;refine J.qn hX 12 λ_=>?_;refine J.valT hX (slv a (dkN L n) c) 0 rfl rfl (λhg aa w he hC=>?_) rfl ?_
 ·exact cutE_run rfl rfl rfl he rfl rfl hmin (by omega)
 refine J.q hX λ_=>?_;refine J.cb hX (x_CloneP a L.length c c (dkN L n) L rfl hk (by omega)) [2] ?_;rintro v As ⟨a',c',rfl,rfl⟩;refine⟨_,rfl,⟨rfl,rfl,trivial⟩,?_⟩;refine J.q hX λ_=>?_;refine J.close (f:=λx:Option Nat×Nat=>[.pt d 204 [slv x.1 L.length x.2],ownA 133 19 x.1 L.length x.2 (cellsE L)]) (a,c) [1,2] rfl rfl rfl ?_;refine J.q hX λ_=>?_;refine J.ru hX [1,3] ?_;exact⟨a',c',rfl,rfl⟩
theorem d_Done2 (b be:Nat) (x e:En):Fn Tryz.prog 203 [enV e, .pointer (some ⟨b,0,none⟩)] [.pt b 133 (enL x)] (λv As=>v= .bool (e.lpn==x.lpn&&e.seq==x.seq)/\As=[.pt b 133 (enL x)]):=by
 refine Fn.enter [0,2] Tryz.func203 rfl rfl rfl λX F hX=>?_;refine J.q hX λ_=>?_;exact J.ru hX [1] ⟨rfl,rfl⟩
theorem d_Done1 (b:Nat) (B:Atom) (al:Option Addr) (nl cl:Nat) (l:List En) (hB:Rd B al 19 nl (cellsE l)) (hl:l.length=nl) (hn:nl<=4611686018427387904) (x:En):Fn Tryz.prog 201 [enV x, .pointer (some ⟨b,0,none⟩)] [.pt b 115 [.slice al nl cl],B] (λv As=>v= .bool (l.any λe=>e.lpn==x.lpn&&e.seq==x.seq)/\As=[.pt b 115 [.slice al nl cl],B]):=by
 refine Fn.enter [0,2] Tryz.func201 rfl rfl rfl λX F hX=>?_;refine J.q hX λbb=>?_;refine J.ca hX (by kernel_rfl) (x_ContainsR 203 [.pointer (some ⟨bb 0,0,none⟩)] (λe=>e.lpn==x.lpn&&e.seq==x.seq) (.pt (bb 0) 133 (enL x)) B (by kernel_rfl) l (λe _=>d_Done2 (bb 0) 0 x e) al nl cl hB hl hn) [2,3] 0 rfl rfl rfl rfl rfl rfl (λ_=>rfl) ?_;refine cpq ⟨_,rfl,trivial,?_⟩;refine J.q hX λ_=>?_;exact J.ru hX [1,2] ⟨rfl,rfl⟩
def dkDone (L l:List En):List En:=L.filter λx=>!(l.any λe=>e.lpn==x.lpn&&e.seq==x.seq)
theorem d_Done (d:Nat) (L:List En) (hL:L.length<=100000) (B:Atom) (al:Option Addr) (nl cl:Nat) (l:List En) (hB:Rd B al 19 nl (cellsE l)) (hl:l.length=nl) (hn:nl<=4611686018427387904):Fn Tryz.prog 142 [.pointer (some ⟨d,0,none⟩), .slice al nl cl] [DeskA d L,B] (λv As=>v= .int .i64 ((L.length:Int)-(dkDone L l).length)/\As=[DeskA d (dkDone L l),B]):=by
 refine Fn.enter [2,0] Tryz.func142 rfl rfl rfl λX F hX=>?_;refine J.open_ (α:=(Option Nat×Nat)) 1 rfl rfl (λ_=>rfl) λx=>?_;obtain⟨a,c⟩:=x;refine J.q hX λbb=>?_;refine J.cF ?_;refine J.q hX λ_=>?_;refine J.turn1 [4,2] rfl (As:=[.hp (HP.of [.pt (bb 0) 115 [.slice al nl cl],B])]) (λh s=>Sep.hpOf.2 s) rfl ?_;refine J.q hX λ_=>?_;refine J.ca hX (by kernel_rfl) (x_DeleteE 201 [.pointer (some ⟨bb 0,0,none⟩)] (λx=>l.any λe=>e.lpn==x.lpn&&e.seq==x.seq) _ (by kernel_rfl) (λx=>Fn.pack (d_Done1 (bb 0) B al nl cl l hB hl hn x)) a L.length c L rfl (by omega)) [3,4] 0 rfl rfl rfl rfl rfl rfl (λ_=>rfl) ?_;rintro v As ⟨l',hl',rfl,rfl⟩;refine⟨_,rfl,trivial,?_⟩;have hll:l'.length<=L.length:=by rw[hl'];exact List.length_filter_le _ _
 have hdn:dkDone L l=l':=hl'.symm;refine J.q hX λ_=>?_;refine J.turn1 [4] rfl (As:=[.pt (bb 0) 115 [.slice al nl cl],B]) (λh s=>Sep.hpOf.1 s) rfl ?_;refine J.close (f:=λx:Option Nat×Nat=>[.pt d 204 [slv x.1 l'.length x.2],ownA 133 19 x.1 l'.length x.2 (cellsE l')]) (a,c) [1,3] rfl rfl rfl ?_;refine J.q hX λ_=>?_;refine J.ru hX [1,5] ?_;rw[hdn];exact⟨rfl,rfl⟩
end Go.Proofs.YtkdlnfdjjifedaaGreat
namespace Go.Proofs.YtkdlnfdjjifedaaGreat
open Go
def EnBd (e:En):Prop:=(0<=e.lpn/\e.lpn<=65535)/\(0<=e.seq/\e.seq<=1099511627775)
theorem may_en {s:Sh} (h:S.may s=true):EnBd s.en:=by
 simp only[S.may,S.numbers,S.inB,Bool.and_eq_true,decide_eq_true_eq]at h;exact⟨h.1.2.1.2,h.1.2.1.1⟩
theorem get_may {p:List UInt8} {s:Sh} (h:S.get p=some s):S.may s=true:=by
 unfold S.get at h;split at h
 ·rename_i hh;injection h with h;subst h;exact hh.1
 ·cases h
theorem look_may {N:Nand} {x y z:Int} (h:(M.look N x y z).2=1):S.may (M.look N x y z).1=true:=by
 unfold M.look at h ⊢;dsimp only at h ⊢;split
 ·rename_i h0;rw[if_pos h0]at h;split
  ·rename_i h1;rw[if_pos h1]at h;simp at h
  ·rename_i h1;simp only[not_or]at h1;have hg:S.getE (N.readV x y z)=0:=by simpa using h1.1
   unfold S.getE at hg;cases hs:S.get (N.readV x y z)with
   | none=>rw[hs]at hg;simp at hg
   | some s=>simp only[S.getV,hs,Option.getD_some];exact get_may hs
 ·rename_i h0;rw[if_neg h0]at h;split at h
  ·simp at h
  ·split at h<;>simp at h
theorem ok_en {b r m:Int} {e:En} (h:W.ok b r m e=true):EnBd e:=may_en (s:=W.sh b r m e) h
theorem fnd_bd {N:Nand} {b r:Int} {f:Fnd} (h:f∈R.all N b r):f.block=b/\f.row=r/\EnBd f.en:=by
 unfold R.all at h;rw[List.mem_flatMap]at h;obtain⟨m,_,h⟩:=h;unfold R.allM at h;rw[List.mem_filterMap]at h;obtain⟨k,hk,h⟩:=h;rw[List.mem_range]at hk;unfold R.fnd at h;split at h
 ·rename_i hc;injection h with h;subst h;refine⟨rfl,rfl,?_⟩;simp only[Bool.and_eq_true]at hc;obtain⟨h1,_⟩:=hc;dsimp only;unfold R.enAt;unfold R.okAt at h1;split
  ·rename_i hg;have hlen:k<(R.ones N b r m (G.slots m).toNat).length:=by simpa[R.look]using hk
   have e1:(R.look N b r m).good.getD k false=((R.ones N b r m (G.slots m).toNat)[k]).2:=by simp[R.look,hlen]
   have e2:(R.look N b r m).slots.getD k Sh.zero=((R.ones N b r m (G.slots m).toNat)[k]).1:=by simp[R.look,hlen]
   rw[e1]at hg;rw[e2];simp only[R.ones,List.getElem_map,R.one,Bool.and_eq_true,beq_iff_eq]at hg ⊢;exact may_en (look_may hg.1)
  ·rename_i hg;rw[Bool.not_eq_true]at hg;rw[hg,Bool.false_or]at h1;unfold R.mendB at h1;simp only[Bool.and_eq_true]at h1;have hb:=h1.2;unfold R.mend;rw[if_pos (by rw[Bool.and_eq_true];exact h1.1),W.back,if_pos hb];unfold W.backB at hb;simp only[Bool.and_eq_true]at hb;exact ok_en hb.2
 ·cases h
theorem all_len (N:Nand) (hN:N.Ok):(V.all N).length<=6000:=by
 have hbd:=hN.bd;have h0:∀b r,(R.all N b r).length<=42:=λb r=>by
  have:=outI_len N b r (M.masks N b r).length (by omega);unfold outI at this
  rwa [List.take_length]at this
 have h1:∀(l:List Nat) (b:Int),(l.flatMap λr=>R.all N b (r:Nat)).length<=42*l.length:=by
  intro l b
  induction l with
  | nil=>simp
  | cons x l ih=>rw[List.flatMap_cons,List.length_append,List.length_cons];have:=h0 b x;omega
 have h2:∀l:List Nat,(l.flatMap λb=>(List.range N.pages).flatMap λr=>R.all N (b:Nat) (r:Nat)).length<=336*l.length:=by
  intro l
  induction l with
  | nil=>simp
  | cons x l ih=>
   rw[List.flatMap_cons,List.length_append,List.length_cons];have:=h1 (List.range N.pages) x;rw[List.length_range]at this;omega
 have:=h2 (List.range N.blocks);rw[List.length_range]at this;unfold V.all;omega
theorem all_bd {N:Nand} {f:Fnd} (h:f∈V.all N):(∃r:Nat,f.row=(r:Int)/\r<N.pages)/\EnBd f.en:=by
 unfold V.all at h;rw[List.mem_flatMap]at h;obtain⟨b,_,h⟩:=h;rw[List.mem_flatMap]at h;obtain⟨r,hr,h⟩:=h;have:=fnd_bd h;exact⟨⟨r,this.2.1,List.mem_range.1 hr⟩,this.2.2⟩
end Go.Proofs.YtkdlnfdjjifedaaGreat
namespace Go.Proofs.YtkdlnfdjjifedaaGreat
open Go Go.RowKit
abbrev fdV (x:Fnd):Value:= .agg (fnL x).toArray
def Fnd.zero:Fnd:=⟨En.zero,0,0,0,0,false,false⟩
theorem v_behind (a b:Fnd):Fn Tryz.prog 211 [fdV a,fdV b] [] (λv As=>v= .bool (V.behind a b)/\As=[]):=by
 refine Fn.enter [0,0] Tryz.func211 rfl rfl rfl λX F hX=>?_;refine J.q hX λ_=>?_;refine J.cond rfl (λh1=>?_) (λh1=>?_)
 ·refine J.q hX λ_=>?_;refine J.ru hX [] ?_;simp only[bne_iff_ne,ne_eq]at h1;exact⟨by rw[V.behind,if_pos h1],rfl⟩
 ·simp only[bne_eq_false_iff_eq]at h1;refine J.run hX tk 400 (λb3=>rfl) (λb3=>?_) (λb3=>?_)
  ·(repeat' (first | exact Conj.nil | refine Conj.cons ?_ ?_ | exact rfl | exact hq | (rw[hq];rfl) | (rw[(Bool.not_eq_true' _).mp hq]) | intro hq | omega | (simp;done) | (simp_all;done)))
  refine J.q hX λ_=>?_;refine J.ru hX [] ?_;exact⟨by rw[V.behind,if_neg (by simp[h1])],rfl⟩
theorem tops_succ {l:List Fnd} {k:Nat} {x:Fnd} (h:l[k]? =some x):V.tops (l.take (k+1))=V.topsStep (V.tops (l.take k)) x:=by
 unfold V.tops;rw[List.take_add_one,h,Option.toList_some,List.foldl_append];rfl
theorem topsStep_len (o:List Fnd) (x:Fnd):(V.topsStep o x).length<=o.length+1:=by
 cases o with
 | nil=>simp[V.topsStep]
 | cons h t=>
  simp only[V.topsStep];split
  ·simp
  ·split<;>simp
theorem tops_len (l:List Fnd):(V.tops l).length<=l.length:=by
 have:∀k,k<=l.length->(V.tops (l.take k)).length<=k:=by
  intro k
  induction k with
  | zero=>intro _;simp[V.tops]
  | succ k ih=>
   intro hk;rw[tops_succ (List.getElem?_eq_getElem (by omega))];have:=topsStep_len (V.tops (l.take k)) l[k];have:=ih (by omega);omega
 have:=this l.length (Nat.le_refl _)
 rwa [List.take_length]at this
theorem v_tops (a:Option Nat) (n cap:Nat) (l:List Fnd) (hl:l.length=n) (hn:n<=100000):Fn Tryz.prog 158 [slv a n cap] [ownA 188 25 a n cap (cellsF l)]
  (λv As=>∃a' c',v=slv a' (V.tops l).length c'/\As=[ownA 188 25 a n cap (cellsF l),ownA 188 25 a' (V.tops l).length c' (cellsF (V.tops l))]):=by
 refine Fn.enter [0] Tryz.func158 rfl rfl rfl λX F hX=>?_;refine J.turn1 [] rfl (As:=[ownA 188 25 none 0 0 (cellsF [])]) (λh s=>Sep.one ⟨rfl,rfl,rfl⟩) rfl ?_;refine J.q hX λ_=>?_;refine J.lo (α:=(Nat×Option Nat×Nat×List Fnd)) (λz=>z.1<=n/\V.tops (l.take z.1)=z.2.2.2) (λz=>[⟨8, .int .i64 z.1,0, .tt⟩,⟨7, .int .i64 n,0, .tt⟩,⟨6,slv a n cap,0, .tt⟩,⟨3,slv z.2.1 z.2.2.2.length z.2.2.1,0, .tt⟩]) [2] (λz=>[ownA 188 25 z.2.1 z.2.2.2.length z.2.2.1 (cellsF z.2.2.2)]) (λz=>n-z.1) ((0,none,0,[])) (⟨Nat.zero_le _,rfl⟩) rfl ?_ (λ_=>rfl) λz hI=>?_
 ·rfl
 obtain⟨k,a1,c1,out⟩:=z;dsimp only at hI ⊢;obtain⟨hI,hto⟩:=hI;refine J.q hX λ_=>?_;refine J.cond rfl (λh1=>?_) (λh1=>?_)
 ·simp only[decide_eq_true_eq,Int.ofNat_lt]at h1;cases a with
  | none=>
   refine J.know (λh' s=>(s.get (i:=1) rfl).2.1) λhn0=>?_;omega
  | some g=>
  obtain⟨x,hx⟩:∃x,l[k]? =some x:=⟨_,List.getElem?_eq_getElem (by omega)⟩;have hts:=tops_succ hx;have hlen:=tops_len (l.take k);rw[List.length_take,hto]at hlen;rw[hto]at hts;refine J.q hX λ_=>?_;refine J.val hX (fdV x) 0 rfl rfl (λhg a w he hs=>?_) rfl trivial ?_
  ·exact ownN_run tk rfl rfl he rfl rfl rfl (hs.get (i:=1) rfl) (by rw[show 0+(k:Int).toNat*25=k*25 from by omega];exact cellsF_get hx) rfl
  rcases out with _ | ⟨y,o⟩
  ·skip
   refine J.q hX λ_=>?_;refine J.plan (.of [0,4,8,12,16,20,25,29,34,36,40]) [] [1,2,3] (by rw[hX.hP];kernel_rfl) (by kernel_rfl) ?_;refine J.qn hX 5 λ_=>?_;refine J.valT hX (.pointer (some ⟨g,0,none⟩)) 0 rfl rfl (λhg a w he hC=>absurd hg (by simp[G.on])) rfl ?_;refine J.q hX λ_=>?_;refine J.valT hX (fdV x) 0 rfl rfl (λhg a w he hC=>absurd hg (by simp[G.on])) rfl ?_;refine J.q hX λ_=>?_;refine J.val hX (.bool true) 0 rfl rfl (λhg a w he hC=>absurd hg (by simp[G.on])) rfl (by first | exact trivial | (repeat' (first | exact trivial | refine⟨rfl,?_⟩))) ?_;refine J.q hX λ_=>?_;refine J.cT ?_;refine J.q hX λbs=>?_;refine J.closeOwn (e:=188) (size:=25) (n:=1) (cap:=1) (xs:=cellsF [x]) 4 rfl rfl rfl (Nat.le_refl _) (by decide) rfl rfl rfl ?_;have hs:V.tops (l.take (k+1))=[x]:=by rw[hts];rfl
   refine J.slot (k:=3) (s':=⟨3,slv (some (bs 0)) [x].length 1,0, .tt⟩) rfl rfl rfl ?_;refine J.q hX λ_=>?_;refine J.nS ((k+1,some (bs 0),1,[x])) (⟨by dsimp only;omega,hs⟩) (by dsimp only;omega) [0,1,4] rfl rfl
  ·refine J.know (λh' s=>own_some (c:=(a1,c1)) (by simp) (s.get (i:=2) rfl)) λhg=>?_;obtain⟨ga,rfl⟩:=hg;refine J.q hX λ_=>?_;refine J.plan (.of [0,4,8,12,16,20,25,29,34,36,40]) [] [1,2,3] (by rw[hX.hP];kernel_rfl) (by kernel_rfl) ?_;refine J.q hX λ_=>?_;refine J.valT hX (fdV y) 0 rfl rfl (λhg a w he hC=>?_) rfl ?_
   ·exact ownN_run tk rfl rfl he hg rfl rfl (hC rfl _ (cget_mem (i:=2) rfl)) rfl rfl
   have hnz:(((y::o).length:Int)==0)=false:=by rw[beq_eq_false_iff_ne,List.length_cons];omega
   rw[hnz];refine J.q hX λ_=>?_;refine J.cb hX (v_behind y x) [] ?_;refine cpq ⟨_,rfl,(by first | exact trivial | (repeat' (first | exact trivial | refine⟨rfl,?_⟩))),?_⟩;refine J.q hX λ_=>?_;refine J.cond rfl (λh2=>?_) (λh2=>?_)
   ·refine J.q hX λbs=>?_;refine J.closeOwn (e:=188) (size:=25) (n:=1) (cap:=1) (xs:=cellsF [x]) 4 rfl rfl rfl (Nat.le_refl _) (by decide) rfl rfl rfl ?_;have hs:V.tops (l.take (k+1))=[x]:=by rw[hts];rw[V.topsStep,if_pos (by simpa using h2)]
    refine J.slot (k:=3) (s':=⟨3,slv (some (bs 0)) [x].length 1,0, .tt⟩) rfl rfl rfl ?_;refine J.q hX λ_=>?_;refine J.nS ((k+1,some (bs 0),1,[x])) (⟨by dsimp only;omega,hs⟩) (by dsimp only;omega) [0,1,4] rfl rfl
   ·refine J.q hX λ_=>?_;refine J.plan (.of [1,4,8,13,19,20,24]) [4,5,6] [1,2,3] (by rw[hX.hP];kernel_rfl) (by kernel_rfl) ?_;refine J.q hX λ_=>?_;refine J.valT hX (fdV y) 0 rfl rfl (λhg a w he hC=>?_) rfl ?_
    ·exact ownN_run tk rfl rfl he hg rfl rfl (hC rfl _ (cget_mem (i:=2) rfl)) rfl rfl
    refine J.q hX λ_=>?_;refine J.cb hX (v_behind x y) [] ?_;refine cpq ⟨_,rfl,(by first | exact trivial | (repeat' (first | exact trivial | refine⟨rfl,?_⟩))),?_⟩;refine J.q hX λ_=>?_;refine J.cond rfl (λh3=>?_) (λh3=>?_)
    ·refine J.q hX λ_=>?_;have hs:V.tops (l.take (k+1))=y::o++[x]:=by rw[hts,V.topsStep,if_neg (by simpa using h2),if_neg (by simpa using h3)]
     refine J.append hX tk 2 4 0 rfl rfl rfl rfl rfl rfl rfl rfl rfl rfl rfl rfl rfl rfl rfl rfl ?_ ?_ (λ_=>rfl) λa3 c3=>⟨_,(congrArg (λz=>lset _ 2 (ownA _ _ _ _ _ z)) (cellsF_snoc (y::o) x).symm).trans rfl,trivial,?_⟩
     ·simp only[maxLen];omega
     ·omega
     rw[show(y::o).length+1=(y::o++[x]).length from by simp];refine J.q hX λ_=>?_;refine J.nS ((k+1,a3,c3,y::o++[x])) (⟨by dsimp only;omega,hs⟩) (by dsimp only;omega) [0,1,2] rfl rfl
    ·have hs:V.tops (l.take (k+1))=y::o:=by rw[hts,V.topsStep,if_neg (by simpa using h2),if_pos (by simpa using h3)]
     refine J.q hX λ_=>?_;refine J.nS ((k+1,some ga,c1,y::o)) (⟨by dsimp only;omega,hs⟩) (by dsimp only;omega) [0,1,2] rfl rfl
 ·simp only[decide_eq_false_iff_not,Int.ofNat_lt]at h1;obtain rfl:k=n:=by omega
  rw[List.take_of_length_le (by omega)]at hto;subst hto;refine J.q hX λ_=>?_;refine J.ru hX [1,2] ?_;exact⟨a1,c1,rfl,rfl⟩
end Go.Proofs.YtkdlnfdjjifedaaGreat
