/- Helpers, proved here. No condition. -/
import Derived.Test.YtkdlnfdjjifedaaGreatD05
import Derived.Test.YtkdlnfdjjifedaaGreatD06
import Derived.Test.YtkdlnfdjjifedaaGreatD08
import Derived.Laws.AppendOwn
set_option maxRecDepth 20000
set_option linter.all false
namespace Go.Proofs.YtkdlnfdjjifedaaGreat
open Go Go.RowKit
structure Fl where
 at_:Int
 kind:Int
 x:Int
 y:Int
 z:Int
 n:Int
 xx:Int
deriving DecidableEq
def dF:Fl:=⟨0,0,0,0,0,0,0⟩
def flC (f:Fl):List Value:=[.int .i64 f.at_, .int .i64 f.kind, .int .i64 f.x, .int .i64 f.y, .int .i64 f.z, .int .i64 f.n, .int .i64 f.xx]
def flV (f:Fl):Value:= .agg #[.int .i64 f.at_, .int .i64 f.kind, .int .i64 f.x, .int .i64 f.y, .int .i64 f.z, .int .i64 f.n, .int .i64 f.xx]
def cellsFl (l:List Fl):List Value:=l.flatMap flC
theorem cellsFl_len (l:List Fl):(cellsFl l).length=l.length*7:=by
 induction l with
 | nil=>rfl
 | cons x l ih=>simp only[cellsFl,List.flatMap_cons,List.length_append,List.length_cons]at ih ⊢;rw[ih,show(flC x).length=7 from rfl];omega
theorem cellsFl_at:∀(l:List Fl) (r:List Value) (k:Nat) (x:Fl),l[k]? =some x->((cellsFl l++r).drop (k*7)).take 7=flC x
 | [],_,_,_,h=>by simp at h
 | y::l,r,0,x,h=>by simp at h;subst h;simp[cellsFl,flC]
 | y::l,r,k+1,x,h=>by
  have:=cellsFl_at l r k x (by simpa using h);rw[show(k+1)*7=7+k*7 from by omega,<- List.drop_drop,show(cellsFl (y::l)++r).drop 7=cellsFl l++r from rfl];exact this
theorem cellsFl_set:∀(l:List Fl) (r:List Value) (k:Nat) (x:Fl),k<l.length->(cellsFl l++r).take (k*7)++flC x++(cellsFl l++r).drop (k*7+7)=cellsFl (l.set k x)++r
 | [],_,_,_,h=>by simp at h
 | y::l,r,0,x,h=>by rw[Nat.zero_mul,List.take_zero];rfl
 | y::l,r,k+1,x,h=>by
  have:=cellsFl_set l r k x (by simpa using h);rw[List.set_cons_succ,show cellsFl (y::l)++r=flC y++(cellsFl l++r)from by simp[cellsFl],show(k+1)*7=(flC y).length+k*7 from by show _=7+k*7;omega,List.take_length_add_append,show(flC y).length+k*7+7=(flC y).length+(k*7+7)from by omega,List.drop_length_add_append,List.append_assoc,List.append_assoc,<- List.append_assoc (List.take _ _),this];simp[cellsFl]
def swpF (l:List Fl) (j:Nat):List Fl:=(l.set j (l.getD (j-1) dF)).set (j-1) (l.getD j dF)
def sinkF (f:Fl->Fl->Int):Nat->List Fl->List Fl
 | 0,l=>l
 | j+1,l=>if f (l.getD (j+1) dF) (l.getD j dF)<0 then sinkF f j (swpF l (j+1))else l
def isortFN (f:Fl->Fl->Int) (l:List Fl):Nat->List Fl
 | 0=>l
 | k+1=>sinkF f (k+1) (isortFN f l k)
def isortF (f:Fl->Fl->Int) (l:List Fl):List Fl:=isortFN f l (l.length-1)
theorem swpF_len (l:List Fl) (j:Nat):(swpF l j).length=l.length:=by simp[swpF]
theorem swpF_perm (l:List Fl) (j:Nat) (h:j+1<l.length):(swpF l (j+1)).Perm l:=by
 induction l generalizing j with
 | nil=>simp at h
 | cons x l ih=>
  cases j with
  | zero=>
   cases l with
   | nil=>simp at h
   | cons y l=>simp only[swpF,List.set_cons_succ,List.set_cons_zero,Nat.add_sub_cancel,Nat.zero_add,List.getD_cons_zero,List.getD_cons_succ];exact List.Perm.swap _ _ _
  | succ j=>
   have:=ih j (by simpa using h);simp only[swpF,Nat.add_sub_cancel,List.set_cons_succ,List.getD_cons_succ]at this ⊢;exact this.cons x
theorem sinkF_perm (f:Fl->Fl->Int):∀(j:Nat) (l:List Fl),j<l.length->(sinkF f j l).Perm l
 | 0,l,_=>List.Perm.refl _
 | j+1,l,h=>by
  unfold sinkF;split
  ·exact(sinkF_perm f j _ (by rw[swpF_len];omega)).trans (swpF_perm l j h)
  ·exact List.Perm.refl _
theorem isortFN_len' (f:Fl->Fl->Int) (l:List Fl):∀k,k<l.length->(isortFN f l k).Perm l/\(isortFN f l k).length=l.length
 | 0,_=>⟨List.Perm.refl _,rfl⟩
 | k+1,h=>by
  obtain⟨h1,h2⟩:=isortFN_len' f l k (by omega);exact⟨(sinkF_perm f (k+1) _ (by omega)).trans h1,by rw[isortFN,(sinkF_perm f (k+1) _ (by omega)).length_eq,h2]⟩
theorem isortF_perm (f:Fl->Fl->Int) (l:List Fl):(isortF f l).Perm l:=by
 cases l with
 | nil=>exact List.Perm.refl _
 | cons x l=>exact(isortFN_len' f (x::l) _ (by simp)).1
theorem sinkF_len (f:Fl->Fl->Int):∀(j:Nat) (l:List Fl),(sinkF f j l).length=l.length
  | 0,l=>rfl
  | j + 1, l => by unfold sinkF; split
                   · rw[sinkF_len f j,swpF_len]
                   · rfl
theorem isortFN_len (f:Fl->Fl->Int) (l:List Fl):∀k,(isortFN f l k).length=l.length
 | 0=>rfl
 | k+1=>by rw[isortFN,sinkF_len,isortFN_len f l k]
theorem i_SortF (c:Nat) (f:Fl->Fl->Int) (hcal:callable Tryz.prog c=true) (hf:∀x y,Fn Tryz.prog c [flV x,flV y] [] (λv As=>v= .int .i64 (f x y)/\As=[]))
  (g n cap:Nat) (l:List Fl) (hl:l.length=n) (hn:n<=4611686018427387904) (r:List Value):Fn Tryz.prog 245 [.slice (some ⟨g,0,none⟩) n cap, .int .i64 0, .int .i64 n,fnV c] [.pt g 34 (cellsFl l++r)]
  (λv As=>v= .tuple #[]/\As=[.pt g 34 (cellsFl (isortF f l)++r)]):=by
 refine Fn.enter [2,0,0,0] Tryz.func245 rfl rfl rfl λX F hX=>?_;refine J.q hX λ_=>?_;refine J.lo (α:=Nat) (λi=>1<=i/\i<=max 1 n) (λi=>[⟨8, .int .i64 i,0, .tt⟩,⟨0, .slice (some ⟨g,0,none⟩) n cap,2, .tt⟩,⟨1, .int .i64 0,0, .tt⟩,⟨2, .int .i64 n,0, .tt⟩,⟨3,fnV c,0, .tt⟩]) [1] (λi=>[.pt g 34 (cellsFl (isortFN f l (i-1))++r)]) (λi=>n-i) (1) (⟨by omega,by omega⟩) rfl ?_ (λ_=>rfl) λi hI=>?_
 ·rfl
 refine J.q hX λ_=>?_;refine J.cond rfl (λh1=>?_) (λh1=>?_)
 ·simp only[decide_eq_true_eq,Int.ofNat_lt]at h1;refine J.q hX λ_=>?_;refine J.lo (α:=(Nat×List Fl)) (λy=>y.1<=i/\y.2.length=n/\sinkF f y.1 y.2=isortFN f l i) (λy=>[⟨9, .int .i64 y.1,0, .tt⟩,⟨8, .int .i64 i,0, .tt⟩,⟨0, .slice (some ⟨g,0,none⟩) n cap,2, .tt⟩,⟨1, .int .i64 0,0, .tt⟩,⟨2, .int .i64 n,0, .tt⟩,⟨3,fnV c,0, .tt⟩]) [1] (λy=>[.pt g 34 (cellsFl y.2++r)]) (λy=>y.1) ((i,isortFN f l (i-1))) (⟨Nat.le_refl _,by rw[isortFN_len,hl],by obtain⟨k,rfl⟩:∃k,i=k+1:=⟨i-1,by omega⟩;rfl⟩) rfl ?_ (λ_=>rfl) λy hI=>?_
  ·rfl
  obtain⟨j,m⟩:=y;dsimp only at hI ⊢;have hget:∀e,e<n->m[e]? =some (m.getD e dF):=λe he=>by rw[List.getD_eq_getElem?_getD,List.getElem?_eq_getElem (by omega),Option.getD_some]
  rcases Nat.eq_zero_or_pos j with h2 | h2
  ·subst h2;refine J.q hX λ_=>?_;refine J.plan (.of [0,4,8,12,16,20,24,28,33,36,40,44,48,53,58,60,64]) [] [1] (by rw[hX.hP];kernel_rfl) (by kernel_rfl) ?_;refine J.qn hX 4 λ_=>?_;rw[show decide (((0:Nat):Int)>0)=false from rfl];refine J.q hX λ_=>?_;refine J.valT hX (flV dF) 0 rfl rfl (λhg a w he hC=>by simp[G.on]at hg) rfl ?_;refine J.q hX λ_=>?_;refine J.valT hX (flV dF) 0 rfl rfl (λhg a w he hC=>by simp[G.on]at hg) rfl ?_;refine J.q hX λ_=>?_;refine J.gcase hX rfl rfl rfl ⟨rfl,trivial⟩ (λh=>by cases h) (λ_=>?_);refine J.valT hX (.bool false) 0 rfl rfl (λhg a w he hC=>by simp[G.on]at hg) rfl ?_;refine J.q hX λ_=>?_;refine J.cF ?_;have hm:m=isortFN f l (i+1-1):=hI.2.2;rw[hm];refine J.q hX λ_=>?_;refine J.nS (i+1) (⟨by omega,by omega⟩) (by omega) [0,1] rfl rfl
  ·obtain⟨j,rfl⟩:∃k,j=k+1:=⟨j-1,by omega⟩;refine J.q hX λ_=>?_;refine J.plan (.of [0,4,8,12,16,20,24,28,33,36,40,44,48,53,58,60,64]) [] [1] (by rw[hX.hP];kernel_rfl) (by kernel_rfl) ?_;refine J.qn hX 4 λ_=>?_;rw[show decide (((j+1:Nat):Int)>0)=true from decide_eq_true (by omega)];refine J.q hX λ_=>?_;refine J.valT hX (flV (m.getD (j+1) dF)) 0 rfl rfl (λhg a w he hC=>?_) rfl ?_
   ·exact loadN_run tk rfl rfl he hg rfl rfl (hC rfl _ (cget_mem (i:=1) rfl)) (by rw[show 0+((j+1:Nat):Int).toNat*7=(j+1)*7 from by omega];exact cellsFl_at m r _ _ (hget _ (by omega))) rfl
   refine J.q hX λ_=>?_;refine J.valT hX (flV (m.getD j dF)) 0 rfl rfl (λhg a w he hC=>?_) rfl ?_
   ·exact loadN_run tk rfl rfl he hg rfl rfl (hC rfl _ (cget_mem (i:=1) rfl)) (by rw[show 0+(((j+1:Nat):Int)-1).toNat*7=j*7 from by omega];exact cellsFl_at m r _ _ (hget _ (by omega))) rfl
   refine J.q hX λ_=>?_;refine J.call hX hcal (hf (m.getD (j+1) dF) (m.getD j dF)) [] 0 rfl rfl rfl rfl (by(repeat' (first | exact Conj.nil | refine Conj.cons ?_ ?_ | omega | exact hq0 | (simpa using hq0) | (exactλh=>h) | exact rfl | (intro hq;have hq0:=hq;try simp only[Bool.and_eq_true,Bool.or_eq_true,decide_eq_true_eq,Bool.not_eq_true',decide_eq_false_iff_not]at hq) | (simp;done) | (simp;omega) | decide))) rfl rfl (λ_=>rfl) ?_;refine cpq ⟨_,rfl,⟨rfl,trivial⟩,?_⟩;refine J.q hX λ_=>?_;refine J.cond rfl (λh3=>?_) (λh3=>?_)
   ·simp only[Bool.true_and,decide_eq_true_eq]at h3;refine J.q hX λ_=>?_;refine J.plan (.take true 0 (.take true 1 (.take true 2 (.take true 3 (.take true 4 (.take true 5 (.take true 6 (.take true 7 (.take true 8 (.take true 10 (.take true 11 (.take true 12 (.alt false 9 ((.of [54,56,62,64,71])) (.alt false 13 ((.of [38,56,62,64,71])) .non)))))))))))))) [16,17] [] (by rw[hX.hP];kernel_rfl) (by kernel_rfl) ?_;refine J.q hX λ_=>?_;refine J.alts ?_ ?_
    ·refine J.val hX (flV (m.getD j dF)) 0 rfl rfl (λhg a w he hs=>?_) rfl trivial ?_
     ·exact loadN_run tk rfl rfl he hg rfl rfl (hs.get (i:=1) rfl) (by rw[show 0+(((j+1:Nat):Int)-1).toNat*7=j*7 from by omega];exact cellsFl_at m r _ _ (hget _ (by omega))) rfl
     refine J.q hX λ_=>?_;refine J.val hX (flV (m.getD (j+1) dF)) 0 rfl rfl (λhg a w he hs=>?_) rfl trivial ?_
     ·exact loadN_run tk rfl rfl he hg rfl rfl (hs.get (i:=1) rfl) (by rw[show 0+((j+1:Nat):Int).toNat*7=(j+1)*7 from by omega];exact cellsFl_at m r _ _ (hget _ (by omega))) rfl
     refine J.q hX λ_=>?_;refine J.storeN hX tk 1 rfl rfl rfl rfl rfl rfl rfl rfl rfl rfl rfl rfl rfl ?_ (cellsFl (m.set (j+1) (m.getD j dF))++r) ?_ rfl (λ_=>rfl) ⟨trivial,?_⟩
     ·rw[List.length_append,cellsFl_len];show 0+((j+1:Nat):Int).toNat*7+7<=_;omega
     ·rw[show 0+((j+1:Nat):Int).toNat*7=(j+1)*7 from by omega];exact cellsFl_set m r (j+1) _ (by omega)
     refine J.q hX λ_=>?_;refine J.storeN hX tk 1 rfl rfl rfl rfl rfl rfl rfl rfl rfl rfl rfl rfl rfl ?_ (cellsFl (swpF m (j+1))++r) ?_ rfl (λ_=>rfl) ⟨trivial,?_⟩
     ·rw[List.length_append,cellsFl_len,List.length_set];show 0+(((j+1:Nat):Int)-1).toNat*7+7<=_;omega
     ·rw[show 0+(((j+1:Nat):Int)-1).toNat*7=j*7 from by omega];exact cellsFl_set _ r j _ (by rw[List.length_set];omega)
     refine J.q hX λ_=>?_;rw[show((j+1:Nat):Int)-1=(j:Int)from by omega];refine J.q hX λ_=>?_;refine J.nS ((j,swpF m (j+1))) (⟨by dsimp only;omega,by rw[swpF_len];exact hI.2.1,by rw[<- hI.2.2];exact(if_pos h3).symm⟩) (by dsimp only;omega) [0,1] rfl rfl
    ·refine J.val hX (flV (m.getD (j+1) dF)) 0 rfl rfl (λhg a w he hs=>?_) rfl trivial ?_
     ·exact loadN_run tk rfl rfl he hg rfl rfl (hs.get (i:=1) rfl) (by rw[show 0+((j+1:Nat):Int).toNat*7=(j+1)*7 from by omega];exact cellsFl_at m r _ _ (hget _ (by omega))) rfl
     refine J.q hX λ_=>?_;refine J.val hX (flV (m.getD j dF)) 0 rfl rfl (λhg a w he hs=>?_) rfl trivial ?_
     ·exact loadN_run tk rfl rfl he hg rfl rfl (hs.get (i:=1) rfl) (by rw[show 0+(((j+1:Nat):Int)-1).toNat*7=j*7 from by omega];exact cellsFl_at m r _ _ (hget _ (by omega))) rfl
     refine J.q hX λ_=>?_;refine J.storeN hX tk 1 rfl rfl rfl rfl rfl rfl rfl rfl rfl rfl rfl rfl rfl ?_ (cellsFl (m.set (j+1) (m.getD j dF))++r) ?_ rfl (λ_=>rfl) ⟨trivial,?_⟩
     ·rw[List.length_append,cellsFl_len];show 0+((j+1:Nat):Int).toNat*7+7<=_;omega
     ·rw[show 0+((j+1:Nat):Int).toNat*7=(j+1)*7 from by omega];exact cellsFl_set m r (j+1) _ (by omega)
     refine J.q hX λ_=>?_;refine J.storeN hX tk 1 rfl rfl rfl rfl rfl rfl rfl rfl rfl rfl rfl rfl rfl ?_ (cellsFl (swpF m (j+1))++r) ?_ rfl (λ_=>rfl) ⟨trivial,?_⟩
     ·rw[List.length_append,cellsFl_len,List.length_set];show 0+(((j+1:Nat):Int)-1).toNat*7+7<=_;omega
     ·rw[show 0+(((j+1:Nat):Int)-1).toNat*7=j*7 from by omega];exact cellsFl_set _ r j _ (by rw[List.length_set];omega)
     refine J.q hX λ_=>?_;rw[show((j+1:Nat):Int)-1=(j:Int)from by omega];refine J.q hX λ_=>?_;refine J.nS ((j,swpF m (j+1))) (⟨by dsimp only;omega,by rw[swpF_len];exact hI.2.1,by rw[<- hI.2.2];exact(if_pos h3).symm⟩) (by dsimp only;omega) [0,1] rfl rfl
   ·simp only[Bool.true_and,decide_eq_false_iff_not]at h3;have hm:m=isortFN f l (i+1-1):=by rw[show i+1-1=i from rfl,<- hI.2.2];exact(if_neg h3).symm
    rw[hm];refine J.q hX λ_=>?_;refine J.nS (i+1) (⟨by omega,by omega⟩) (by omega) [0,1] rfl rfl
 ·simp only[decide_eq_false_iff_not,Int.ofNat_lt]at h1;have hi:isortFN f l (i-1)=isortF f l:=by
   rw[isortF,hl,show i-1=n-1 from by omega]
  rw[hi];refine J.q hX λ_=>?_;refine J.fi hX tk [1] rfl rfl rfl ?_;exact⟨rfl,rfl⟩
def lenT (x:Nat):Nat:=([0,1,2,2,3,3,3,3,4,4,4,4,4]:List Nat).getD x 0
theorem str9:Tryz.prog.underlying 9=some .string:=by kernel_rfl
theorem indexStr_run {P:Program} {E:Env} {w:World} {n0:Nat} {a:Act} {o:Oper} {ty:TypeId} {s:ByteArray} {y:Operand} {k tg:Nat} {g:G} {ik:IntKind} {i:Int} {b:UInt8} (hop:o.op= .index ty (.const (.string s)) y) (hy:ev E y=some ⟨k, .int ik i,tg,g⟩) (he:EnvOK n0 E a) (hg:g.on=true) (hd:P.underlying ty=some .string)
  (h0:0<=i) (hb:s.data.toList[i.toNat]? =some b):(execOp a.eval o).run P w= .ok (.value (.int .u8 b.toNat)) w:=by
 have ey:=ev_spec he hy;simp only[Slot.val,hg]at ey;have h1:=run_index_string (P:=P) (w:=w) ty s ik i hd;have hlt:i.toNat<s.size:=(List.getElem?_eq_some_iff.1 hb).1;have hv:s[i.toNat]'hlt=b:=by
  have:=(List.getElem?_eq_some_iff.1 hb).2;rw[<- this];rfl
 rw[dif_pos ⟨h0,by omega⟩,hv]at h1;simp only[execOp,hop,ey,Sem.run_bind];have e1:a.eval (.const (.string s))= .string s:=rfl;rw[e1,h1];rfl
theorem lenT_le {x:Nat} (hx:x<=12):lenT x<=4:=by
 obtain rfl | rfl | rfl | rfl | rfl | rfl | rfl | rfl | rfl | rfl | rfl | rfl | rfl:x=0\/x=1\/x=2\/x=3\/x=4\/x=5\/x=6\/x=7\/x=8\/x=9\/x=10\/x=11\/x=12:=by omega
 all_goals decide
theorem b_Len64 (x:Nat) (hx:x<=12):Fn Tryz.prog 226 [.int .u64 x] [] (λv As=>(∃k:Nat,k<=8/\v= .int .i64 k)/\As=[]):=by
 have h4:=lenT_le hx;refine Fn.enter [0] Tryz.func226 rfl rfl rfl λX F hX=>?_;refine J.q hX λ_=>?_;refine J.cond rfl (λh1=>?_) (λh1=>?_)
 ·simp only[decide_eq_true_eq]at h1;omega
 refine J.q hX λ_=>?_;refine J.cond rfl (λh2=>?_) (λh2=>?_)
 ·simp only[decide_eq_true_eq]at h2;omega
 refine J.q hX λ_=>?_;refine J.cond rfl (λh3=>?_) (λh3=>?_)
 ·simp only[decide_eq_true_eq]at h3;omega
 refine J.q hX λ_=>?_;refine J.val hX (.int .u8 (UInt8.ofNat (lenT x)).toNat) 0 rfl rfl (λhg a w he hs=>?_) rfl trivial ?_
 ·refine indexStr_run rfl rfl he rfl str9 (by omega) ?_;obtain rfl | rfl | rfl | rfl | rfl | rfl | rfl | rfl | rfl | rfl | rfl | rfl | rfl:x=0\/x=1\/x=2\/x=3\/x=4\/x=5\/x=6\/x=7\/x=8\/x=9\/x=10\/x=11\/x=12:=by omega
  all_goals rfl
 have h5:(UInt8.ofNat (lenT x)).toNat=lenT x:=by rw[UInt8.toNat_ofNat'];omega
 rw[h5];refine J.q hX λ_=>?_;refine J.ru hX [] ?_;exact⟨⟨lenT x,by omega,by simp⟩,rfl⟩
theorem b_Len (x:Nat) (hx:x<=12):Fn Tryz.prog 168 [.int .u64 x] [] (λv As=>(∃k:Nat,k<=8/\v= .int .i64 k)/\As=[]):=by
 refine Fn.enter [0] Tryz.func168 rfl rfl rfl λX F hX=>?_;refine J.q hX λ_=>?_;refine J.cF ?_;refine J.q hX λ_=>?_;refine J.cb hX (b_Len64 x hx) [] ?_;rintro v As ⟨⟨k,hk,rfl⟩,rfl⟩;refine⟨_,rfl,trivial,?_⟩;refine J.q hX λ_=>?_;refine J.ru hX [] ?_;exact⟨⟨k,hk,rfl⟩,rfl⟩
theorem p_Sort (c:Nat) (f:A3->A3->Int) (hcal:callable Tryz.prog c=true) (hf:∀x y,Fn Tryz.prog c [aggA x,aggA y] [] (λv As=>v= .int .i64 (f x y)/\As=[]))
  (g n cap:Nat) (l:List A3) (hl:l.length=n) (hn:n<=12) (r:List Value) (k:Nat):Fn Tryz.prog 285 [.slice (some ⟨g,0,none⟩) n cap, .int .i64 0, .int .i64 n, .int .i64 k,fnV c] [.pt g 32 (cellsA l++r)]
  (λv As=>v= .tuple #[]/\As=[.pt g 32 (cellsA (isort f l)++r)]):=by
 refine Fn.enter [2,0,0,0,0] Tryz.func285 rfl rfl rfl λX F hX=>?_;refine J.q hX λ_=>?_;refine J.lo (α:=Nat) (λy=>True) (λy=>[⟨0, .slice (some ⟨g,0,none⟩) n cap,2, .tt⟩,⟨1, .int .i64 0,0, .tt⟩,⟨2, .int .i64 n,0, .tt⟩,⟨3, .int .i64 k,0, .tt⟩,⟨4,fnV c,0, .tt⟩]) [1] (λy=>[.pt g 32 (cellsA l++r)]) (λy=>0) (0) (trivial) rfl ?_ (λ_=>rfl) λy hI=>?_
 ·rfl
 refine J.q hX λ_=>?_;refine J.cond rfl (λh1=>?_) (λh1=>?_)
 ·refine J.q hX λ_=>?_;rw[show(n:Int)-0=n from by omega]at*;refine J.q hX λ_=>?_;refine J.cb hX (i_Sort c f hcal hf g n cap l hl (by omega) r) [1] ?_;refine cpq ⟨_,rfl,trivial,?_⟩;refine J.q hX λ_=>?_;exact J.ru hX [1] ⟨rfl,rfl⟩
 ·simp only[decide_eq_false_iff_not]at h1;omega
theorem p_Sort0 (c:Nat) (d:Value) (k:Nat):Fn Tryz.prog 285 [d, .int .i64 0, .int .i64 0, .int .i64 k,fnV c] [] (λv As=>v= .tuple #[]/\As=[]):=by
 have h0:Fn Tryz.prog 288 [d, .int .i64 0, .int .i64 0,fnV c] [] (λv As=>v= .tuple #[]/\As=[]):=by
  refine Fn.enter [0,0,0,0] Tryz.func288 rfl rfl rfl λX F hX=>?_;refine J.q hX λ_=>?_;refine J.lo (α:=Nat) (λy=>True) (λy=>[⟨8, .int .i64 (0+1),0, .tt⟩,⟨0,d,0, .tt⟩,⟨1, .int .i64 0,0, .tt⟩,⟨2, .int .i64 0,0, .tt⟩,⟨3,fnV c,0, .tt⟩]) [] (λy=>[]) (λy=>0) (0) (trivial) rfl ?_ (λ_=>rfl) λy hI=>?_
  ·rfl
  refine J.q hX λ_=>?_;refine J.cond rfl (λh1=>?_) (λh1=>?_)
  ·simp at h1
  ·refine J.q hX λ_=>?_;refine J.fi hX tk [] rfl rfl rfl ?_;exact⟨rfl,rfl⟩
 refine Fn.enter [0,0,0,0,0] Tryz.func285 rfl rfl rfl λX F hX=>?_;refine J.q hX λ_=>?_;refine J.lo (α:=Nat) (λy=>True) (λy=>[⟨0,d,0, .tt⟩,⟨1, .int .i64 0,0, .tt⟩,⟨2, .int .i64 0,0, .tt⟩,⟨3, .int .i64 k,0, .tt⟩,⟨4,fnV c,0, .tt⟩]) [] (λy=>[]) (λy=>0) (0) (trivial) rfl ?_ (λ_=>rfl) λy hI=>?_
 ·rfl
 refine J.q hX λ_=>?_;refine J.cond rfl (λh1=>?_) (λh1=>?_)
 ·refine J.q hX λ_=>?_;refine J.cb hX (h0) [] ?_;refine cpq ⟨_,rfl,trivial,?_⟩;refine J.q hX λ_=>?_;exact J.ru hX [] ⟨rfl,rfl⟩
 ·simp at h1
theorem s_SortFunc (c:Nat) (f:A3->A3->Int) (hcal:callable Tryz.prog c=true) (hf:∀x y,Fn Tryz.prog c [aggA x,aggA y] [] (λv As=>v= .int .i64 (f x y)/\As=[]))
  (a:Option Nat) (n cap:Nat) (l:List A3) (hl:l.length=n) (hn:n<=12):Fn Tryz.prog 279 [slv a n cap,fnV c] [ownA 32 3 a n cap (cellsA l)]
  (λv As=>v= .tuple #[]/\As=[ownA 32 3 a n cap (cellsA (isort f l))]):=by
 refine Fn.enter [0,0] Tryz.func279 rfl rfl rfl λX F hX=>?_;refine J.q hX λ_=>?_;refine J.cb hX (b_Len n hn) [] ?_;rintro v As ⟨⟨k,hk,rfl⟩,rfl⟩;refine⟨_,rfl,trivial,?_⟩;refine J.q hX λ_=>?_;cases a with
 | none=>
  refine J.know (λh' s=>(s.get (i:=1) rfl).2.1) λhn0=>?_;subst hn0;have:l=[]:=List.eq_nil_of_length_eq_zero hl;subst this;refine J.q hX λ_=>?_;refine J.cb hX (p_Sort0 c (slv none 0 cap) k) [] ?_;refine cpq ⟨_,rfl,trivial,?_⟩;refine J.q hX λ_=>?_;refine J.fi hX tk [1] rfl rfl rfl ?_;exact⟨rfl,rfl⟩
 | some g=>
  refine J.openOwn 1 rfl rfl (λ_=>rfl) λr q1 q2 q3 q4=>?_;refine J.q hX λ_=>?_;refine J.cb hX (p_Sort c f hcal hf g n cap l hl hn r k) [1] ?_;refine cpq ⟨_,rfl,trivial,?_⟩;refine J.closeOwn (e:=32) (size:=3) (n:=n) (cap:=cap) (xs:=cellsA (isort f l)) 1 rfl rfl (by rw[cellsA_len,(isort_perm f l).length_eq,hl]) q2 q3 (by rw[List.length_append,cellsA_len,(isort_perm f l).length_eq];rw[cellsA_len]at q4;exact q4) (by rw[List.take_left' (by rw[cellsA_len,(isort_perm f l).length_eq,hl])]) rfl ?_;refine J.q hX λ_=>?_;refine J.fi hX tk [1] rfl rfl rfl ?_;exact⟨rfl,rfl⟩
theorem nodup_le:∀(n:Nat) (is:List Nat),is.Nodup->(∀i∈is,i<n)->is.length<=n
 | 0,is,_,h=>by
  cases is with
  | nil=>simp
  | cons x r=>have:=h x (by simp);omega
 | n+1,is,hn,h=>by
  have h1:=nodup_le n (is.erase n) (hn.erase n) (λi hi=>by
   rw[hn.mem_erase_iff]at hi;have:=h i hi.2;omega)
  rw[List.length_erase]at h1;split at h1<;>omega
def pickA (l:List A3) (is:List Nat):List A3:=is.map λi=>l.getD i d3
theorem pickA_perm {l:List A3} {is:List Nat} (h:is.Perm (List.range l.length)):(pickA l is).Perm l:=by
 have h1:=h.map λi=>l.getD i d3;have h2:(List.range l.length).map (λi=>l.getD i d3)=l:=by
  apply List.ext_getElem?;intro k;rw[List.getElem?_map]
  by_cases hk:k<l.length
  ·rw[List.getElem?_range hk];simp[hk]
  ·rw[List.getElem?_eq_none (by simpa using hk),List.getElem?_eq_none (by simpa using hk)];rfl
 rwa [h2]at h1
theorem pickA_snoc {l:List A3} {is:List Nat} {j:Nat} {y:A3×Value} (hy:(trues l)[j]? =some y):cellsA (pickA l is)++[.int .i64 y.1.1, .int .i64 y.1.2.1, .int .i64 y.1.2.2]=cellsA (pickA l (is++[j])):=by
 rw[trues,List.getElem?_map]at hy;cases h:l[j]? with
 | none=>rw[h]at hy;cases hy
 | some x=>
  rw[h]at hy;simp at hy;subst hy;simp[cellsA,pickA,h]
theorem s_All (q:Nat) (l:List A3) (hl:l.length<=12):Fn Tryz.prog 263 [.pointer (some ⟨q,0,none⟩)] [SpotA q l]
  (λv As=>∃a cap l',l'.Perm l/\v=slv a l'.length cap/\As=[SpotA q l,ownA 32 3 a l'.length cap (cellsA l')]):=by
 refine Fn.enter [2] Tryz.func263 rfl rfl rfl λX F hX=>?_;refine J.open_ (α:=Nat) 1 rfl rfl (λ_=>rfl) λmr=>?_;refine J.q hX λ_=>?_;refine J.cF ?_;refine J.q hX λ_=>?_;refine J.rangeMap hX 2 umap rfl rfl rfl rfl rfl rfl rfl (λ_=>rfl) (λ_=>rfl) λr=>⟨trivial,?_⟩;refine J.turn1 [] rfl (As:=[ownA 32 3 none 0 0 (cellsA (pickA l []))]) (λh s=>Sep.one ⟨rfl,rfl,rfl⟩) rfl ?_;refine J.q hX λ_=>?_;refine J.lo (α:=(List Nat×Option Nat×Nat)) (λx=>True) (λx=>[⟨11, .pointer (some ⟨r,0,none⟩),0, .tt⟩,⟨3,slv x.2.1 x.1.length x.2.2,0, .tt⟩]) [2,3] (λx=>[itA mr r a3v (trues l) x.1,ownA 32 3 x.2.1 x.1.length x.2.2 (cellsA (pickA l x.1))]) (λx=>l.length-x.1.length) (([],none,0)) (trivial) rfl ?_ (λ_=>rfl) λx hI=>?_
 ·rfl
 obtain⟨is,a,cap⟩:=x;dsimp only;refine J.q hX λ_=>?_;refine J.know (p:=is.Nodup/\∀i∈is,i<l.length) (λh s=>?_) λhk=>?_
 ·obtain⟨_,_,_,_,_,_,_,_,h1,h2,_⟩:=s.get (i:=2) rfl;exact⟨h1,λi hi=>by have:=h2 i hi;simpa[trues]using this⟩
 have hle:=nodup_le _ _ hk.1 hk.2;refine J.rangeNext hX 2 rfl rfl rfl rfl rfl rfl rfl (λ_=>rfl) (λ_=>rfl) (λhp=>⟨trivial,?_⟩) (λj y hj hy=>⟨trivial,?_⟩)
 ·rw[show(trues l).length=l.length from by simp[trues]]at hp;refine J.q hX λ_=>?_;refine J.cF ?_;refine J.q hX λ_=>?_;refine J.cb hX (s_SortFunc 280 ordI (by kernel_rfl) s_order a is.length cap (pickA l is) (by simp[pickA]) (by omega)) [3] ?_;refine cpq ⟨_,rfl,trivial,?_⟩;refine J.turn1 [2] rfl (As:=[mapA mr a3v (trues l)]) (λh s=>it_map s) rfl ?_;refine J.close (f:=λmr:Nat=>[.pt q 179 [.map (some mr)],mapA mr a3v (trues l)]) mr [1,2] rfl rfl rfl ?_;refine J.q hX λ_=>?_;refine J.ru hX [1,3] ?_;have hlen:is.length=(isort ordI (pickA l is)).length:=by rw[(isort_perm _ _).length_eq];simp[pickA]
  refine⟨a,cap,isort ordI (pickA l is),(isort_perm _ _).trans (pickA_perm hp),?_,?_⟩
  ·rw[<- hlen]
  ·rw[<- hlen];rfl
 ·have hjl:j<l.length:=by have:=(List.getElem?_eq_some_iff.1 hy).1;simpa[trues]using this
  refine J.q hX λ_=>?_;refine J.cT ?_;refine J.q hX λ_=>?_;have hlt:(is++[j]).length<=l.length:=nodup_le _ _ (by
   rw[List.nodup_append];exact⟨hk.1,by simp,λa ha b hb=>by simp at hb;subst hb;rintro rfl;exact hj ha⟩) (λi hi=>by
   rw[List.mem_append]at hi;rcases hi with hi | hi
   ·exact hk.2 i hi
   ·simp at hi;subst hi;exact hjl)
  rw[List.length_append,List.length_singleton]at hlt;refine J.rangeEntry hX 2 rfl rfl rfl rfl rfl rfl rfl hy rfl ⟨trivial,?_⟩;refine J.q hX λ_=>?_;refine J.append hX tk 3 5 0 rfl rfl rfl rfl rfl rfl rfl rfl rfl rfl rfl rfl rfl rfl rfl rfl ?_ ?_ (λ_=>rfl) λa' cap'=>⟨_,(congrArg (λz=>lset _ 3 (ownA _ _ _ _ _ z)) (pickA_snoc hy)).trans rfl,trivial,?_⟩
  ·simp only[maxLen];omega
  ·omega
  refine J.q hX λ_=>?_;rw[show is.length+1=(is++[j]).length from by simp];refine J.q hX λ_=>?_;refine J.nS ((is++[j],a',cap')) (trivial) (by dsimp only;rw[List.length_append,List.length_singleton];omega) [0,1,2,3] rfl rfl
theorem Sep.pack {A:Atom} {Pre:List Atom} {h:Hl} (s:Sep (A::Pre) h):Sep [A, .hp (HP.of Pre)] h:=by
 obtain⟨own,hw⟩:=s;refine⟨λb=>min (own b) 1,λi B hB=>?_⟩
 match i,hB with
 | 0,hB=>
  simp at hB;subst hB;refine Atom.up (λb o hb=>?_) (hw 0 A rfl);rw[res_some]at hb ⊢;exact⟨by rw[hb.1];rfl,hb.2⟩
 | 1,hB=>
  simp at hB;subst hB;refine⟨λb=>own b-1,λj B hB=>?_⟩;refine Atom.up (λb o hb=>?_) (hw (j+1) B (by simpa using hB));rw[res_some]at hb ⊢;refine⟨by rw[hb.1];rfl,?_⟩;rw[res_some];exact⟨by rw[hb.1];omega,hb.2⟩
 | k+2,hB=>simp at hB
theorem Sep.unpack {A:Atom} {Pre:List Atom} {h:Hl} (s:Sep [A, .hp (HP.of Pre)] h):Sep (A::Pre) h:=by
 obtain⟨own,hw⟩:=s;obtain⟨own2,hw2⟩:Sep Pre (res h own 1):=hw 1 _ rfl;refine⟨λb=>if own b=1 then own2 b+1 else 0,λi B hB=>?_⟩;cases i with
 | zero=>
  simp at hB;subst hB;refine Atom.up (λb o hb=>?_) (hw 0 A rfl);rw[res_some]at hb ⊢;exact⟨by rw[if_neg (by omega)],hb.2⟩
 | succ j=>
  refine Atom.up (λb o hb=>?_) (hw2 j B (by simpa using hB));rw[res_some]at hb ⊢;have h1:=res_some.1 hb.2;exact⟨by rw[if_pos h1.1,hb.1],h1.2⟩
theorem Fn.pack {P:Program} {f:FuncId} {args:List Value} {Pre:List Atom} {q:Value->Prop} (c:Fn P f args Pre (λv As=>q v/\As=Pre)):Fn P f args [.hp (HP.of Pre)] (λv As=>q v/\As=[.hp (HP.of Pre)]):=by
 intro F w s;refine Calls.mono (c F w (Sep.unpack s)) λe w' ⟨v,As,h1,h2,h3,h4⟩=>?_;obtain⟨h5,rfl⟩:=h2;exact⟨v,_,h1,⟨h5,rfl⟩,Sep.pack h3,h4⟩
section
variable {X : Cx} {P : Program} {T : Tab} {K : List KI} {E : Env} {L : List Atom} {N : Nat} {F : HP} {Post : Value → List Atom → Prop} {rs : List ResultVar}
theorem J.clear (hX:IsCx X P rs N F Post) (hT:TabOK P T) {ops:Array Oper} {C:Cl} {lt:Bool} {i:Nat} {t:PT} {o:Oper} {g:G} {x:Operand} {k1 t1 b off n c st e ty size s1 b1 by_:Nat} {g1:G} {z z1:List Value} {td:TD} {cs:List Value} {E':Value->Env} {L2:List Value->List Atom} (is:Nat)
  (ho:lget ops.toList i=some o) (hg:gd ops.toList E o=some g) (hgo:g.on=true) (hop:o.op= .call ⟨.builtin .clear,#[x],#[st]⟩) (hx:ev E x=some ⟨k1, .slice (some ⟨b,off,none⟩) n c,t1,g1⟩) (v1:g1.on=true)
  (hst:T.get st=some ⟨.slice e size,s1,z1,b1⟩) (he:T.get e=some ⟨td,size,z,by_⟩) (hz:Nat.beq z.length size=true) (hz1:z.all (·.oneCell')=true) (hL:lget L is=some (.pt b ty cs)) (hlt:off+n*size<=cs.length)
  (hL2:∀cs',lset L is (.pt b ty cs')=some (L2 cs')) (hd:∀v,putE N o.dst v 0 .tt E=some (E' v))
  (hJ:∀cs',cs'.length=cs.length->cs'.take off=cs.take off->Conj (staysL lt C (L2 cs'))/\J X (.reg ops C t::K) (E' (.tuple #[])) (L2 cs')):J X (.reg ops C (.alt lt i t .non)::K) E L:=by
 refine J.op hX (S:=λv' L'=>∃cs',cs'.length=cs.length/\cs'.take off=cs.take off/\v'= .tuple #[]/\L'=L.set is (.pt b ty cs')) 0 ho hg hgo (λa0 w hen hs=>?_) hd (λv L' ⟨cs',q1,q2,e1,e2⟩=>by subst e1;subst e2;rw[<- lset_eq (hL2 cs')];exact hJ cs' q1 q2);rw[lget_eq]at hL;have ex:=ev_spec hen hx;simp only[Slot.val,v1]at ex;obtain⟨d,f,zv,ok⟩:=tiOf_spec (hT.get hst);obtain⟨fe,rfl,g1',g2'⟩:=ok.slice rfl;obtain⟨d',f',zv',ok'⟩:=tiOf_spec (hT.get he);have hzl:zv'.cells.toList=z:=ok'.hzero.symm;have hzn:zv'.cells.size=size:=by rw[<- Array.length_toList,hzl];exact Nat.eq_of_beq_eq_true hz
 have hblk:Blk w b ty cs.toArray:=hs.pt hL;cases n with
 | zero=>
  refine⟨_,L.set is (.pt b ty cs), .value (.tuple #[]),w,⟨cs,rfl,rfl,rfl,rfl⟩,?_, .inl rfl,?_,Ext.refl _⟩
  ·simp[execOp,hop,ex,resolve,invoke,builtin,Builtin.clear_,underlying_run ok.hd]
  ·have e:L.set is (.pt b ty cs)=L:=by
    apply List.ext_getElem?;intro j;rw[List.getElem?_set];split
    ·rename_i e;subst e;rw[if_pos (List.getElem?_eq_some_iff.1 hL).1,hL]
    ·rfl
   rw[e];exact hs
 | succ n=>
  have hlen:(Builtin.zeroCells zv'.cells (n+1)).toList.length=(n+1)*size:=by rw[Array.length_toList,size_zeroCells,hzn]
  have hall:(Builtin.zeroCells zv'.cells (n+1)).toList.all (·.oneCell')=true:=by
   rw[List.all_eq_true];intro u hu;simp only[Builtin.zeroCells,Array.toList_map,List.mem_map]at hu;obtain⟨k,hk,rfl⟩:=hu;have hk':k<(n+1)*zv'.cells.size:=by simpa using hk
   have hpos:0<zv'.cells.size:=by
    rcases Nat.eq_zero_or_pos zv'.cells.size with h0 | h0
    ·rw[h0]at hk';omega
    ·exact h0
   have hm:=Nat.mod_lt k hpos;rw[getElem!_pos zv'.cells (k % zv'.cells.size) hm];rw[List.all_eq_true]at hz1;apply hz1;rw[<- hzl];simp
  obtain⟨w',r1,r2,r3⟩:=storeCells_run (P:=P) (o:=off) (Builtin.zeroCells zv'.cells (n+1)).toList 0 w cs _ hblk (by rw[Nat.add_zero];exact lput_gen cs off _ (by rw[hlen];exact hlt)) hall;have hr:(execOp a0.eval o).run P w= .ok (.value (.tuple #[])) w':=by
   simp[execOp,hop,ex,resolve,invoke,builtin,Builtin.clear_,underlying_run ok.hd,zero_run ok'.hf ok'.hz,r1]
  clear r1;generalize Builtin.zeroCells zv'.cells (n+1)=Z at hlen r2;have k1:(cs.take off++Z.toList++cs.drop (off+Z.toList.length)).length=cs.length:=by
   simp only[List.length_append,List.length_take,List.length_drop,hlen];omega
  have k2:(cs.take off++Z.toList++cs.drop (off+Z.toList.length)).take off=cs.take off:=by
   rw[List.append_assoc,List.take_append_of_le_length (by simp;omega),List.take_take,Nat.min_self]
  refine⟨_,L.set is (.pt b ty (cs.take off++Z.toList++cs.drop (off+Z.toList.length))), .value (.tuple #[]),w',⟨_,k1,k2,rfl,rfl⟩,?_, .inl rfl,?_,r3⟩
  ·exact hr
  ·rw[r2];exact hs.setPt _ hL
end
def fnC (c:Nat) (cs:List Value):Value:= .func (.func c) #[] cs.toArray
def idxI (p:A3->Bool) (l:List A3):Int:=match l.findIdx? p with
 | some k=>k
 | none=> -1
theorem cellsA_get {l:List A3} {k:Nat} {x:A3} (h:l[k]? =some x):((cellsA l).drop (k*3)).take 3=[.int .i64 x.1, .int .i64 x.2.1, .int .i64 x.2.2]:=by
 have:=cellsA_at l [] k x h
 rwa [List.append_nil]at this
theorem idx_step {p:A3->Bool} {l:List A3} {k:Nat} {x:A3} (h:l[k]? =some x) (h0:∀i<k,p (l.getD i d3)=false) (hp:p x=true):l.findIdx? p=some k:=by
 rw[List.findIdx?_eq_some_iff_getElem];obtain⟨h1,h2⟩:=List.getElem?_eq_some_iff.1 h;refine⟨h1,by rw[h2];exact hp,λj hj=>?_⟩;have:=h0 j hj;rw[List.getD_eq_getElem?_getD,List.getElem?_eq_getElem (by omega),Option.getD_some]at this;simp[this]
theorem idx_none {p:A3->Bool} {l:List A3} (h0:∀i<l.length,p (l.getD i d3)=false):l.findIdx? p=none:=by
 rw[List.findIdx?_eq_none_iff];intro x hx;obtain⟨i,hi,rfl⟩:=List.mem_iff_getElem.1 hx;have:=h0 i hi
 rwa [List.getD_eq_getElem?_getD,List.getElem?_eq_getElem hi,Option.getD_some]at this
theorem x_Index (c:Nat) (cs:List Value) (p:A3->Bool) (A:Atom) (hcal:callable Tryz.prog c=true) (hf:∀x,Fn Tryz.prog c (aggA x::cs) [A] (λv As=>v= .bool (p x)/\As=[A]))
  (a:Option Nat) (n cap:Nat) (l:List A3) (hl:l.length=n) (hn:n<=4611686018427387904):Fn Tryz.prog 278 [slv a n cap,fnC c cs] [ownA 32 3 a n cap (cellsA l),A]
  (λv As=>v= .int .i64 (idxI p l)/\As=[ownA 32 3 a n cap (cellsA l),A]):=by
 refine Fn.enter [0,0] Tryz.func278 rfl rfl rfl λX F hX=>?_;refine J.q hX λ_=>?_;refine J.lo (α:=Nat) (λk=>k<=n/\∀i<k,p (l.getD i d3)=false) (λk=>[⟨8, .int .i64 k,0, .tt⟩,⟨7, .int .i64 n,0, .tt⟩,⟨0,slv a n cap,0, .tt⟩,⟨1,fnC c cs,0, .tt⟩]) [] (λk=>[]) (λk=>n-k) (0) (⟨by omega,by omega⟩) rfl ?_ (λ_=>rfl) λk hI=>?_
 ·rfl
 refine J.q hX λ_=>?_;refine J.cond rfl (λh1=>?_) (λh1=>?_)
 ·simp only[decide_eq_true_eq,Int.ofNat_lt]at h1;cases a with
  | none=>
   refine J.know (λh' s=>(s.get (i:=1) rfl).2.1) λhn0=>?_;omega
  | some g=>
   have hk:l[k]? =some (l.getD k d3):=by rw[List.getD_eq_getElem?_getD,List.getElem?_eq_getElem (by omega),Option.getD_some]
   refine J.q hX λ_=>?_;refine J.val hX (aggA (l.getD k d3)) 0 rfl rfl (λhg a w he hs=>?_) rfl trivial ?_
   ·exact ownN_run tk rfl rfl he rfl rfl rfl (hs.get (i:=1) rfl) (by rw[show 0+(k:Int).toNat*3=k*3 from by omega];exact cellsA_get hk) rfl
   refine J.q hX λ_=>?_;refine J.call hX hcal (hf (l.getD k d3)) [2] 0 rfl rfl rfl rfl (by(repeat' (first | exact Conj.nil | refine Conj.cons ?_ ?_ | omega | exact hq0 | (simpa using hq0) | (exactλh=>h) | exact rfl | (intro hq;have hq0:=hq;try simp only[Bool.and_eq_true,Bool.or_eq_true,decide_eq_true_eq,Bool.not_eq_true',decide_eq_false_iff_not]at hq) | (simp;done) | (simp;omega) | decide))) rfl rfl (λ_=>rfl) ?_;refine cpq ⟨_,rfl,trivial,?_⟩;refine J.q hX λ_=>?_;refine J.cond rfl (λh2=>?_) (λh2=>?_)
   ·refine J.q hX λ_=>?_;refine J.ru hX [1,2] ?_;exact⟨by rw[idxI,idx_step hk hI.2 h2],rfl⟩
   ·refine J.q hX λ_=>?_;refine J.nx (k+1) (⟨by omega,λi hi=>by
     rcases Nat.lt_succ_iff_lt_or_eq.1 hi with h3 | h3
     ·exact hI.2 i h3
     ·rw[h3];exact h2⟩) (by omega) (λ_ s=>s)
 ·simp only[decide_eq_false_iff_not,Int.ofNat_lt]at h1;refine J.q hX λ_=>?_;refine J.ru hX [1,2] ?_;exact⟨by rw[idxI,idx_none (λi hi=>hI.2 i (by omega))],rfl⟩
def DelI (p:A3->Bool) (l m:List A3) (i j:Nat):Prop:=m.length=l.length/\i<j/\j<=l.length/\m.drop j=l.drop j/\m.take i++(l.drop j).filter (λx=>!p x)=l.filter (λx=>!p x)
theorem DelI.start {p:A3->Bool} {l:List A3} {k:Nat} (h:l.findIdx? p=some k):DelI p l l k (k+1):=by
 rw[List.findIdx?_eq_some_iff_getElem]at h;obtain⟨h1,h2,h3⟩:=h;refine⟨rfl,by omega,by omega,rfl,?_⟩;have e:l=l.take k++l[k]::l.drop (k+1):=by rw[<- List.drop_eq_getElem_cons h1,List.take_append_drop]
 have e2:(l.take k).filter (λx=>!p x)=l.take k:=by
  rw[List.filter_eq_self];intro x hx;obtain⟨i,hi,rfl⟩:=List.mem_iff_getElem.1 hx;rw[List.getElem_take];have:=h3 i (by simp at hi;omega);simpa using this
 conv=>rhs;rw[e]
 rw[List.filter_append,e2,List.filter_cons_of_neg (by simp[h2])]
theorem DelI.skip {p:A3->Bool} {l m:List A3} {i j:Nat} (h:DelI p l m i j) (hj:j<l.length) (hp:p (m.getD j d3)=true):DelI p l m i (j+1):=by
 obtain⟨h1,h2,h3,h4,h5⟩:=h;have e1:m[j]? =l[j]?:=by have:=congrArg (λz=>z[0]?) h4;simpa using this
 have hx:l[j]=m.getD j d3:=by rw[List.getD_eq_getElem?_getD,e1,List.getElem?_eq_getElem hj,Option.getD_some]
 refine⟨h1,by omega,by omega,?_,?_⟩
 ·have:=congrArg (List.drop 1) h4;simpa[List.drop_drop]using this
 ·rw[<- h5,List.drop_eq_getElem_cons hj,List.filter_cons_of_neg (by rw[hx,hp];simp)]
theorem DelI.keep {p:A3->Bool} {l m:List A3} {i j:Nat} (h:DelI p l m i j) (hj:j<l.length) (hp:p (m.getD j d3)=false):DelI p l (m.set i (m.getD j d3)) (i+1) (j+1):=by
 obtain⟨h1,h2,h3,h4,h5⟩:=h;have e1:m[j]? =l[j]?:=by have:=congrArg (λz=>z[0]?) h4;simpa using this
 have hx:l[j]=m.getD j d3:=by rw[List.getD_eq_getElem?_getD,e1,List.getElem?_eq_getElem hj,Option.getD_some]
 refine⟨by simp[h1],by omega,by omega,?_,?_⟩
 ·rw[List.drop_set_of_lt (by omega)];have:=congrArg (List.drop 1) h4;simpa[List.drop_drop]using this
 ·rw[<- h5,List.drop_eq_getElem_cons hj,List.filter_cons_of_pos (by rw[hx,hp];simp),hx,List.take_set,List.take_add_one,List.getElem?_eq_getElem (by omega)];rw[List.set_append_right _ _ (by simp;omega)];simp[List.length_take,Nat.min_eq_left (show i<=m.length by omega)]
theorem x_Delete (c:Nat) (cs:List Value) (p:A3->Bool) (A:Atom) (hcal:callable Tryz.prog c=true) (hf:∀x,Fn Tryz.prog c (aggA x::cs) [A] (λv As=>v= .bool (p x)/\As=[A]))
  (a:Option Nat) (n cap:Nat) (l:List A3) (hl:l.length=n) (hn:n<=4611686018427387904):Fn Tryz.prog 262 [slv a n cap,fnC c cs] [ownA 32 3 a n cap (cellsA l),A]
  (λv As=>∃l',l'=l.filter (λx=>!p x)/\v=slv a l'.length cap/\As=[ownA 32 3 a l'.length cap (cellsA l'),A]):=by
 refine Fn.enter [0,0] Tryz.func262 rfl rfl rfl λX F hX=>?_;refine J.q hX λ_=>?_;refine J.cb hX (x_Index c cs p A hcal hf a n cap l hl hn) [1,2] ?_;refine cpq ⟨_,rfl,trivial,?_⟩;rw[idxI];cases hx:l.findIdx? p with
 | none=>
  dsimp only;refine J.q hX λ_=>?_;refine J.cT ?_;refine J.q hX λ_=>?_;refine J.ru hX [1,2] ?_;have:l.filter (λx=>!p x)=l:=by
   rw[List.filter_eq_self];intro x hm;rw[List.findIdx?_eq_none_iff]at hx;simp[hx x hm]
  exact⟨l,this.symm,by rw[hl],by rw[hl];rfl⟩
 | some k=>
  dsimp only;refine J.q hX λ_=>?_;refine J.cond rfl (λh0=>?_) (λh0=>?_)
  ·simp only[beq_iff_eq]at h0;omega
  have hk:k<n:=by rw[List.findIdx?_eq_some_iff_getElem]at hx;obtain⟨h1,_⟩:=hx;omega
  cases a with
  | none=>
   refine J.know (λh' s=>(s.get (i:=1) rfl).2.1) λhn0=>?_;omega
  | some g=>
   refine J.openOwn 1 rfl rfl (λ_=>rfl) λr q1 q2 q3 q4=>?_;refine J.q hX λ_=>?_;rw[show(k:Int)+1=((k+1:Nat):Int)from by omega];refine J.q hX λ_=>?_;refine J.lo (α:=(Nat×Nat×List A3)) (λx=>DelI p l x.2.2 x.1 x.2.1) (λx=>[⟨6, .int .i64 x.2.1,0, .tt⟩,⟨5, .int .i64 x.1,0, .tt⟩,⟨0,slv (some g) n cap,0, .tt⟩,⟨1,fnC c cs,0, .tt⟩]) [1] (λx=>[.pt g 32 (cellsA x.2.2++r)]) (λx=>n-x.2.1) ((k,k+1,l)) (DelI.start hx) rfl ?_ (λ_=>rfl) λx hI=>?_
   ·rfl
   obtain⟨i,j,m⟩:=x;dsimp only at hI ⊢;have hml:m.length=n:=hI.1.trans hl;have hij:i<j:=hI.2.1;have hjn:j<=n:=by have:=hI.2.2.1;omega
   refine J.q hX λ_=>?_;refine J.cond rfl (λh1=>?_) (λh1=>?_)
   ·simp only[decide_eq_true_eq,Int.ofNat_lt]at h1;have hget:m[j]? =some (m.getD j d3):=by rw[List.getD_eq_getElem?_getD,List.getElem?_eq_getElem (by omega),Option.getD_some]
    refine J.q hX λ_=>?_;refine J.val hX (aggA (m.getD j d3)) 0 rfl rfl (λhg a w he hs=>?_) rfl trivial ?_
    ·exact loadN_run tk rfl rfl he rfl rfl rfl (hs.get (i:=1) rfl) (by rw[show 0+(j:Int).toNat*3=j*3 from by omega];exact cellsA_at m r _ _ hget) rfl
    refine J.q hX λ_=>?_;refine J.call hX hcal (hf (m.getD j d3)) [2] 0 rfl rfl rfl rfl (by(repeat' (first | exact Conj.nil | refine Conj.cons ?_ ?_ | omega | exact hq0 | (simpa using hq0) | (exactλh=>h) | exact rfl | (intro hq;have hq0:=hq;try simp only[Bool.and_eq_true,Bool.or_eq_true,decide_eq_true_eq,Bool.not_eq_true',decide_eq_false_iff_not]at hq) | (simp;done) | (simp;omega) | decide))) rfl rfl (λ_=>rfl) ?_;refine cpq ⟨_,rfl,trivial,?_⟩;refine J.q hX λ_=>?_;refine J.cond rfl (λh2=>?_) (λh2=>?_)
    ·simp only[Bool.not_eq_true']at h2;refine J.q hX λ_=>?_;refine J.storeN hX tk 1 rfl rfl rfl rfl rfl rfl rfl rfl rfl rfl rfl rfl rfl ?_ (cellsA (m.set i (m.getD j d3))++r) ?_ rfl (λ_=>rfl) ⟨trivial,?_⟩
     ·rw[List.length_append,cellsA_len];show 0+(i:Int).toNat*3+3<=_;omega
     ·rw[show 0+(i:Int).toNat*3=i*3 from by omega];exact cellsA_set m r i _ (by omega)
     refine J.q hX λ_=>?_;refine J.nS ((i+1,j+1,m.set i (m.getD j d3))) (hI.keep (by omega) h2) (by dsimp only;omega) [0,1,2] rfl rfl
    ·simp only[Bool.not_eq_false']at h2;refine J.q hX λ_=>?_;refine J.nS ((i,j+1,m)) (hI.skip (by omega) h2) (by dsimp only;omega) [0,1,2] rfl rfl
   ·simp only[decide_eq_false_iff_not,Int.ofNat_lt]at h1;obtain rfl:j=n:=by omega
    have hfil:m.take i=l.filter (λx=>!p x):=by
     have h5:=hI.2.2.2.2;rw[List.drop_of_length_le (by omega)]at h5;simpa using h5
    refine J.q hX λ_=>?_;refine J.clear hX tk 1 rfl rfl rfl rfl rfl rfl rfl rfl rfl rfl rfl ?_ (λ_=>rfl) (λ_=>rfl) λcs' z1 z2=>⟨trivial,?_⟩
    ·rw[List.length_append,cellsA_len];rw[cellsA_len]at q4;show 0+(i:Int).toNat*3+(j-(i:Int).toNat)*3<=_;have:(i:Int).toNat=i:=by omega
     rw[this];omega
    have hilen:(l.filter (λx=>!p x)).length=i:=by rw[<- hfil,List.length_take];omega
    refine J.closeOwn (e:=32) (size:=3) (n:=i) (cap:=cap) (xs:=cellsA (l.filter (λx=>!p x))) 1 rfl rfl (by rw[cellsA_len,hilen]) (by omega) q3 (by rw[z1,List.length_append,cellsA_len,hml];rw[cellsA_len,hl]at q4;exact q4) ?_ rfl ?_
    ·have z3:(0+(i:Int).toNat*3)=i*3:=by omega
     rw[z3]at z2;rw[z2,<- hfil];have e:cellsA m=cellsA (m.take i)++cellsA (m.drop i):=by
      conv=>lhs;rw[<- List.take_append_drop i m]
      simp only[cellsA,List.flatMap_append]
     rw[e,List.append_assoc,List.take_left' (by rw[cellsA_len,List.length_take,Nat.min_eq_left (by omega)])]
    refine J.q hX λ_=>?_;refine J.ru hX [1,2] ?_;exact⟨_,rfl,by rw[hilen];rfl,by rw[hilen];rfl⟩
theorem s_Block1 (b4 b5:Nat) (die blk:Int) (x:A3):Fn Tryz.prog 264 (aggA x::[.pointer (some ⟨b4,0,none⟩), .pointer (some ⟨b5,0,none⟩)]) [.pt b4 3 [.int .i64 die], .pt b5 3 [.int .i64 blk]]
  (λv As=>v= .bool ((x.1 !=die)||(x.2.1 !=blk))/\As=[.pt b4 3 [.int .i64 die], .pt b5 3 [.int .i64 blk]]):=by
 refine Fn.enter [0,2,3] Tryz.func264 rfl rfl rfl λX F hX=>?_;refine J.q hX λ_=>?_;exact J.ru hX [1,2] ⟨rfl,rfl⟩
theorem s_Block (q:Nat) (l:List A3) (hl:l.length<=12) (die blk:Int):Fn Tryz.prog 233 [.pointer (some ⟨q,0,none⟩), .int .i64 die, .int .i64 blk] [SpotA q l]
  (λv As=>∃a cap l',l'.Perm (l.filter λx=>!((x.1 !=die)||(x.2.1 !=blk)))/\v=slv a l'.length cap/\As=[SpotA q l,ownA 32 3 a l'.length cap (cellsA l')]):=by
 refine Fn.enter [2,0,0] Tryz.func233 rfl rfl rfl λX F hX=>?_;refine J.q hX λbb=>?_;refine J.cb hX (s_All q l hl) [1] ?_;rintro v As ⟨a,cap,l',hp,rfl,rfl⟩;refine⟨_,rfl,trivial,?_⟩;refine J.q hX λ_=>?_;refine J.turn1 [2,3] rfl (As:=[.hp (HP.of [.pt (bb 0) 3 [.int .i64 die], .pt (bb 1) 3 [.int .i64 blk]])]) (λh s=>Sep.hpOf.2 s) rfl ?_;refine J.q hX λ_=>?_;refine J.ca hX (by kernel_rfl) (x_Delete 264 [.pointer (some ⟨bb 0,0,none⟩), .pointer (some ⟨bb 1,0,none⟩)] (λx=>(x.1 !=die)||(x.2.1 !=blk)) _ (by kernel_rfl) (λx=>Fn.pack (s_Block1 (bb 0) (bb 1) die blk x)) a l'.length cap l' rfl (by rw[hp.length_eq];omega)) [4,2] 0 rfl rfl rfl rfl rfl rfl (λ_=>rfl) ?_;rintro v As ⟨l2,rfl,rfl,rfl⟩;refine⟨_,rfl,trivial,?_⟩;refine J.q hX λ_=>?_;refine J.ru hX [1,4] ?_;exact⟨a,cap,_,hp.filter _,rfl,rfl⟩
end Go.Proofs.YtkdlnfdjjifedaaGreat
