/- Helpers. No condition. -/
import Derived.Test.YtpohajhbfllbbaaGreatE06
import Derived.Test.YtpohajhbfllbbaaGreatE08
import Derived.Laws.AppendOwn
set_option maxRecDepth 20000
set_option linter.all false
namespace Go.Proofs.YtpohajhbfllbbaaGreat
open Go Go.RowKit
def d3:A3:=(0,0,0)
def j6 (l:List A3):List Value:=l.flatMap λx=>[iI x.1,iI x.2.1,iI x.2.2]
theorem t7 (l:List A3):(j6 l).length=l.length*3:=by
 induction l with
 | nil=>rfl
 | cons x l ih=>simp only[j6,List.flatMap_cons,List.length_append,List.length_cons]at ih ⊢;rw[ih];simp;omega
theorem E9:∀(l:List A3) (r:List Value) (k:Nat) (x:A3),l[k]? =some x->((j6 l++r).drop (k*3)).take 3=[iI x.1,iI x.2.1,iI x.2.2]
 | [],_,_,_,h=>by simp at h
 | y::l,r,0,x,h=>by simp at h;subst h;simp[j6]
 | y::l,r,k+1,x,h=>by
  have:=E9 l r k x (by simpa using h);rw[show(k+1)*3=3+k*3 from by omega,<- List.drop_drop];simpa[j6]using this
theorem K8:∀(l:List A3) (r:List Value) (k:Nat) (x:A3),k<l.length->(j6 l++r).take (k*3)++[iI x.1,iI x.2.1,iI x.2.2]++(j6 l++r).drop (k*3+3)=j6 (l.set k x)++r
 | [],_,_,_,h=>by simp at h
 | y::l,r,0,x,h=>by simp[j6]
 | y::l,r,k+1,x,h=>by
  have:=K8 l r k x (by simpa using h);rw[show(k+1)*3=3+k*3 from by omega];simp only[j6,List.flatMap_cons,List.set_cons_succ,List.append_assoc,List.cons_append,List.nil_append]at this ⊢;rw[show 3+k*3=k*3+1+1+1 from by omega,show k*3+1+1+1+3=(k*3+3)+1+1+1 from by omega];simp only[List.take_succ_cons,List.drop_succ_cons,List.cons_append,this]
def swp (l:List A3) (j:Nat):List A3:=(l.set j (l.getD (j-1) d3)).set (j-1) (l.getD j d3)
def a8m (f:A3->A3->Int):Nat->List A3->List A3
 | 0,l=>l
 | j+1,l=>if f (l.getD (j+1) d3) (l.getD j d3)<0 then a8m f j (swp l (j+1))else l
def K5 (f:A3->A3->Int) (l:List A3):Nat->List A3
 | 0=>l
 | k+1=>a8m f (k+1) (K5 f l k)
def U5 (f:A3->A3->Int) (l:List A3):List A3:=K5 f l (l.length-1)
theorem a2D (l:List A3) (j:Nat):(swp l j).length=l.length:=by simp[swp]
theorem b1Y (l:List A3) (j:Nat) (h:j+1<l.length):(swp l (j+1)).Perm l:=by
 induction l generalizing j with
 | nil=>simp at h
 | cons x l ih=>
  cases j with
  | zero=>
   cases l with
   | nil=>simp at h
   | cons y l=>simp only[swp,List.set_cons_succ,List.set_cons_zero,Nat.add_sub_cancel,Nat.zero_add,List.getD_cons_zero,List.getD_cons_succ];exact List.Perm.swap _ _ _
  | succ j=>
   have:=ih j (by simpa using h);simp only[swp,Nat.add_sub_cancel,List.set_cons_succ,List.getD_cons_succ]at this ⊢;exact this.cons x
theorem a1y (f:A3->A3->Int):∀(j:Nat) (l:List A3),j<l.length->(a8m f j l).Perm l
 | 0,l,_=>List.Perm.refl _
 | j+1,l,h=>by
  unfold a8m;split
  ·exact(a1y f j _ (by rw[a2D];omega)).trans (b1Y l j h)
  ·exact List.Perm.refl _
theorem a2f (f:A3->A3->Int) (l:List A3):∀k,k<l.length->(K5 f l k).Perm l/\(K5 f l k).length=l.length
 | 0,_=>⟨List.Perm.refl _,rfl⟩
 | k+1,h=>by
  obtain⟨h1,h2⟩:=a2f f l k (by omega);exact⟨(a1y f (k+1) _ (by omega)).trans h1,by rw[K5,(a1y f (k+1) _ (by omega)).length_eq,h2]⟩
theorem I1 (f:A3->A3->Int) (l:List A3):(U5 f l).Perm l:=by
 cases l with
 | nil=>exact List.Perm.refl _
 | cons x l=>exact(a2f f (x::l) _ (by simp)).1
theorem a6V (f:A3->A3->Int):∀(j:Nat) (l:List A3),(a8m f j l).length=l.length
  | 0,l=>rfl
  | j + 1, l => by unfold a8m; split
                   · rw[a6V f j,a2D]
                   · rfl
theorem a3Q (f:A3->A3->Int) (l:List A3):∀k,(K5 f l k).length=l.length
 | 0=>rfl
 | k+1=>by rw[K5,a6V,a3Q f l k]
def fnV (c:Nat):Value:= .func (.func c) #[] #[]
theorem b6P (c:Nat) (f:A3->A3->Int) (hcal:n9 Tryz.prog c=true) (hf:∀x y,Fn Tryz.prog c [O0 x,O0 y] [] (Ps (iI (f x y)) []))
  (g n cap:Nat) (l:List A3) (hl:l.length=n) (hn:n<=4611686018427387904) (r:List Value):FP 276 [.slice (some ⟨g,0,none⟩) n cap,iI 0,iI n,fnV c] [.pt g 33 (j6 l++r)]
  (Ps (.tuple #[]) [.pt g 33 (j6 (U5 f l)++r)]):=by
 refine FE [2,0,0,0] Tryz.func276 λX F hX=>?_;refine J.q λ_=>?_;refine J.l (α:=Nat) (λi=>1<=i/\i<=max 1 n) (λi=>[si 8 i,⟨0, .slice (some ⟨g,0,none⟩) n cap,2, .tt⟩,si 1 0,si 2 n,⟨3,fnV c,0, .tt⟩]) [1] (λi=>[.pt g 33 (j6 (K5 f l (i-1))++r)]) (λi=>n-i) (1) (⟨by omega,by omega⟩) λi hI=>?_;refine J.qd (λ_ h1=>?_) λ_ h1=>?_
 ·simp only[decide_eq_true_eq,Int.ofNat_lt]at h1;refine J.q λ_=>?_;refine J.l (α:=(Nat×List A3)) (λy=>y.1<=i/\y.2.length=n/\a8m f y.1 y.2=K5 f l i) (λy=>[si 9 y.1,si 8 i,⟨0, .slice (some ⟨g,0,none⟩) n cap,2, .tt⟩,si 1 0,si 2 n,⟨3,fnV c,0, .tt⟩]) [1] (λy=>[.pt g 33 (j6 y.2++r)]) (λy=>y.1) ((i,K5 f l (i-1))) (⟨Nat.le_refl _,by rw[a3Q,hl],by obtain⟨k,rfl⟩:∃k,i=k+1:=⟨i-1,by omega⟩;rfl⟩) λy hI=>?_;obtain⟨j,m⟩:=y;dsimp only at hI ⊢;have hget:∀e,e<n->m[e]? =some (m.getD e d3):=λe he=>by rw[List.getD_eq_getElem?_getD,List.getElem?_eq_getElem (by omega),Option.getD_some]
  rcases Nat.eq_zero_or_pos j with h2 | h2
  ·subst h2;refine J.pn 4 (.of [0,4,8,12,16,20,24,28,33,36,40,44,48,53,58,60,64]) [] [1] λ_ _=>?_;rw[show decide (((0:Nat):Int)>0)=false from rfl];refine J.q λ_=>?_;refine J.vT (O0 d3) rfl rfl (λhg a w he hC=>by simp[G.on]at hg) ?_;refine J.q λ_=>?_;refine J.vT (O0 d3) rfl rfl (λhg a w he hC=>by simp[G.on]at hg) ?_;refine J.q λ_=>?_;refine J.gcase hX rfl rfl rfl ⟨rfl,trivial⟩ (λh=>by cases h) (λ_=>?_);refine J.vT (.bool false) rfl rfl (λhg a w he hC=>by simp[G.on]at hg) ?_;refine J.qF λ_=>?_;have hm:m=K5 f l (i+1-1):=hI.2.2;rw[hm];refine J.q λ_=>?_;refine J.n (i+1) (⟨by omega,by omega⟩) (by omega) [0,1]
  ·obtain⟨j,rfl⟩:∃k,j=k+1:=⟨j-1,by omega⟩;refine J.pn 4 (.of [0,4,8,12,16,20,24,28,33,36,40,44,48,53,58,60,64]) [] [1] λ_ _=>?_;rw[show decide (((j+1:Nat):Int)>0)=true from decide_eq_true (by omega)];refine J.q λ_=>?_;refine J.vT (O0 (m.getD (j+1) d3)) rfl rfl (λhg a w he hC=>?_) ?_
   ·exact j7 tk rfl rfl he hg rfl rfl (hC rfl _ (g7 (i:=1) rfl)) (by rw[show 0+((j+1:Nat):Int).toNat*3=(j+1)*3 from by omega];exact E9 m r _ _ (hget _ (by omega))) rfl
   refine J.q λ_=>?_;refine J.vT (O0 (m.getD j d3)) rfl rfl (λhg a w he hC=>?_) ?_
   ·exact j7 tk rfl rfl he hg rfl rfl (hC rfl _ (g7 (i:=1) rfl)) (by rw[show 0+(((j+1:Nat):Int)-1).toNat*3=j*3 from by omega];exact E9 m r _ _ (hget _ (by omega))) rfl
   refine J.q λ_=>?_;refine J.call hX hcal (hf (m.getD (j+1) d3) (m.getD j d3)) [] 0 rfl rfl rfl rfl (by(repeat' (first | exact Conj.nil | refine Conj.cons ?_ ?_ | omega | exact hq0 | (simpa using hq0) | (exactλh=>h) | exact rfl | (intro hq;have hq0:=hq;try simp only[Bool.and_eq_true,Bool.or_eq_true,decide_eq_true_eq,Bool.not_eq_true',decide_eq_false_iff_not]at hq) | (simp;done) | (simp;omega) | decide))) rfl rfl (λ_=>rfl) ?_;refine cpq ⟨_,rfl,⟨rfl,trivial⟩,?_⟩;refine J.qd (λ_ h3=>?_) λ_ h3=>?_
   ·simp only[Bool.true_and,decide_eq_true_eq]at h3;refine J.pq (.take true 0 (.take true 1 (.take true 2 (.take true 3 (.take true 4 (.take true 5 (.take true 6 (.take true 7 (.take true 8 (.take true 10 (.take true 11 (.take true 12 (.alt false 9 ((.of [54,56,62,64,71])) (.alt false 13 ((.of [38,56,62,64,71])) .non)))))))))))))) [16,17] [] λ_ _=>?_;refine J.alts ?_ ?_
    ·refine J.v (O0 (m.getD j d3)) rfl rfl (λhg a w he hs=>?_) ?_
     ·exact j7 tk rfl rfl he hg rfl rfl (hs.get (i:=1) rfl) (by rw[show 0+(((j+1:Nat):Int)-1).toNat*3=j*3 from by omega];exact E9 m r _ _ (hget _ (by omega))) rfl
     refine J.q λ_=>?_;refine J.v (O0 (m.getD (j+1) d3)) rfl rfl (λhg a w he hs=>?_) ?_
     ·exact j7 tk rfl rfl he hg rfl rfl (hs.get (i:=1) rfl) (by rw[show 0+((j+1:Nat):Int).toNat*3=(j+1)*3 from by omega];exact E9 m r _ _ (hget _ (by omega))) rfl
     refine J.q λ_=>?_;refine J.storeN hX tk 1 rfl rfl rfl rfl rfl rfl rfl rfl rfl rfl rfl rfl rfl ?_ (j6 (m.set (j+1) (m.getD j d3))++r) ?_ rfl (λ_=>rfl) ⟨trivial,?_⟩
     ·rw[List.length_append,t7];show 0+((j+1:Nat):Int).toNat*3+3<=_;omega
     ·rw[show 0+((j+1:Nat):Int).toNat*3=(j+1)*3 from by omega];exact K8 m r (j+1) _ (by omega)
     refine J.q λ_=>?_;refine J.storeN hX tk 1 rfl rfl rfl rfl rfl rfl rfl rfl rfl rfl rfl rfl rfl ?_ (j6 (swp m (j+1))++r) ?_ rfl (λ_=>rfl) ⟨trivial,?_⟩
     ·rw[List.length_append,t7,List.length_set];show 0+(((j+1:Nat):Int)-1).toNat*3+3<=_;omega
     ·rw[show 0+(((j+1:Nat):Int)-1).toNat*3=j*3 from by omega];exact K8 _ r j _ (by rw[List.length_set];omega)
     refine J.q λ_=>?_;rw[show((j+1:Nat):Int)-1=(j:Int)from by omega];refine J.q λ_=>?_;refine J.n ((j,swp m (j+1))) (⟨by dsimp only;omega,by rw[a2D];exact hI.2.1,by rw[<- hI.2.2];exact(if_pos h3).symm⟩) (by dsimp only;omega) [0,1]
    ·refine J.v (O0 (m.getD (j+1) d3)) rfl rfl (λhg a w he hs=>?_) ?_
     ·exact j7 tk rfl rfl he hg rfl rfl (hs.get (i:=1) rfl) (by rw[show 0+((j+1:Nat):Int).toNat*3=(j+1)*3 from by omega];exact E9 m r _ _ (hget _ (by omega))) rfl
     refine J.q λ_=>?_;refine J.v (O0 (m.getD j d3)) rfl rfl (λhg a w he hs=>?_) ?_
     ·exact j7 tk rfl rfl he hg rfl rfl (hs.get (i:=1) rfl) (by rw[show 0+(((j+1:Nat):Int)-1).toNat*3=j*3 from by omega];exact E9 m r _ _ (hget _ (by omega))) rfl
     refine J.q λ_=>?_;refine J.storeN hX tk 1 rfl rfl rfl rfl rfl rfl rfl rfl rfl rfl rfl rfl rfl ?_ (j6 (m.set (j+1) (m.getD j d3))++r) ?_ rfl (λ_=>rfl) ⟨trivial,?_⟩
     ·rw[List.length_append,t7];show 0+((j+1:Nat):Int).toNat*3+3<=_;omega
     ·rw[show 0+((j+1:Nat):Int).toNat*3=(j+1)*3 from by omega];exact K8 m r (j+1) _ (by omega)
     refine J.q λ_=>?_;refine J.storeN hX tk 1 rfl rfl rfl rfl rfl rfl rfl rfl rfl rfl rfl rfl rfl ?_ (j6 (swp m (j+1))++r) ?_ rfl (λ_=>rfl) ⟨trivial,?_⟩
     ·rw[List.length_append,t7,List.length_set];show 0+(((j+1:Nat):Int)-1).toNat*3+3<=_;omega
     ·rw[show 0+(((j+1:Nat):Int)-1).toNat*3=j*3 from by omega];exact K8 _ r j _ (by rw[List.length_set];omega)
     refine J.q λ_=>?_;rw[show((j+1:Nat):Int)-1=(j:Int)from by omega];refine J.q λ_=>?_;refine J.n ((j,swp m (j+1))) (⟨by dsimp only;omega,by rw[a2D];exact hI.2.1,by rw[<- hI.2.2];exact(if_pos h3).symm⟩) (by dsimp only;omega) [0,1]
   ·simp only[Bool.true_and,decide_eq_false_iff_not]at h3;have hm:m=K5 f l (i+1-1):=by rw[show i+1-1=i from rfl,<- hI.2.2];exact(if_neg h3).symm
    rw[hm];refine J.q λ_=>?_;refine J.n (i+1) (⟨by omega,by omega⟩) (by omega) [0,1]
 ·simp only[decide_eq_false_iff_not,Int.ofNat_lt]at h1;have hi:K5 f l (i-1)=U5 f l:=by
   rw[U5,hl,show i-1=n-1 from by omega]
  rw[hi];refine J.q λ_=>?_;refine J.f [1] ?_;exact⟨rfl,rfl⟩
def b2R (x:Nat):Nat:=([0,1,2,2,3,3,3,3,4,4,4,4,4]:List Nat).getD x 0
theorem b7W:Tryz.prog.underlying 9=some .string:=by kernel_rfl
theorem a6l {P:Program} {E:Env} {w:World} {n0:Nat} {a:Act} {o:Oper} {ty:TypeId} {s:ByteArray} {y:Operand} {k tg:Nat} {g:G} {ik:IntKind} {i:Int} {b:UInt8} (hop:o.op= .index ty (.const (.string s)) y) (hy:ev E y=some ⟨k, .int ik i,tg,g⟩) (he:EnvOK n0 E a) (hg:g.on=true) (hd:P.underlying ty=some .string)
  (h0:0<=i) (hb:s.data.toList[i.toNat]? =some b):(execOp a.eval o).run P w= .ok (.value (.int .u8 b.toNat)) w:=by
 have ey:=i6 he hy;simp only[Slot.val,hg]at ey;have h1:=run_index_string (P:=P) (w:=w) ty s ik i hd;have hlt:i.toNat<s.size:=(List.getElem?_eq_some_iff.1 hb).1;have hv:s[i.toNat]'hlt=b:=by
  have:=(List.getElem?_eq_some_iff.1 hb).2;rw[<- this];rfl
 rw[dif_pos ⟨h0,by omega⟩,hv]at h1;simp only[execOp,hop,ey,Sem.run_bind];have e1:a.eval (.const (.string s))= .string s:=rfl;rw[e1,h1];rfl
theorem b5i {x:Nat} (hx:x<=12):b2R x<=4:=by
 obtain rfl | rfl | rfl | rfl | rfl | rfl | rfl | rfl | rfl | rfl | rfl | rfl | rfl:x=0\/x=1\/x=2\/x=3\/x=4\/x=5\/x=6\/x=7\/x=8\/x=9\/x=10\/x=11\/x=12:=by omega
 all_goals decide
theorem b5P (x:Nat) (hx:x<=12):FP 220 [.int .u64 x] [] (λv As=>(∃k:Nat,k<=8/\v=iI k)/\As=[]):=by
 have h4:=b5i hx;refine FE [0] Tryz.func220 λX F hX=>?_;refine J.qd (λ_ h1=>?_) λ_ h1=>?_
 ·simp only[decide_eq_true_eq]at h1;omega
 refine J.qd (λ_ h2=>?_) λ_ h2=>?_
 ·simp only[decide_eq_true_eq]at h2;omega
 refine J.qd (λ_ h3=>?_) λ_ h3=>?_
 ·simp only[decide_eq_true_eq]at h3;omega
 refine J.q λ_=>?_;refine J.v (.int .u8 (UInt8.ofNat (b2R x)).toNat) rfl rfl (λhg a w he hs=>?_) ?_
 ·refine a6l rfl rfl he rfl b7W (by omega) ?_;obtain rfl | rfl | rfl | rfl | rfl | rfl | rfl | rfl | rfl | rfl | rfl | rfl | rfl:x=0\/x=1\/x=2\/x=3\/x=4\/x=5\/x=6\/x=7\/x=8\/x=9\/x=10\/x=11\/x=12:=by omega
  all_goals rfl
 have h5:(UInt8.ofNat (b2R x)).toNat=b2R x:=by rw[UInt8.toNat_ofNat'];omega
 rw[h5];refine J.qr [] λ_=>?_;exact⟨⟨b2R x,by omega,by simp⟩,rfl⟩
theorem b6g (x:Nat) (hx:x<=12):FP 177 [.int .u64 x] [] (λv As=>(∃k:Nat,k<=8/\v=iI k)/\As=[]):=by
 refine FE [0] Tryz.func177 λX F hX=>?_;refine J.qF λ_=>?_;refine J.qc (b5P x hx) [] λ_=>?_;rintro v As ⟨⟨k,hk,rfl⟩,rfl⟩;refine⟨_,rfl,trivial,?_⟩;refine J.qr [] λ_=>?_;exact⟨⟨k,hk,rfl⟩,rfl⟩
theorem b6A (c:Nat) (f:A3->A3->Int) (hcal:n9 Tryz.prog c=true) (hf:∀x y,Fn Tryz.prog c [O0 x,O0 y] [] (Ps (iI (f x y)) []))
  (g n cap:Nat) (l:List A3) (hl:l.length=n) (hn:n<=12) (r:List Value) (k:Nat):FP 273 [.slice (some ⟨g,0,none⟩) n cap,iI 0,iI n,iI k,fnV c] [.pt g 33 (j6 l++r)]
  (Ps (.tuple #[]) [.pt g 33 (j6 (U5 f l)++r)]):=by
 refine FE [2,0,0,0,0] Tryz.func273 λX F hX=>?_;refine J.q λ_=>?_;refine J.l (α:=Nat) (λy=>True) (λy=>[⟨0, .slice (some ⟨g,0,none⟩) n cap,2, .tt⟩,si 1 0,si 2 n,si 3 k,⟨4,fnV c,0, .tt⟩]) [1] (λy=>[.pt g 33 (j6 l++r)]) (λy=>0) (0) (trivial) λy hI=>?_;refine J.qd (λ_ h1=>?_) λ_ h1=>?_
 ·refine J.q λ_=>?_;rw[show(n:Int)-0=n from by omega]at*;refine J.qp (b6P c f hcal hf g n cap l hl (by omega) r) [1] λ_=>?_;exact J.qx [1]
 ·simp only[decide_eq_false_iff_not]at h1;omega
theorem b4S (c:Nat) (d:Value) (k:Nat):FP 273 [d,iI 0,iI 0,iI k,fnV c] [] (Ps (.tuple #[]) []):=by
 have h0:FP 276 [d,iI 0,iI 0,fnV c] [] (Ps (.tuple #[]) []):=by
  refine FE [0,0,0,0] Tryz.func276 λX F hX=>?_;refine J.q λ_=>?_;refine J.l (α:=Nat) (λy=>True) (λy=>[si 8 (0+1),sv 0 d,si 1 0,si 2 0,⟨3,fnV c,0, .tt⟩]) [] (λy=>[]) (λy=>0) (0) (trivial) λy hI=>?_;refine J.qd (λ_ h1=>?_) λ_ h1=>?_
  ·simp at h1
  ·refine J.q λ_=>?_;refine J.f [] ?_;exact⟨rfl,rfl⟩
 refine FE [0,0,0,0,0] Tryz.func273 λX F hX=>?_;refine J.q λ_=>?_;refine J.l (α:=Nat) (λy=>True) (λy=>[sv 0 d,si 1 0,si 2 0,si 3 k,⟨4,fnV c,0, .tt⟩]) [] (λy=>[]) (λy=>0) (0) (trivial) λy hI=>?_;refine J.qd (λ_ h1=>?_) λ_ h1=>?_
 ·refine J.qp (h0) [] λ_=>?_;exact J.qx []
 ·simp at h1
theorem a3h (c:Nat) (f:A3->A3->Int) (hcal:n9 Tryz.prog c=true) (hf:∀x y,Fn Tryz.prog c [O0 x,O0 y] [] (Ps (iI (f x y)) []))
  (a:Option Nat) (n cap:Nat) (l:List A3) (hl:l.length=n) (hn:n<=12):FP 268 [slv a n cap,fnV c] [c9 33 3 a n cap (j6 l)]
  (Ps (.tuple #[]) [c9 33 3 a n cap (j6 (U5 f l))]):=by
 refine FE [0,0] Tryz.func268 λX F hX=>?_;refine J.qc (b6g n hn) [] λ_=>?_;rintro v As ⟨⟨k,hk,rfl⟩,rfl⟩;refine⟨_,rfl,trivial,?_⟩;refine J.q λ_=>?_;cases a with
 | none=>
  refine J.know (λh' s=>(s.get (i:=1) rfl).2.1) λhn0=>?_;subst hn0;have:l=[]:=List.eq_nil_of_length_eq_zero hl;subst this;refine J.qp (b4S c (slv none 0 cap) k) [] λ_=>?_;refine J.q λ_=>?_;refine J.f [1] ?_;exact⟨rfl,rfl⟩
 | some g=>
  refine J.openOwn 1 rfl rfl (λ_=>rfl) λr q1 q2 q3 q4=>?_;refine J.qp (b6A c f hcal hf g n cap l hl hn r k) [1] λ_=>?_;refine J.closeOwn (e:=33) (size:=3) (n:=n) (cap:=cap) (xs:=j6 (U5 f l)) 1 rfl rfl (by rw[t7,(I1 f l).length_eq,hl]) q2 q3 (by rw[List.length_append,t7,(I1 f l).length_eq];rw[t7]at q4;exact q4) (by rw[List.take_left' (by rw[t7,(I1 f l).length_eq,hl])]) rfl ?_;refine J.q λ_=>?_;refine J.f [1] ?_;exact⟨rfl,rfl⟩
theorem Z7:∀(n:Nat) (is:List Nat),is.Nodup->(∀i∈is,i<n)->is.length<=n
 | 0,is,_,h=>by
  cases is with
  | nil=>simp
  | cons x r=>have:=h x (by simp);omega
 | n+1,is,hn,h=>by
  have h1:=Z7 n (is.erase n) (hn.erase n) (λi hi=>by
   rw[hn.mem_erase_iff]at hi;have:=h i hi.2;omega)
  rw[List.length_erase]at h1;split at h1<;>omega
def G9 (l:List A3) (is:List Nat):List A3:=is.map λi=>l.getD i d3
theorem a3s {l:List A3} {is:List Nat} (h:is.Perm (List.range l.length)):(G9 l is).Perm l:=by
 have h1:=h.map λi=>l.getD i d3;have h2:(List.range l.length).map (λi=>l.getD i d3)=l:=by
  apply List.ext_getElem?;intro k;rw[List.getElem?_map]
  by_cases hk:k<l.length
  ·rw[List.getElem?_range hk];simp[hk]
  ·rw[List.getElem?_eq_none (by simpa using hk),List.getElem?_eq_none (by simpa using hk)];rfl
 rwa [h2]at h1
theorem a8p {l:List A3} {is:List Nat} {j:Nat} {y:A3×Value} (hy:(D1 l)[j]? =some y):j6 (G9 l is)++[iI y.1.1,iI y.1.2.1,iI y.1.2.2]=j6 (G9 l (is++[j])):=by
 rw[D1,List.getElem?_map]at hy;cases h:l[j]? with
 | none=>rw[h]at hy;cases hy
 | some x=>
  rw[h]at hy;simp at hy;subst hy;simp[j6,G9,h]
theorem b7A (q:Nat) (l:List A3) (hl:l.length<=12):FP 252 [pp q] [O2 q l]
  (λv As=>∃a cap l',l'.Perm l/\v=slv a l'.length cap/\As=[O2 q l,c9 33 3 a l'.length cap (j6 l')]):=by
 refine FE [2] Tryz.func252 λX F hX=>?_;refine J.o (α:=Nat) 1 λmr=>?_;refine J.qF λ_=>?_;refine J.q λ_=>?_;refine J.rangeMap hX 2 b4t rfl rfl rfl rfl rfl rfl rfl (λ_=>rfl) (λ_=>rfl) λr=>⟨trivial,?_⟩;refine J.turn1 [] rfl (As:=[c9 33 3 none 0 0 (j6 (G9 l []))]) (λh s=>Sep.one ⟨rfl,rfl,rfl⟩) rfl ?_;refine J.q λ_=>?_;refine J.l (α:=(List Nat×Option Nat×Nat)) (λx=>True) (λx=>[sp 11 r,sv 3 (slv x.2.1 x.1.length x.2.2)]) [2,3] (λx=>[itA mr r a3v (D1 l) x.1,c9 33 3 x.2.1 x.1.length x.2.2 (j6 (G9 l x.1))]) (λx=>l.length-x.1.length) (([],none,0)) (trivial) λx hI=>?_;obtain⟨is,a,cap⟩:=x;dsimp only;refine J.q λ_=>?_;refine J.know (p:=is.Nodup/\∀i∈is,i<l.length) (λh s=>?_) λhk=>?_
 ·obtain⟨_,_,_,_,_,_,_,_,h1,h2,_⟩:=s.get (i:=2) rfl;exact⟨h1,λi hi=>by have:=h2 i hi;simpa[D1]using this⟩
 have hle:=Z7 _ _ hk.1 hk.2;refine J.rangeNext hX 2 rfl rfl rfl rfl rfl rfl rfl (λ_=>rfl) (λ_=>rfl) (λhp=>⟨trivial,?_⟩) (λj y hj hy=>⟨trivial,?_⟩)
 ·rw[show(D1 l).length=l.length from by simp[D1]]at hp;refine J.qF λ_=>?_;refine J.qp (a3h 269 a6d (by kernel_rfl) a9i a is.length cap (G9 l is) (by simp[G9]) (by omega)) [3] λ_=>?_;refine J.turn1 [2] rfl (As:=[B4 mr a3v (D1 l)]) (λh s=>b3g s) rfl ?_;refine J.cl (λmr:Nat=>[.pt q 181 [.map (some mr)],B4 mr a3v (D1 l)]) mr [1,2] ?_;refine J.qr [1,3] λ_=>?_;have hlen:is.length=(U5 a6d (G9 l is)).length:=by rw[(I1 _ _).length_eq];simp[G9]
  refine⟨a,cap,U5 a6d (G9 l is),(I1 _ _).trans (a3s hp),?_,?_⟩
  ·rw[<- hlen]
  ·rw[<- hlen];rfl
 ·have hjl:j<l.length:=by have:=(List.getElem?_eq_some_iff.1 hy).1;simpa[D1]using this
  refine J.qT λ_=>?_;refine J.q λ_=>?_;have hlt:(is++[j]).length<=l.length:=Z7 _ _ (by
   rw[List.nodup_append];exact⟨hk.1,by simp,λa ha b hb=>by simp at hb;subst hb;rintro rfl;exact hj ha⟩) (λi hi=>by
   rw[List.mem_append]at hi;rcases hi with hi | hi
   ·exact hk.2 i hi
   ·simp at hi;subst hi;exact hjl)
  rw[List.length_append,List.length_singleton]at hlt;refine J.rangeEntry hX 2 rfl rfl rfl rfl rfl rfl rfl hy rfl ⟨trivial,?_⟩;refine J.q λ_=>?_;refine J.append hX tk 3 5 0 rfl rfl rfl rfl rfl rfl rfl rfl rfl rfl rfl rfl rfl rfl rfl rfl ?_ ?_ (λ_=>rfl) λa' cap'=>⟨_,(congrArg (λz=>A8 _ 3 (c9 _ _ _ _ _ z)) (a8p hy)).trans rfl,trivial,?_⟩
  ·simp only[maxLen];omega
  ·omega
  refine J.q λ_=>?_;rw[show is.length+1=(is++[j]).length from by simp];refine J.q λ_=>?_;refine J.n ((is++[j],a',cap')) (trivial) (by dsimp only;rw[List.length_append,List.length_singleton];omega) [0,1,2,3]
theorem Sep.pack {A:Atom} {Pre:List Atom} {h:Hl} (s:Sep (A::Pre) h):Sep [A, .hp (HP.of Pre)] h:=by
 obtain⟨own,hw⟩:=s;refine⟨λb=>min (own b) 1,λi B hB=>?_⟩
 match i,hB with
 | 0,hB=>
  simp at hB;subst hB;refine Atom.up (λb o hb=>?_) (hw 0 A rfl);rw[res_some]at hb ⊢;exact⟨by rw[hb.1];rfl,hb.2⟩
 | 1,hB=>
  simp at hB;subst hB;refine⟨λb=>own b-1,λj B hB=>?_⟩;refine Atom.up (λb o hb=>?_) (hw (j+1) B (by simpa using hB));rw[res_some]at hb ⊢;refine⟨by rw[hb.1];rfl,?_⟩;rw[res_some];exact⟨by rw[hb.1];omega,hb.2⟩
 | k+2,hB=>simp at hB
theorem Sep.unpack {A:Atom} {Pre:List Atom} {h:Hl} (s:Sep [A, .hp (HP.of Pre)] h):Sep (A::Pre) h:=by
 obtain⟨own,hw⟩:=s;obtain⟨own2,hw2⟩:Sep Pre (res h own 1):=hw 1 _ rfl;refine⟨λb=>if own b=1 then own2 b+1 else 0,λi B hB=>?_⟩;cases i with
 | zero=>
  simp at hB;subst hB;refine Atom.up (λb o hb=>?_) (hw 0 A rfl);rw[res_some]at hb ⊢;exact⟨by rw[if_neg (by omega)],hb.2⟩
 | succ j=>
  refine Atom.up (λb o hb=>?_) (hw2 j B (by simpa using hB));rw[res_some]at hb ⊢;have h1:=res_some.1 hb.2;exact⟨by rw[if_pos h1.1,hb.1],h1.2⟩
theorem Fn.pack {P:Program} {f:FuncId} {args:List Value} {Pre:List Atom} {q:Value->Prop} (c:Fn P f args Pre (λv As=>q v/\As=Pre)):Fn P f args [.hp (HP.of Pre)] (λv As=>q v/\As=[.hp (HP.of Pre)]):=by
 intro F w s;refine Calls.mono (c F w (Sep.unpack s)) λe w' ⟨v,As,h1,h2,h3,h4⟩=>?_;obtain⟨h5,rfl⟩:=h2;exact⟨v,_,h1,⟨h5,rfl⟩,Sep.pack h3,h4⟩
section
variable {X : Cx} {P : Program} {T : Tab} {K : List KI} {E : Env} {L : List Atom} {N : Nat} {F : HP} {Post : Value → List Atom → Prop} {rs : List ResultVar}
theorem J.clear (hX:IsCx X P rs N F Post) (hT:TabOK P T) {ops:Array Oper} {C:Cl} {lt:Bool} {i:Nat} {t:PT} {o:Oper} {g:G} {x:Operand} {k1 t1 b off n c st e ty size s1 b1 by_:Nat} {g1:G} {z z1:List Value} {td:TD} {cs:List Value} {E':Value->Env} {L2:List Value->List Atom} (is:Nat)
  (ho:n7 ops.toList i=some o) (hg:gd ops.toList E o=some g) (hgo:g.on=true) (hop:o.op= .call ⟨.builtin .clear,#[x],#[st]⟩) (hx:ev E x=some ⟨k1, .slice (some ⟨b,off,none⟩) n c,t1,g1⟩) (v1:g1.on=true)
  (hst:T.get st=some ⟨.slice e size,s1,z1,b1⟩) (he:T.get e=some ⟨td,size,z,by_⟩) (hz:Nat.beq z.length size=true) (hz1:z.all (·.oneCell')=true) (hL:n7 L is=some (.pt b ty cs)) (hlt:off+n*size<=cs.length)
  (hL2:∀cs',A8 L is (.pt b ty cs')=some (L2 cs')) (hd:∀v,C6 N o.dst v 0 .tt E=some (E' v))
  (hJ:∀cs',cs'.length=cs.length->cs'.take off=cs.take off->Conj (q9 lt C (L2 cs'))/\J X (.reg ops C t::K) (E' (.tuple #[])) (L2 cs')):J X (.reg ops C (.alt lt i t .non)::K) E L:=by
 refine J.op hX (S:=λv' L'=>∃cs',cs'.length=cs.length/\cs'.take off=cs.take off/\v'= .tuple #[]/\L'=L.set is (.pt b ty cs')) 0 ho hg hgo (λa0 w hen hs=>?_) hd (λv L' ⟨cs',q1,q2,e1,e2⟩=>by subst e1;subst e2;rw[<- A7 (hL2 cs')];exact hJ cs' q1 q2);rw[m9]at hL;have ex:=i6 hen hx;simp only[Slot.val,v1]at ex;obtain⟨d,f,zv,ok⟩:=i3 (hT.get hst);obtain⟨fe,rfl,g1',g2'⟩:=ok.slice rfl;obtain⟨d',f',zv',ok'⟩:=i3 (hT.get he);have hzl:zv'.cells.toList=z:=ok'.hzero.symm;have hzn:zv'.cells.size=size:=by rw[<- Array.length_toList,hzl];exact Nat.eq_of_beq_eq_true hz
 have hblk:Blk w b ty cs.toArray:=hs.pt hL;cases n with
 | zero=>
  refine⟨_,L.set is (.pt b ty cs), .value (.tuple #[]),w,⟨cs,rfl,rfl,rfl,rfl⟩,?_, .inl rfl,?_,Ext.refl _⟩
  ·simp[execOp,hop,ex,resolve,invoke,builtin,Builtin.clear_,d7 ok.hd]
  ·have e:L.set is (.pt b ty cs)=L:=by
    apply List.ext_getElem?;intro j;rw[List.getElem?_set];split
    ·rename_i e;subst e;rw[if_pos (List.getElem?_eq_some_iff.1 hL).1,hL]
    ·rfl
   rw[e];exact hs
 | succ n=>
  have hlen:(Builtin.zeroCells zv'.cells (n+1)).toList.length=(n+1)*size:=by rw[Array.length_toList,size_zeroCells,hzn]
  have hall:(Builtin.zeroCells zv'.cells (n+1)).toList.all (·.oneCell')=true:=by
   rw[List.all_eq_true];intro u hu;simp only[Builtin.zeroCells,Array.toList_map,List.mem_map]at hu;obtain⟨k,hk,rfl⟩:=hu;have hk':k<(n+1)*zv'.cells.size:=by simpa using hk
   have hpos:0<zv'.cells.size:=by
    rcases Nat.eq_zero_or_pos zv'.cells.size with h0 | h0
    ·rw[h0]at hk';omega
    ·exact h0
   have hm:=Nat.mod_lt k hpos;rw[getElem!_pos zv'.cells (k % zv'.cells.size) hm];rw[List.all_eq_true]at hz1;apply hz1;rw[<- hzl];simp
  obtain⟨w',r1,r2,r3⟩:=D3 (P:=P) (o:=off) (Builtin.zeroCells zv'.cells (n+1)).toList 0 w cs _ hblk (by rw[Nat.add_zero];exact a3J cs off _ (by rw[hlen];exact hlt)) hall;have hr:(execOp a0.eval o).run P w= .ok (.value (.tuple #[])) w':=by
   simp[execOp,hop,ex,resolve,invoke,builtin,Builtin.clear_,d7 ok.hd,Y6 ok'.hf ok'.hz,r1]
  clear r1;generalize Builtin.zeroCells zv'.cells (n+1)=Z at hlen r2;have k1:(cs.take off++Z.toList++cs.drop (off+Z.toList.length)).length=cs.length:=by
   simp only[List.length_append,List.length_take,List.length_drop,hlen];omega
  have k2:(cs.take off++Z.toList++cs.drop (off+Z.toList.length)).take off=cs.take off:=by
   rw[List.append_assoc,List.take_append_of_le_length (by simp;omega),List.take_take,Nat.min_self]
  refine⟨_,L.set is (.pt b ty (cs.take off++Z.toList++cs.drop (off+Z.toList.length))), .value (.tuple #[]),w',⟨_,k1,k2,rfl,rfl⟩,?_, .inl rfl,?_,r3⟩
  ·exact hr
  ·rw[r2];exact hs.setPt _ hL
end
def fnC (c:Nat) (cs:List Value):Value:= .func (.func c) #[] cs.toArray
def b5q (p:A3->Bool) (l:List A3):Int:=match l.findIdx? p with
 | some k=>k
 | none=> -1
theorem a4h {l:List A3} {k:Nat} {x:A3} (h:l[k]? =some x):((j6 l).drop (k*3)).take 3=[iI x.1,iI x.2.1,iI x.2.2]:=by
 have:=E9 l [] k x h
 rwa [List.append_nil]at this
theorem b3j {p:A3->Bool} {l:List A3} {k:Nat} {x:A3} (h:l[k]? =some x) (h0:∀i<k,p (l.getD i d3)=false) (hp:p x=true):l.findIdx? p=some k:=by
 rw[List.findIdx?_eq_some_iff_getElem];obtain⟨h1,h2⟩:=List.getElem?_eq_some_iff.1 h;refine⟨h1,by rw[h2];exact hp,λj hj=>?_⟩;have:=h0 j hj;rw[List.getD_eq_getElem?_getD,List.getElem?_eq_getElem (by omega),Option.getD_some]at this;simp[this]
theorem b3k {p:A3->Bool} {l:List A3} (h0:∀i<l.length,p (l.getD i d3)=false):l.findIdx? p=none:=by
 rw[List.findIdx?_eq_none_iff];intro x hx;obtain⟨i,hi,rfl⟩:=List.mem_iff_getElem.1 hx;have:=h0 i hi
 rwa [List.getD_eq_getElem?_getD,List.getElem?_eq_getElem hi,Option.getD_some]at this
theorem b4i (c:Nat) (cs:List Value) (p:A3->Bool) (A:Atom) (hcal:n9 Tryz.prog c=true) (hf:∀x,Fn Tryz.prog c (O0 x::cs) [A] (λv As=>v= .bool (p x)/\As=[A]))
  (a:Option Nat) (n cap:Nat) (l:List A3) (hl:l.length=n) (hn:n<=4611686018427387904):FP 267 [slv a n cap,fnC c cs] [c9 33 3 a n cap (j6 l),A]
  (λv As=>v=iI (b5q p l)/\As=[c9 33 3 a n cap (j6 l),A]):=by
 refine FE [0,0] Tryz.func267 λX F hX=>?_;refine J.q λ_=>?_;refine J.l (α:=Nat) (λk=>k<=n/\∀i<k,p (l.getD i d3)=false) (λk=>[si 8 k,si 7 n,sv 0 (slv a n cap),⟨1,fnC c cs,0, .tt⟩]) [] (λk=>[]) (λk=>n-k) (0) (⟨by omega,by omega⟩) λk hI=>?_;refine J.qd (λ_ h1=>?_) λ_ h1=>?_
 ·simp only[decide_eq_true_eq,Int.ofNat_lt]at h1;cases a with
  | none=>
   refine J.know (λh' s=>(s.get (i:=1) rfl).2.1) λhn0=>?_;omega
  | some g=>
   have hk:l[k]? =some (l.getD k d3):=by rw[List.getD_eq_getElem?_getD,List.getElem?_eq_getElem (by omega),Option.getD_some]
   refine J.q λ_=>?_;refine J.v (O0 (l.getD k d3)) rfl rfl (λhg a w he hs=>?_) ?_
   ·exact o0 tk rfl rfl he rfl rfl rfl (hs.get (i:=1) rfl) (by rw[show 0+(k:Int).toNat*3=k*3 from by omega];exact a4h hk) rfl
   refine J.q λ_=>?_;refine J.call hX hcal (hf (l.getD k d3)) [2] 0 rfl rfl rfl rfl (by(repeat' (first | exact Conj.nil | refine Conj.cons ?_ ?_ | omega | exact hq0 | (simpa using hq0) | (exactλh=>h) | exact rfl | (intro hq;have hq0:=hq;try simp only[Bool.and_eq_true,Bool.or_eq_true,decide_eq_true_eq,Bool.not_eq_true',decide_eq_false_iff_not]at hq) | (simp;done) | (simp;omega) | decide))) rfl rfl (λ_=>rfl) ?_;refine cpq ⟨_,rfl,trivial,?_⟩;refine J.qd (λ_ h2=>?_) λ_ h2=>?_
   ·refine J.qr [1,2] λ_=>?_;exact⟨by rw[b5q,b3j hk hI.2 h2],rfl⟩
   ·refine J.q λ_=>?_;refine J.nx (k+1) (⟨by omega,λi hi=>by
     rcases Nat.lt_succ_iff_lt_or_eq.1 hi with h3 | h3
     ·exact hI.2 i h3
     ·rw[h3];exact h2⟩) (by omega) (λ_ s=>s)
 ·simp only[decide_eq_false_iff_not,Int.ofNat_lt]at h1;refine J.qr [1,2] λ_=>?_;exact⟨by rw[b5q,b3k (λi hi=>hI.2 i (by omega))],rfl⟩
def DelI (p:A3->Bool) (l m:List A3) (i j:Nat):Prop:=m.length=l.length/\i<j/\j<=l.length/\m.drop j=l.drop j/\m.take i++(l.drop j).filter (λx=>!p x)=l.filter (λx=>!p x)
theorem DelI.start {p:A3->Bool} {l:List A3} {k:Nat} (h:l.findIdx? p=some k):DelI p l l k (k+1):=by
 rw[List.findIdx?_eq_some_iff_getElem]at h;obtain⟨h1,h2,h3⟩:=h;refine⟨rfl,by omega,by omega,rfl,?_⟩;have e:l=l.take k++l[k]::l.drop (k+1):=by rw[<- List.drop_eq_getElem_cons h1,List.take_append_drop]
 have e2:(l.take k).filter (λx=>!p x)=l.take k:=by
  rw[List.filter_eq_self];intro x hx;obtain⟨i,hi,rfl⟩:=List.mem_iff_getElem.1 hx;rw[List.getElem_take];have:=h3 i (by simp at hi;omega);simpa using this
 conv=>rhs;rw[e]
 rw[List.filter_append,e2,List.filter_cons_of_neg (by simp[h2])]
theorem DelI.skip {p:A3->Bool} {l m:List A3} {i j:Nat} (h:DelI p l m i j) (hj:j<l.length) (hp:p (m.getD j d3)=true):DelI p l m i (j+1):=by
 obtain⟨h1,h2,h3,h4,h5⟩:=h;have e1:m[j]? =l[j]?:=by have:=congrArg (λz=>z[0]?) h4;simpa using this
 have hx:l[j]=m.getD j d3:=by rw[List.getD_eq_getElem?_getD,e1,List.getElem?_eq_getElem hj,Option.getD_some]
 refine⟨h1,by omega,by omega,?_,?_⟩
 ·have:=congrArg (List.drop 1) h4;simpa[List.drop_drop]using this
 ·rw[<- h5,List.drop_eq_getElem_cons hj,List.filter_cons_of_neg (by rw[hx,hp];simp)]
theorem DelI.keep {p:A3->Bool} {l m:List A3} {i j:Nat} (h:DelI p l m i j) (hj:j<l.length) (hp:p (m.getD j d3)=false):DelI p l (m.set i (m.getD j d3)) (i+1) (j+1):=by
 obtain⟨h1,h2,h3,h4,h5⟩:=h;have e1:m[j]? =l[j]?:=by have:=congrArg (λz=>z[0]?) h4;simpa using this
 have hx:l[j]=m.getD j d3:=by rw[List.getD_eq_getElem?_getD,e1,List.getElem?_eq_getElem hj,Option.getD_some]
 refine⟨by simp[h1],by omega,by omega,?_,?_⟩
 ·rw[List.drop_set_of_lt (by omega)];have:=congrArg (List.drop 1) h4;simpa[List.drop_drop]using this
 ·rw[<- h5,List.drop_eq_getElem_cons hj,List.filter_cons_of_pos (by rw[hx,hp];simp),hx,List.take_set,List.take_add_one,List.getElem?_eq_getElem (by omega)];rw[List.set_append_right _ _ (by simp;omega)];simp[List.length_take,Nat.min_eq_left (show i<=m.length by omega)]
theorem a6J (c:Nat) (cs:List Value) (p:A3->Bool) (A:Atom) (hcal:n9 Tryz.prog c=true) (hf:∀x,Fn Tryz.prog c (O0 x::cs) [A] (λv As=>v= .bool (p x)/\As=[A]))
  (a:Option Nat) (n cap:Nat) (l:List A3) (hl:l.length=n) (hn:n<=4611686018427387904):FP 251 [slv a n cap,fnC c cs] [c9 33 3 a n cap (j6 l),A]
  (λv As=>∃l',l'=l.filter (λx=>!p x)/\v=slv a l'.length cap/\As=[c9 33 3 a l'.length cap (j6 l'),A]):=by
 refine FE [0,0] Tryz.func251 λX F hX=>?_;refine J.qp (b4i c cs p A hcal hf a n cap l hl hn) [1,2] λ_=>?_;rw[b5q];cases hx:l.findIdx? p with
 | none=>
  dsimp only;refine J.qT λ_=>?_;refine J.qr [1,2] λ_=>?_;have:l.filter (λx=>!p x)=l:=by
   rw[List.filter_eq_self];intro x hm;rw[List.findIdx?_eq_none_iff]at hx;simp[hx x hm]
  exact⟨l,this.symm,by rw[hl],by rw[hl];rfl⟩
 | some k=>
  dsimp only;refine J.qd (λ_ h0=>?_) λ_ h0=>?_
  ·simp only[beq_iff_eq]at h0;omega
  have hk:k<n:=by rw[List.findIdx?_eq_some_iff_getElem]at hx;obtain⟨h1,_⟩:=hx;omega
  cases a with
  | none=>
   refine J.know (λh' s=>(s.get (i:=1) rfl).2.1) λhn0=>?_;omega
  | some g=>
   refine J.openOwn 1 rfl rfl (λ_=>rfl) λr q1 q2 q3 q4=>?_;refine J.q λ_=>?_;rw[show(k:Int)+1=((k+1:Nat):Int)from by omega];refine J.q λ_=>?_;refine J.l (α:=(Nat×Nat×List A3)) (λx=>DelI p l x.2.2 x.1 x.2.1) (λx=>[si 6 x.2.1,si 5 x.1,sv 0 (slv (some g) n cap),⟨1,fnC c cs,0, .tt⟩]) [1] (λx=>[.pt g 33 (j6 x.2.2++r)]) (λx=>n-x.2.1) ((k,k+1,l)) (DelI.start hx) λx hI=>?_;obtain⟨i,j,m⟩:=x;dsimp only at hI ⊢;have hml:m.length=n:=hI.1.trans hl;have hij:i<j:=hI.2.1;have hjn:j<=n:=by have:=hI.2.2.1;omega
   refine J.qd (λ_ h1=>?_) λ_ h1=>?_
   ·simp only[decide_eq_true_eq,Int.ofNat_lt]at h1;have hget:m[j]? =some (m.getD j d3):=by rw[List.getD_eq_getElem?_getD,List.getElem?_eq_getElem (by omega),Option.getD_some]
    refine J.q λ_=>?_;refine J.v (O0 (m.getD j d3)) rfl rfl (λhg a w he hs=>?_) ?_
    ·exact j7 tk rfl rfl he rfl rfl rfl (hs.get (i:=1) rfl) (by rw[show 0+(j:Int).toNat*3=j*3 from by omega];exact E9 m r _ _ hget) rfl
    refine J.q λ_=>?_;refine J.call hX hcal (hf (m.getD j d3)) [2] 0 rfl rfl rfl rfl (by(repeat' (first | exact Conj.nil | refine Conj.cons ?_ ?_ | omega | exact hq0 | (simpa using hq0) | (exactλh=>h) | exact rfl | (intro hq;have hq0:=hq;try simp only[Bool.and_eq_true,Bool.or_eq_true,decide_eq_true_eq,Bool.not_eq_true',decide_eq_false_iff_not]at hq) | (simp;done) | (simp;omega) | decide))) rfl rfl (λ_=>rfl) ?_;refine cpq ⟨_,rfl,trivial,?_⟩;refine J.qd (λ_ h2=>?_) λ_ h2=>?_
    ·simp only[Bool.not_eq_true']at h2;refine J.q λ_=>?_;refine J.storeN hX tk 1 rfl rfl rfl rfl rfl rfl rfl rfl rfl rfl rfl rfl rfl ?_ (j6 (m.set i (m.getD j d3))++r) ?_ rfl (λ_=>rfl) ⟨trivial,?_⟩
     ·rw[List.length_append,t7];show 0+(i:Int).toNat*3+3<=_;omega
     ·rw[show 0+(i:Int).toNat*3=i*3 from by omega];exact K8 m r i _ (by omega)
     refine J.q λ_=>?_;refine J.n ((i+1,j+1,m.set i (m.getD j d3))) (hI.keep (by omega) h2) (by dsimp only;omega) [0,1,2]
    ·simp only[Bool.not_eq_false']at h2;refine J.q λ_=>?_;refine J.n ((i,j+1,m)) (hI.skip (by omega) h2) (by dsimp only;omega) [0,1,2]
   ·simp only[decide_eq_false_iff_not,Int.ofNat_lt]at h1;obtain rfl:j=n:=by omega
    have hfil:m.take i=l.filter (λx=>!p x):=by
     have h5:=hI.2.2.2.2;rw[List.drop_of_length_le (by omega)]at h5;simpa using h5
    refine J.q λ_=>?_;refine J.clear hX tk 1 rfl rfl rfl rfl rfl rfl rfl rfl rfl rfl rfl ?_ (λ_=>rfl) (λ_=>rfl) λcs' z1 z2=>⟨trivial,?_⟩
    ·rw[List.length_append,t7];rw[t7]at q4;show 0+(i:Int).toNat*3+(j-(i:Int).toNat)*3<=_;have:(i:Int).toNat=i:=by omega
     rw[this];omega
    have hilen:(l.filter (λx=>!p x)).length=i:=by rw[<- hfil,List.length_take];omega
    refine J.closeOwn (e:=33) (size:=3) (n:=i) (cap:=cap) (xs:=j6 (l.filter (λx=>!p x))) 1 rfl rfl (by rw[t7,hilen]) (by omega) q3 (by rw[z1,List.length_append,t7,hml];rw[t7,hl]at q4;exact q4) ?_ rfl ?_
    ·have z3:(0+(i:Int).toNat*3)=i*3:=by omega
     rw[z3]at z2;rw[z2,<- hfil];have e:j6 m=j6 (m.take i)++j6 (m.drop i):=by
      conv=>lhs;rw[<- List.take_append_drop i m]
      simp only[j6,List.flatMap_append]
     rw[e,List.append_assoc,List.take_left' (by rw[t7,List.length_take,Nat.min_eq_left (by omega)])]
    refine J.qr [1,2] λ_=>?_;exact⟨_,rfl,by rw[hilen];rfl,by rw[hilen];rfl⟩
theorem b2f (b4 b5:Nat) (die blk:Int) (x:A3):FP 253 (O0 x::[pp b4,pp b5]) [.pt b4 3 [iI die], .pt b5 3 [iI blk]]
  (Ps (.bool ((x.1 !=die)||(x.2.1 !=blk))) [.pt b4 3 [iI die], .pt b5 3 [iI blk]]):=by
 refine FE [0,2,3] Tryz.func253 λX F hX=>?_;exact J.qx [1,2]
theorem b4G (q:Nat) (l:List A3) (hl:l.length<=12) (die blk:Int):FP 223 [pp q,iI die,iI blk] [O2 q l]
  (λv As=>∃a cap l',l'.Perm (l.filter λx=>!((x.1 !=die)||(x.2.1 !=blk)))/\v=slv a l'.length cap/\As=[O2 q l,c9 33 3 a l'.length cap (j6 l')]):=by
 refine FE [2,0,0] Tryz.func223 λX F hX=>?_;refine J.q λbb=>?_;refine J.cb (b7A q l hl) [1] ?_;rintro v As ⟨a,cap,l',hp,rfl,rfl⟩;refine⟨_,rfl,trivial,?_⟩;refine J.q λ_=>?_;refine J.turn1 [2,3] rfl (As:=[.hp (HP.of [.pt (bb 0) 3 [iI die], .pt (bb 1) 3 [iI blk]])]) (λh s=>Sep.hpOf.2 s) rfl ?_;refine J.q λ_=>?_;refine J.ca hX (by kernel_rfl) (a6J 253 [pp (bb 0),pp (bb 1)] (λx=>(x.1 !=die)||(x.2.1 !=blk)) _ (by kernel_rfl) (λx=>Fn.pack (b2f (bb 0) (bb 1) die blk x)) a l'.length cap l' rfl (by rw[hp.length_eq];omega)) [4,2] 0 rfl rfl rfl rfl rfl rfl (λ_=>rfl) ?_;rintro v As ⟨l2,rfl,rfl,rfl⟩;refine⟨_,rfl,trivial,?_⟩;refine J.qr [1,4] λ_=>?_;exact⟨a,cap,_,hp.filter _,rfl,rfl⟩
def ext (l:List NCell) (m:Nat):List NCell:=l++List.replicate m Nand.zcell
theorem b3I (l:List NCell) (m:Nat):ext l m++[Nand.zcell]=ext l (m+1):=by simp[ext,List.replicate_succ']
theorem a1l (l:List NCell) (m:Nat):(ext l m).length=l.length+m:=by simp[ext]
def Q0 (l:List NCell) (k:Nat):List NCell:=(l.take k).map (λc=>{c with lost:=true})++l.drop k
theorem a8z (l:List NCell) (k:Nat):(Q0 l k).length=l.length:=by simp[Q0];omega
theorem a7s {l:List NCell} {k:Nat} (h:k<l.length):(Q0 l k).modify k (λc=>{c with lost:=true})=Q0 l (k+1):=by
 apply List.ext_getElem?;intro j;rw[List.getElem?_modify];simp only[Q0,List.getElem?_append,List.length_map,List.length_take,List.getElem?_map,List.getElem?_take,List.getElem?_drop]
 by_cases e:k=j
 ·subst e;rw[if_neg (by omega),if_pos (by omega),if_pos (by omega),show k+(k-min k l.length)=k from by omega];rw[List.getElem?_eq_getElem h];simp
 ·have e2:(λa:NCell=>if k=j then {a with lost:=true}else a)=id:=by funext a;rw[if_neg e];rfl
  simp only[Option.map_eq_map,e2,Option.map_id_fun,id]
  by_cases h1:j<k
  ·rw[if_pos (show j<min k l.length by omega),if_pos h1,if_pos (show j<min (k+1) l.length by omega),if_pos (show j<k+1 by omega)]
  ·rw[if_neg (show¬j<min k l.length by omega),if_neg (show¬j<min (k+1) l.length by omega),show k+(j-min k l.length)=j from by omega,show k+1+(j-min (k+1) l.length)=j from by omega]
theorem a2i:∀(l' pl:List A3),pl.Nodup->l'.foldl List.erase pl=pl.filter (λx=>decide (x∉l'))
 | [],pl,_=>(List.filter_eq_self.2 (by simp)).symm
 | a::l',pl,h=>by
  rw[List.foldl_cons,a2i l' _ (h.erase a),h.erase_eq_filter,List.filter_filter];apply List.filter_congr;intro x _
  by_cases e:x=a
  ·subst e;simp
  ·simp[e]
theorem b1j {l' pl:List A3} {x y:Int} (h:pl.Nodup) (hp:l'.Perm (pl.filter λa=>!((a.1 !=x)||(a.2.1 !=y)))):l'.foldl List.erase pl=pl.filter λa=>!(decide (a.1=x)&&decide (a.2.1=y)):=by
 rw[a2i l' pl h];apply List.filter_congr;intro a ha;have:a∈l'↔(a.1=x/\a.2.1=y):=by
  rw[hp.mem_iff,List.mem_filter];simp[ha]
 by_cases h1:a.1=x/\a.2.1=y
 ·rw[decide_eq_false (by rw[this];simpa using h1)];simp[h1]
 ·rw[decide_eq_true (by rw[this];exact h1)];simp only[not_and]at h1
  by_cases h2:a.1=x
  ·simp[h2,h1 h2]
  ·simp[h2]
theorem a8L {N:Nand} {x y:Int} (h:N.refuses x y 0=0) (h6:N.cutB=true):N.eraseN x y=N.cutN.setBlk x.toNat y.toNat {N.blk x.toNat y.toNat with cells:=((N.blk x.toNat y.toNat).cells++List.replicate (N.pages-(N.blk x.toNat y.toNat).cells.length) Nand.zcell).map λc=>{c with lost:=true}}:=by
 unfold Nand.eraseN;rw[if_neg (by simp[h]),if_pos h6]
theorem a7N {N:Nand} {x y:Int} (h:N.refuses x y 0=0) (h6:N.cutB=false) (h7:(N.blk x.toNat y.toNat).fails=true):N.eraseN x y=N.cutN.setBlk x.toNat y.toNat {N.blk x.toNat y.toNat with met:=true}:=by
 unfold Nand.eraseN;rw[if_neg (by simp[h]),if_neg (by simp[h6]),if_pos h7]
theorem b1k {N:Nand} {x y:Int} (h:N.refuses x y 0=0) (h6:N.cutB=false) (h7:(N.blk x.toNat y.toNat).fails=false):N.eraseN x y={N.cutN.setBlk x.toNat y.toNat {N.blk x.toNat y.toNat with cells:=[],worn:=(N.blk x.toNat y.toNat).worn+1}with plan:=N.plan.filter λa=>!(decide (a.1=x)&&decide (a.2.1=y))}:=by
 unfold Nand.eraseN;rw[if_neg (by simp[h]),if_neg (by simp[h6]),if_neg (by simp[h7])]
theorem a9v (p:Nat) (N:Nand) (hN:N.Ok) (hR:N.Room) (hpn:N.plan.Nodup) (hpl:N.plan.length<=12) (x y:Int):FP 183 [pp p,iI x,iI y] [i5 p N] (Ps (iI (N.eraseE x y)) [i5 p (N.eraseN x y)]):=by
 have hbd:=hN.bd;have hnum:=hN.num;have hr0:=hR.ops;refine FE [2,0,0] Tryz.func183 λX F hX=>?_;refine J.qp (T9 x y) [] λ_=>?_;refine J.qp (a1C p N hN x y 0) [1] λ_=>?_;refine J.qd (λ_ h=>?_) λ_ h=>?_
 ·simp only[bne_iff_ne,ne_eq]at h;refine J.qr [1] λ_=>?_;exact⟨by simp only[Nand.eraseE,ne_eq,h,not_false_eq_true,if_pos],by simp only[Nand.eraseN,ne_eq,h,not_false_eq_true,if_pos];rfl⟩
 simp only[bne_eq_false_iff_eq]at h;obtain⟨hoff,hdd,hr⟩:=Nand.refuses_zero h;obtain⟨i,rfl⟩:=Int.eq_ofNat_of_zero_le hr.1;obtain⟨j,rfl⟩:=Int.eq_ofNat_of_zero_le hr.2.2.1;have hi:i<N.dies:=by omega
 have hj:j<N.blocks:=by omega
 have hlen:=(hN.cells i j hi hj).1;refine J.o (α:=NLoc) 1 λY=>?_;refine J.openAt 5 (i*N.blocks+j) rfl rfl (L4 _ _ _ _ _ (a3H hi hj)) rfl ?_;rw[(H3 hj).1,(H3 hj).2];refine J.o (α:=(Option Nat×Nat)) 6 λc=>?_;refine J.p (.of [0,4,8,13,16,20,26,29,32]) [8] [1,2,3,4,5,6,7] λ_=>?_;refine J.qp (T9 i j) [] λ_=>?_;refine J.q λ_=>?_;refine J.valT hX (pp (Y.bp (i*N.blocks+j))) 7 rfl rfl (λ_ a w he hC=>?_) rfl ?_
 ·refine(l8 (key:=((i:Int),(j:Int),0)) J9 X5 (z:= .pointer none) (λw=>by kernel_rfl) rfl rfl rfl rfl he rfl rfl (hC rfl _ (g7 (i:=2) rfl))).trans ?_;simp only[M7 hi hj];rfl
 refine J.qp (b6b p N Y hN hR) [1] λ_=>?_;refine J.qd (λ_ h6=>?_) λ_ h6=>?_
 ·refine J.q λ_=>?_;rw[show(N.blk i j).cells=ext (N.blk i j).cells 0 from by simp[ext]];refine J.q λ_=>?_;refine J.l (α:=(Option Nat×Nat×Nat)) (λz=>(ext (N.blk i j).cells z.2.2).length<=N.pages) (λz=>[⟨8,pp (Y.bp (i*N.blocks+j)),7, .tt⟩,⟨0,pp p,2, .tt⟩]) [6,7] (λz=>[.pt (Y.bp (i*N.blocks+j)) 118 [slv z.1 (ext (N.blk i j).cells z.2.2).length z.2.1,iI (N.blk i j).worn, .bool (N.blk i j).fails, .bool (N.blk i j).met],c9 178 34 z.1 (ext (N.blk i j).cells z.2.2).length z.2.1 (s8 (ext (N.blk i j).cells z.2.2))]) (λz=>N.pages-(ext (N.blk i j).cells z.2.2).length) ((c.1,c.2,0)) (by rw[a1l];omega) λz hI=>?_;obtain⟨a,cap,m⟩:=z;dsimp only at hI ⊢;refine J.p (.of [0,4,8,13,16,20,24,28,32,37,40]) [] [1,2,3,4,5,6,7] λ_=>?_;refine J.qd (λ_ h8=>?_) λ_ h8=>?_
  ·simp only[decide_eq_true_eq,Int.ofNat_lt]at h8;rw[show N.cutN.pages=N.pages from rfl]at h8;refine J.q λ_=>?_;refine J.append hX tk 7 8 0 rfl rfl rfl rfl rfl rfl rfl rfl rfl rfl rfl rfl rfl rfl rfl rfl ?_ ?_ (λ_=>rfl) λa' cap'=>⟨_,b2a Nand.zcell rfl rfl,trivial,?_⟩
   ·simp only[maxLen];omega
   ·omega
   refine J.q λ_=>?_;rw[a5P _ Nand.zcell,b3I];refine J.q λ_=>?_;refine J.n ((a',cap',m+1)) (by dsimp only;rw[a1l]at h8 ⊢;omega) (by dsimp only;rw[a1l]at h8 ⊢;rw[a1l];omega) [0,1,2,3,4,5,6,7]
  ·simp only[decide_eq_false_iff_not,Int.ofNat_lt]at h8;rw[show N.cutN.pages=N.pages from rfl]at h8;have hm:(ext (N.blk i j).cells m).length=N.pages:=by omega
   have hm2:m=N.pages-(N.blk i j).cells.length:=by rw[a1l]at hm;omega
   have hext:ext (N.blk i j).cells m=(N.blk i j).cells++List.replicate (N.pages-(N.blk i j).cells.length) Nand.zcell:=by rw[hm2];rfl
   generalize ext (N.blk i j).cells m=B at hm hext;refine J.know (λh' s=>i7 (c:=(a,cap)) (by omega) (s.get (i:=7) rfl)) λhg=>?_;obtain⟨g,hg⟩:=hg;simp only at hg;subst hg;refine J.openOwn 7 rfl rfl (λ_=>rfl) λr q1 q2 q3 q4=>?_;refine J.q λ_=>?_;refine J.l (α:=Nat) (λk=>k<=B.length) (λk=>[si 56 k,si 55 B.length,⟨8,pp (Y.bp (i*N.blocks+j)),7, .tt⟩]) [7] (λk=>[.pt g 178 (s8 (Q0 B k)++r)]) (λk=>B.length-k) (0) (Nat.zero_le _) λk hI=>?_;refine J.qd (λ_ h9=>?_) λ_ h9=>?_
   ·simp only[decide_eq_true_eq,Int.ofNat_lt]at h9;refine J.q λ_=>?_;have hbl:(Q0 B k).length=B.length:=a8z B k;obtain⟨cl,hcl⟩:∃cl,(Q0 B k)[k]? =some cl:=⟨_,List.getElem?_eq_getElem (by omega)⟩;refine J.s1 7 (s8 (Q0 B (k+1))++r) ?_ ?_ ?_
    ·rw[List.length_append,l9];show 0+(k:Int).toNat*34+32<_;simp only[Int.toNat_natCast];omega
    ·rw[show 0+(k:Int).toNat*34+32=k*34+32 from by simp,List.set_append_left _ _ (by rw[l9];omega)];rw[Q7 _ k 32 _ (λc=>{c with lost:=true}) cl hcl (by omega) rfl,a7s h9]
    refine J.q λ_=>?_;refine J.nx (k+1) (by omega) (by omega) (λ_ s=>s)
   ·simp only[decide_eq_false_iff_not,Int.ofNat_lt]at h9;obtain rfl:k=B.length:=by omega
    have hall:Q0 B B.length=B.map λc=>{c with lost:=true}:=by simp[Q0]
    rw[hall];have hmb:(B.map λc=>{c with lost:=true}).length=B.length:=by simp
    generalize hB':(B.map λc=>{c with lost:=true})=B' at hmb;refine J.closeOwn (e:=178) (size:=34) (n:=B.length) (cap:=cap) (xs:=s8 B') 7 rfl rfl (by rw[l9,hmb]) q2 q3 (by rw[List.length_append,l9,hmb];rw[l9]at q4;exact q4) (by rw[List.take_left' (by rw[l9,hmb])]) rfl ?_;rw[<- hmb];refine J.q λ_=>?_;refine J.closeN p N (N.cutN.setBlk i j {N.blk i j with cells:=B'}) Y i j hj ({N.blk i j with cells:=B'}) (some g,cap) [1,2,3,4,5,6,7] rfl rfl rfl rfl (rfl) rfl ?_;refine J.qr [1] λ_=>?_;exact⟨by simp[Nand.eraseE,h,h6],by rw[a8L h h6,<- hB',hext];rfl⟩
 refine J.qd (λ_ h7=>?_) λ_ h7=>?_
 ·refine J.q λ_=>?_;refine J.closeN p N (N.cutN.setBlk i j {N.blk i j with met:=true}) Y i j hj ({N.blk i j with met:=true}) _ [1,2,3,4,5,6,7] rfl rfl rfl rfl (rfl) rfl ?_;refine J.qr [1] λ_=>?_;exact⟨by simp[Nand.eraseE,h,h6,h7],by rw[a7N h h6 h7];rfl⟩
 have hw:=(hnum.2.2 i j);refine J.q λ_=>?_;refine J.turn1 [7] rfl (As:=[c9 178 34 none 0 0 (s8 [])]) (λh s=>Sep.one ⟨rfl,rfl,rfl⟩) rfl ?_;refine J.qc (b4G Y.q N.plan hpl i j) [3] λ_=>?_;rintro v As ⟨a,cap,l',hp,rfl,rfl⟩;have hl12:l'.length<=12:=by rw[hp.length_eq];exact Nat.le_trans (List.length_filter_le _ _) hpl
 refine⟨_,rfl,trivial,?_⟩;refine J.q λ_=>?_;refine J.l (α:=Nat) (λk=>k<=l'.length) (λk=>[si 92 k,si 91 l'.length,sv 90 (slv a l'.length cap),⟨0,pp p,2, .tt⟩]) [3] (λk=>[O2 Y.q ((l'.take k).foldl List.erase N.plan)]) (λk=>l'.length-k) (0) (Nat.zero_le _) λk hI=>?_;refine J.qd (λ_ h9=>?_) λ_ h9=>?_
 ·simp only[decide_eq_true_eq,Int.ofNat_lt]at h9;cases a with
  | none=>
   refine J.know (λh' s=>(s.get (i:=8) rfl).2.1) λhn0=>?_;omega
  | some g=>
   have hk:l'[k]? =some (l'.getD k d3):=by rw[List.getD_eq_getElem?_getD,List.getElem?_eq_getElem h9,Option.getD_some]
   refine J.q λ_=>?_;refine J.v (O0 (l'.getD k d3)) rfl rfl (λhg a w he hs=>?_) ?_
   ·exact o0 tk rfl rfl he rfl rfl rfl (hs.get (i:=8) rfl) (by rw[show 0+(k:Int).toNat*3=k*3 from by omega];exact a4h hk) rfl
   refine J.p (.of [0,4,8,13,17,22]) [] [1,2,4,5,6,7,8,9] λ_=>?_;refine J.qp (b2e Y.q ((l'.take k).foldl List.erase N.plan) (l'.getD k d3).1 (l'.getD k d3).2.1 (l'.getD k d3).2.2) [3] λ_=>?_;refine J.q λ_=>?_;have hst:((l'.take k).foldl List.erase N.plan).erase (l'.getD k d3)=(l'.take (k+1)).foldl List.erase N.plan:=by
    rw[List.take_add_one,hk];simp
   rw[show(((l'.getD k d3).1,(l'.getD k d3).2.1,(l'.getD k d3).2.2):A3)=l'.getD k d3 from rfl,hst];refine J.q λ_=>?_;refine J.n (k+1) (by omega) (by omega) [0,1,2,3,4,5,6,7,8]
 ·simp only[decide_eq_false_iff_not,Int.ofNat_lt]at h9;obtain rfl:k=l'.length:=by omega
  rw[List.take_length,b1j hpn hp];refine J.q λ_=>?_;refine J.closeN p N ({N.cutN.setBlk i j {N.blk i j with cells:=[],worn:=(N.blk i j).worn+1}with plan:=N.plan.filter λa=>!(decide (a.1=(i:Int))&&decide (a.2.1=(j:Int)))}) Y i j hj ({N.blk i j with cells:=[],worn:=(N.blk i j).worn+1}) (none,0) [1,2,3,4,5,6,7] rfl rfl rfl rfl (rfl) rfl ?_;refine J.qr [1] λ_=>?_;exact⟨by simp[Nand.eraseE,h,h6,h7],by rw[b1k h h6 h7];rfl⟩
end Go.Proofs.YtpohajhbfllbbaaGreat
