/- Helpers. No condition. -/
import Derived.Test.YtpohajhbfllbbaaGreatD04
import Derived.Test.YtpohajhbfllbbaaGreatD06
import Derived.Test.YtpohajhbfllbbaaGreatD10
set_option maxRecDepth 20000
set_option linter.all false
namespace Go.Proofs.YtpohajhbfllbbaaGreat
open Go Go.RowKit
theorem a4i {N:Nand} (hN:N.Ok) (x y z:Int):(N.readV x y z).length=32:=by
 unfold Nand.readV;split
 ·rfl
 ·rename_i h;simp only[ne_eq,Decidable.not_not]at h;obtain⟨_,_,hr⟩:=Nand.refuses_zero h;split
  ·rfl
  ·rename_i c hc;split
   ·rfl
   ·exact(hN.cells _ _ (by omega) (by omega)).2 c (List.mem_of_getElem? hc)
namespace M
def bad (s:Sh) (x y z:Int):Bool:=s.block !=y||s.row !=z|| !L.has s.mask x||(G.parity s.mask s.block s.row==x) !=(s.kind==2)
def look (N:Nand) (x y z:Int):Sh×Int:=
 let e:=N.readE x y z
 if e=0 then
  let p:=N.readV x y z
  if S.getE p≠0\/bad (S.getV p) x y z=true then(Sh.zero,3)else(S.getV p,1)
 else if e=5 then(Sh.zero,2)
 else if e=8\/e=9\/e=3\/e=12 then(Sh.zero,4)
 else(Sh.zero,3)
end M
theorem a1a (p:Nat) (N:Nand) (hN:N.Ok) (hR:N.Room) (x y z:Int):FP 172 [pp p, .agg #[iI x,iI y,iI z]] [i5 p N]
  (Ps (.tuple #[shV (M.look N x y z).1,iI (M.look N x y z).2]) [i5 p N]):=by
 refine FE [2,0] Tryz.func172 λX F hX=>?_;refine J.qp (a2O p N hN x y z) [1] λ_=>?_;refine J.qd (λ_ h1=>?_) λ_ h1=>?_
 ·simp only[beq_iff_eq]at h1;refine J.qp (b2y (N.readV x y z) (a4i hN x y z)) [] λ_=>?_;refine J.p (.of [0,5,8,13,16,21,28,33,26,36,40]) [10] [1,2,3,4,5] λ_=>?_;refine J.qp (K1 (S.getV (N.readV x y z)).mask (S.getV (N.readV x y z)).block (S.getV (N.readV x y z)).row) [] λ_=>?_;have hlk:M.look N x y z=if S.getE (N.readV x y z)≠0\/M.bad (S.getV (N.readV x y z)) x y z=true then(Sh.zero,3)else(S.getV (N.readV x y z),1):=by simp only[M.look];rw[if_pos h1]
  generalize hE:S.getE (N.readV x y z)=ge at hlk;generalize hS:S.getV (N.readV x y z)=s at hlk;refine J.q λ_=>?_;refine J.gcase hX rfl rfl rfl trivial (λhb=>?_) (λhb=>?_)
  ·have hb2:(ge !=0||s.block !=y||s.row !=z)=false:=by rw[Bool.not_eq_true']at hb;exact hb
   rw[hb2];refine J.qp (a4w s.mask x) [] λ_=>?_;have hcond:(false|| !L.has s.mask x||(G.parity s.mask s.block s.row==x) !=(s.kind==2))=true->ge≠0\/M.bad s x y z=true:=λh=>by
    simp only[Bool.or_eq_false_iff]at hb2;right;unfold M.bad;rw[hb2.1.2,hb2.2];exact h
   have hcond2:(false|| !L.has s.mask x||(G.parity s.mask s.block s.row==x) !=(s.kind==2))=false->¬(ge≠0\/M.bad s x y z=true):=λh=>by
    simp only[Bool.or_eq_false_iff]at hb2;have h0:ge=0:=by simpa using hb2.1.1
    have h2:M.bad s x y z=false:=by unfold M.bad;rw[hb2.1.2,hb2.2];exact h
    simp[h0,h2]
   refine J.qd (λ_ h5=>?_) λ_ h5=>?_
   ·refine J.qr [1] λ_=>?_;have hc:ge≠0\/M.bad s x y z=true:=hcond h5;rw[hlk,if_pos hc];exact⟨rfl,rfl⟩
   ·refine J.qr [1] λ_=>?_;have hc:¬(ge≠0\/M.bad s x y z=true):=hcond2 h5;rw[hlk,if_neg hc];exact⟨rfl,rfl⟩
  ·have hb2:(ge !=0||s.block !=y||s.row !=z)=true:=by rw[Bool.not_eq_false']at hb;exact hb
   rw[hb2];refine J.q λ_=>?_;refine J.v (.bool false) rfl rfl (λhg a w he hw=>by simp[G.on]at hg) ?_;have hc:ge≠0\/M.bad s x y z=true:=by
    simp only[Bool.or_eq_true,bne_iff_ne,ne_eq]at hb2;rcases hb2 with(h | h) | h
    ·exact .inl h
    ·right;simp[M.bad,h]
    ·right;simp[M.bad,h]
   rw[if_pos hc]at hlk;refine J.qd (λ_ h5=>?_) λ_ h5=>?_
   ·refine J.qr [1] λ_=>?_;rw[hlk];exact⟨rfl,rfl⟩
   ·simp at h5
 simp only[beq_eq_false_iff_ne,ne_eq]at h1;refine J.qd (λ_ h2=>?_) λ_ h2=>?_
 ·simp only[beq_iff_eq]at h2;refine J.qr [1] λ_=>?_;exact⟨by simp only[M.look];rw[if_neg h1,if_pos h2];rfl,rfl⟩
 simp only[beq_eq_false_iff_ne,ne_eq]at h2;have hgone:(N.readE x y z=8\/N.readE x y z=9\/N.readE x y z=3\/N.readE x y z=12)->M.look N x y z=(Sh.zero,4):=λh=>by simp only[M.look];rw[if_neg h1,if_neg h2,if_pos h]
 have hbad:¬(N.readE x y z=8\/N.readE x y z=9\/N.readE x y z=3\/N.readE x y z=12)->M.look N x y z=(Sh.zero,3):=λh=>by simp only[M.look];rw[if_neg h1,if_neg h2,if_neg h]
 refine J.qd (λ_ g8=>?_) λ_ g8=>?_
 ·rw[g8];refine J.qT λ_=>?_;refine J.qr [1] λ_=>?_;simp only[beq_iff_eq]at g8;rw[hgone (by simp[g8])];exact⟨rfl,rfl⟩
 refine J.qd (λ_ g9=>?_) λ_ g9=>?_
 ·rw[g9];refine J.qT λ_=>?_;refine J.qr [1] λ_=>?_;simp only[beq_iff_eq]at g9;rw[hgone (by simp[g9])];exact⟨rfl,rfl⟩
 refine J.qd (λ_ g3=>?_) λ_ g3=>?_
 ·rw[g3];refine J.qT λ_=>?_;refine J.qr [1] λ_=>?_;simp only[beq_iff_eq]at g3;rw[hgone (by simp[g3])];exact⟨rfl,rfl⟩
 refine J.qd (λ_ g12=>?_) λ_ g12=>?_
 ·refine J.qr [1] λ_=>?_;simp only[beq_iff_eq]at g12;rw[hgone (by simp[g12])];exact⟨rfl,rfl⟩
 refine J.qr [1] λ_=>?_;simp only[beq_eq_false_iff_ne,ne_eq]at g8 g9 g3 g12;rw[hbad (by simp[g8,g9,g3,g12])];exact⟨rfl,rfl⟩
def f8 (l:List Int):List Value:=l.map (.int .i64)
theorem K5 (l:List Int) (x:Int):f8 (l++[x])=f8 l++[iI x]:=by simp[f8]
namespace M
def rowN (N:Nand) (b r:Int) (k:Nat):List (Sh×Int):=(List.range k).map λd:Nat=>look N (d:Int) b r
end M
theorem a4f (N:Nand) (b r:Int) (k:Nat):M.rowN N b r (k+1)=M.rowN N b r k++[M.look N (k:Int) b r]:=by simp[M.rowN,List.range_succ]
theorem b4R (p:Nat) (N:Nand) (hN:N.Ok) (hR:N.Room) (b r:Int):FP 169 [pp p,iI b,iI r] [i5 p N]
  (λv As=>∃a1 c1 a2 c2,v= .tuple #[slv a1 N.dies c1,slv a2 N.dies c2]/\As=[i5 p N,c9 219 23 a1 N.dies c1 (m7 ((M.rowN N b r N.dies).map (·.1))),c9 3 1 a2 N.dies c2 (f8 ((M.rowN N b r N.dies).map (·.2)))]):=by
 have hbd:=hN.bd;refine FE [2,0,0] Tryz.func169 λX F hX=>?_;refine J.qp (M8 p N) [1] λ_=>?_;refine J.turn1 [] rfl (As:=[c9 219 23 none 0 0 (m7 []),c9 3 1 none 0 0 (f8 [])]) (λh s=>⟨λ_=>0,λi A hA=>by
  match i,hA with
  | 0,hA=>simp at hA;subst hA;exact⟨rfl,rfl,rfl⟩
  | 1,hA=>simp at hA;subst hA;exact⟨rfl,rfl,rfl⟩
  | k+2,hA=>simp at hA⟩) rfl ?_
 refine J.q λ_=>?_;refine J.l (α:=(Nat×(Option Nat×Nat)×(Option Nat×Nat))) (λz=>z.1<=N.dies) (λz=>[si 16 z.1,si 15 N.dies,sv 8 (slv z.2.1.1 z.1 z.2.1.2),sv 9 (slv z.2.2.1 z.1 z.2.2.2),⟨0,pp p,2, .tt⟩,si 1 b,si 2 r]) [2,3] (λz=>[c9 219 23 z.2.1.1 z.1 z.2.1.2 (m7 ((M.rowN N b r z.1).map (·.1))),c9 3 1 z.2.2.1 z.1 z.2.2.2 (f8 ((M.rowN N b r z.1).map (·.2)))]) (λz=>N.dies-z.1) ((0,(none,0),(none,0))) (Nat.zero_le _) λz hI=>?_;obtain⟨k,⟨a1,c1⟩,⟨a2,c2⟩⟩:=z;dsimp only at hI ⊢;refine J.qd (λ_ h1=>?_) λ_ h1=>?_
 ·simp only[decide_eq_true_eq,Int.ofNat_lt]at h1;refine J.qp (a1a p N hN hR k b r) [1] λ_=>?_;refine J.q λ_=>?_;refine J.append hX tk 2 5 0 rfl rfl rfl rfl rfl rfl rfl rfl rfl rfl rfl rfl rfl rfl rfl rfl ?_ ?_ (λ_=>rfl) λa3 c3=>⟨_,(congrArg (λz=>A4 _ 2 (c9 _ _ _ _ _ z)) (x6 _ (M.look N k b r).1).symm).trans rfl,trivial,?_⟩
  ·simp only[maxLen];omega
  ·omega
  refine J.q λ_=>?_;refine J.append hX tk 3 6 0 rfl rfl rfl rfl rfl rfl rfl rfl rfl rfl rfl rfl rfl rfl rfl rfl ?_ ?_ (λ_=>rfl) λa4 c4=>⟨_,(congrArg (λz=>A4 _ 3 (c9 _ _ _ _ _ z)) (K5 _ (M.look N k b r).2).symm).trans rfl,trivial,?_⟩
  ·simp only[maxLen];omega
  ·omega
  rw[show(M.rowN N b r k).map (·.1)++[(M.look N k b r).1]=(M.rowN N b r (k+1)).map (·.1)from by rw[a4f,List.map_append];rfl,show(M.rowN N b r k).map (·.2)++[(M.look N k b r).2]=(M.rowN N b r (k+1)).map (·.2)from by rw[a4f,List.map_append];rfl];refine J.q λ_=>?_;refine J.n ((k+1,(a3,c3),(a4,c4))) (by dsimp only;omega) (by dsimp only;omega) [0,1,2,3]
 ·simp only[decide_eq_false_iff_not,Int.ofNat_lt]at h1;obtain rfl:k=N.dies:=by omega
  refine J.qr [1,2,3] λ_=>?_;exact⟨a1,c1,a2,c2,rfl,rfl⟩
theorem b5Q (x y:Int):FP 216 [iI x,iI y] [] (Ps (.bool (decide (x<y))) []):=by
 refine FE [] Tryz.func216 λX F hX=>?_;refine J.qp (a5O x) [] λ_=>?_;refine J.q λ_=>?_;refine J.gcase hX rfl rfl rfl trivial (λhb=>by cases hb) (λ_=>?_);refine J.q λ_=>?_;refine J.v (.bool false) rfl rfl (λhg a w he hw=>by simp[G.on]at hg) ?_;refine J.qr [] λ_=>?_;exact⟨by simp,rfl⟩
theorem o0 (l:List Int):(f8 l).length=l.length:=by simp[f8]
theorem H6 (l:List Int) (r:List Value) (k:Nat) (x:Int) (h:l[k]? =some x):(f8 l++r)[k]? =some (iI x):=by
 obtain⟨h1,h2⟩:=List.getElem?_eq_some_iff.1 h;rw[List.getElem?_append_left (by rw[o0];exact h1),f8,List.getElem?_map,h];rfl
theorem O8 (l:List Int) (r:List Value) (k:Nat) (x:Int) (h:k<l.length):(f8 l++r).set k (iI x)=f8 (l.set k x)++r:=by
 rw[List.set_append_left _ _ (by rw[o0];exact h),f8,f8,List.map_set]
def a7o (l:List Int) (j:Nat):List Int:=(l.set j (l.getD (j-1) 0)).set (j-1) (l.getD j 0)
def a6h:Nat->List Int->List Int
 | 0,l=>l
 | j+1,l=>if l.getD (j+1) 0<l.getD j 0 then a6h j (a7o l (j+1))else l
def Q8 (l:List Int):Nat->List Int
 | 0=>l
 | k+1=>a6h (k+1) (Q8 l k)
def Q7 (l:List Int):List Int:=Q8 l (l.length-1)
theorem a2q (l:List Int) (j:Nat):(a7o l j).length=l.length:=by simp[a7o]
theorem a4b:∀(j:Nat) (l:List Int),(a6h j l).length=l.length
  | 0,l=>rfl
  | j + 1, l => by unfold a6h; split
                   · rw[a4b j,a2q]
                   · rfl
theorem a0f (l:List Int):∀k,(Q8 l k).length=l.length
 | 0=>rfl
 | k+1=>by rw[Q8,a4b,a0f l k]
theorem b4k (g n cap:Nat) (l:List Int) (hl:l.length=n) (hn:n<=4611686018427387904) (r:List Value):FP 210 [.slice (some ⟨g,0,none⟩) n cap,iI 0,iI n] [.pt g 3 (f8 l++r)]
  (Ps (.tuple #[]) [.pt g 3 (f8 (Q7 l)++r)]):=by
 refine FE [2,0,0] Tryz.func210 λX F hX=>?_;refine J.q λ_=>?_;refine J.l (α:=Nat) (λi=>1<=i/\i<=max 1 n) (λi=>[si 6 i,⟨0, .slice (some ⟨g,0,none⟩) n cap,2, .tt⟩,si 1 0,si 2 n]) [1] (λi=>[.pt g 3 (f8 (Q8 l (i-1))++r)]) (λi=>n-i) (1) (⟨by omega,by omega⟩) λi hI=>?_;refine J.qd (λ_ h1=>?_) λ_ h1=>?_
 ·simp only[decide_eq_true_eq,Int.ofNat_lt]at h1;refine J.q λ_=>?_;refine J.l (α:=(Nat×List Int)) (λy=>y.1<=i/\y.2.length=n/\a6h y.1 y.2=Q8 l i) (λy=>[si 7 y.1,si 6 i,⟨0, .slice (some ⟨g,0,none⟩) n cap,2, .tt⟩,si 1 0,si 2 n]) [1] (λy=>[.pt g 3 (f8 y.2++r)]) (λy=>y.1) ((i,Q8 l (i-1))) (⟨Nat.le_refl _,by rw[a0f,hl],by obtain⟨k,rfl⟩:∃k,i=k+1:=⟨i-1,by omega⟩;rfl⟩) λy hI=>?_;obtain⟨j,m⟩:=y;dsimp only at hI ⊢;have hget:∀e,e<n->m[e]? =some (m.getD e 0):=λe he=>by rw[List.getD_eq_getElem?_getD,List.getElem?_eq_getElem (by omega),Option.getD_some]
  rcases Nat.eq_zero_or_pos j with h2 | h2
  ·subst h2;refine J.pn 4 (.of [0,4,8,12,16,20,24,29,32,36,40,44,49,54,56]) [] [1] λ_ _=>?_;rw[show decide (((0:Nat):Int)>0)=false from rfl];refine J.q λ_=>?_;refine J.vT (iI 0) rfl rfl (λhg a w he hC=>by simp[G.on]at hg) ?_;refine J.q λ_=>?_;refine J.vT (iI 0) rfl rfl (λhg a w he hC=>by simp[G.on]at hg) ?_;refine J.q λ_=>?_;refine J.gcase hX rfl rfl rfl ⟨rfl,trivial⟩ (λh=>by cases h) (λ_=>?_);refine J.slot (k:=29) (s':=⟨29, .bool false,0, .when false⟩) rfl rfl rfl ?_;refine J.qF λ_=>?_;have hm:m=Q8 l (i+1-1):=hI.2.2;rw[hm];refine J.q λ_=>?_;refine J.n (i+1) (⟨by omega,by omega⟩) (by omega) [0,1]
  ·obtain⟨j,rfl⟩:∃k,j=k+1:=⟨j-1,by omega⟩;refine J.pn 4 (.of [0,4,8,12,16,20,24,29,32,36,40,44,49,54,56]) [] [1] λ_ _=>?_;rw[show decide (((j+1:Nat):Int)>0)=true from decide_eq_true (by omega)];refine J.q λ_=>?_;refine J.vT (iI (m.getD (j+1) 0)) rfl rfl (λhg a w he hC=>?_) ?_
   ·exact j3 tk rfl rfl he hg rfl rfl (hC rfl _ (i7 (i:=1) rfl)) (by rw[show 0+((j+1:Nat):Int).toNat*1=j+1 from by omega];exact H6 m r _ _ (hget _ (by omega)))
   refine J.q λ_=>?_;refine J.vT (iI (m.getD j 0)) rfl rfl (λhg a w he hC=>?_) ?_
   ·exact j3 tk rfl rfl he hg rfl rfl (hC rfl _ (i7 (i:=1) rfl)) (by rw[show 0+(((j+1:Nat):Int)-1).toNat*1=j from by omega];exact H6 m r _ _ (hget _ (by omega)))
   refine J.q λ_=>?_;refine J.call hX (by kernel_rfl) (b5Q (m.getD (j+1) 0) (m.getD j 0)) [] 0 rfl rfl rfl rfl (by(repeat' (first | exact Conj.nil | refine Conj.cons ?_ ?_ | omega | exact hq0 | (simpa using hq0) | (exactλh=>h) | exact rfl | (intro hq;have hq0:=hq;try simp only[Bool.and_eq_true,Bool.or_eq_true,decide_eq_true_eq,Bool.not_eq_true',decide_eq_false_iff_not]at hq) | (simp;done) | (simp;omega) | decide))) rfl rfl (λ_=>rfl) ?_;refine cpq ⟨_,rfl,⟨rfl,trivial⟩,?_⟩;refine J.qd (λ_ h3=>?_) λ_ h3=>?_
   ·simp only[Bool.true_and,decide_eq_true_eq]at h3;refine J.pq (.take true 0 (.take true 1 (.take true 2 (.take true 3 (.take true 4 (.take true 5 (.take true 6 (.take true 7 (.take true 8 (.take true 10 (.take true 11 (.take true 12 (.alt false 9 ((.of [54,56,62,64,71])) (.alt false 13 ((.of [38,56,62,64,71])) .non)))))))))))))) [16,17] [] λ_ _=>?_;refine J.alts ?_ ?_
    ·refine J.v (iI (m.getD j 0)) rfl rfl (λhg a w he hs=>?_) ?_
     ·exact j3 tk rfl rfl he hg rfl rfl (hs.get (i:=1) rfl) (by rw[show 0+(((j+1:Nat):Int)-1).toNat*1=j from by omega];exact H6 m r _ _ (hget _ (by omega)))
     refine J.q λ_=>?_;refine J.v (iI (m.getD (j+1) 0)) rfl rfl (λhg a w he hs=>?_) ?_
     ·exact j3 tk rfl rfl he hg rfl rfl (hs.get (i:=1) rfl) (by rw[show 0+((j+1:Nat):Int).toNat*1=j+1 from by omega];exact H6 m r _ _ (hget _ (by omega)))
     refine J.q λ_=>?_;refine J.s1 1 (f8 (m.set (j+1) (m.getD j 0))++r) ?_ ?_ ?_
     ·rw[List.length_append,o0];show 0+((j+1:Nat):Int).toNat*1<_;omega
     ·rw[show 0+((j+1:Nat):Int).toNat*1=j+1 from by omega];exact O8 m r (j+1) _ (by omega)
     refine J.q λ_=>?_;refine J.s1 1 (f8 (a7o m (j+1))++r) ?_ ?_ ?_
     ·rw[List.length_append,o0,List.length_set];show 0+(((j+1:Nat):Int)-1).toNat*1<_;omega
     ·rw[show 0+(((j+1:Nat):Int)-1).toNat*1=j from by omega];exact O8 _ r j _ (by rw[List.length_set];omega)
     refine J.q λ_=>?_;rw[show((j+1:Nat):Int)-1=(j:Int)from by omega];refine J.q λ_=>?_;refine J.n ((j,a7o m (j+1))) (⟨by dsimp only;omega,by rw[a2q];exact hI.2.1,by rw[<- hI.2.2];exact(if_pos h3).symm⟩) (by dsimp only;omega) [0,1]
    ·refine J.v (iI (m.getD (j+1) 0)) rfl rfl (λhg a w he hs=>?_) ?_
     ·exact j3 tk rfl rfl he hg rfl rfl (hs.get (i:=1) rfl) (by rw[show 0+((j+1:Nat):Int).toNat*1=j+1 from by omega];exact H6 m r _ _ (hget _ (by omega)))
     refine J.q λ_=>?_;refine J.v (iI (m.getD j 0)) rfl rfl (λhg a w he hs=>?_) ?_
     ·exact j3 tk rfl rfl he hg rfl rfl (hs.get (i:=1) rfl) (by rw[show 0+(((j+1:Nat):Int)-1).toNat*1=j from by omega];exact H6 m r _ _ (hget _ (by omega)))
     refine J.q λ_=>?_;refine J.s1 1 (f8 (m.set (j+1) (m.getD j 0))++r) ?_ ?_ ?_
     ·rw[List.length_append,o0];show 0+((j+1:Nat):Int).toNat*1<_;omega
     ·rw[show 0+((j+1:Nat):Int).toNat*1=j+1 from by omega];exact O8 m r (j+1) _ (by omega)
     refine J.q λ_=>?_;refine J.s1 1 (f8 (a7o m (j+1))++r) ?_ ?_ ?_
     ·rw[List.length_append,o0,List.length_set];show 0+(((j+1:Nat):Int)-1).toNat*1<_;omega
     ·rw[show 0+(((j+1:Nat):Int)-1).toNat*1=j from by omega];exact O8 _ r j _ (by rw[List.length_set];omega)
     refine J.q λ_=>?_;rw[show((j+1:Nat):Int)-1=(j:Int)from by omega];refine J.q λ_=>?_;refine J.n ((j,a7o m (j+1))) (⟨by dsimp only;omega,by rw[a2q];exact hI.2.1,by rw[<- hI.2.2];exact(if_pos h3).symm⟩) (by dsimp only;omega) [0,1]
   ·simp only[Bool.true_and,decide_eq_false_iff_not]at h3;have hm:m=Q8 l (i+1-1):=by rw[show i+1-1=i from rfl,<- hI.2.2];exact(if_neg h3).symm
    rw[hm];refine J.q λ_=>?_;refine J.n (i+1) (⟨by omega,by omega⟩) (by omega) [0,1]
 ·simp only[decide_eq_false_iff_not,Int.ofNat_lt]at h1;have hi:Q8 l (i-1)=Q7 l:=by
   rw[Q7,hl,show i-1=n-1 from by omega]
  rw[hi];refine J.q λ_=>?_;refine J.f [1] ?_;exact⟨rfl,rfl⟩
theorem O3 (l:List Int):(Q7 l).length=l.length:=a0f l _
theorem b3K (g n cap:Nat) (l:List Int) (hl:l.length=n) (hn:n<=12) (r:List Value) (k:Nat):FP 176 [.slice (some ⟨g,0,none⟩) n cap,iI 0,iI n,iI k] [.pt g 3 (f8 l++r)]
  (Ps (.tuple #[]) [.pt g 3 (f8 (Q7 l)++r)]):=by
 refine FE [2,0,0,0] Tryz.func176 λX F hX=>?_;refine J.q λ_=>?_;refine J.l (α:=Nat) (λy=>True) (λy=>[⟨0, .slice (some ⟨g,0,none⟩) n cap,2, .tt⟩,si 1 0,si 2 n,si 3 k]) [1] (λy=>[.pt g 3 (f8 l++r)]) (λy=>0) (0) (trivial) λy hI=>?_;refine J.qd (λ_ h1=>?_) λ_ h1=>?_
 ·refine J.q λ_=>?_;rw[show(n:Int)-0=n from by omega]at*;refine J.qp (b4k g n cap l hl (by omega) r) [1] λ_=>?_;exact J.qx [1]
 ·simp only[decide_eq_false_iff_not]at h1;omega
theorem b1v (d:Value) (k:Nat):FP 176 [d,iI 0,iI 0,iI k] [] (Ps (.tuple #[]) []):=by
 have h0:FP 210 [d,iI 0,iI 0] [] (Ps (.tuple #[]) []):=by
  refine FE [0,0,0] Tryz.func210 λX F hX=>?_;refine J.q λ_=>?_;refine J.l (α:=Nat) (λy=>True) (λy=>[si 6 (0+1),sv 0 d,si 1 0,si 2 0]) [] (λy=>[]) (λy=>0) (0) (trivial) λy hI=>?_;refine J.qd (λ_ h1=>?_) λ_ h1=>?_
  ·simp at h1
  ·refine J.q λ_=>?_;refine J.f [] ?_;exact⟨rfl,rfl⟩
 refine FE [0,0,0,0] Tryz.func176 λX F hX=>?_;refine J.q λ_=>?_;refine J.l (α:=Nat) (λy=>True) (λy=>[sv 0 d,si 1 0,si 2 0,si 3 k]) [] (λy=>[]) (λy=>0) (0) (trivial) λy hI=>?_;refine J.qd (λ_ h1=>?_) λ_ h1=>?_
 ·refine J.qp (h0) [] λ_=>?_;exact J.qx []
 ·simp at h1
theorem a2w (a:Option Nat) (n cap:Nat) (l:List Int) (hl:l.length=n) (hn:n<=12):FP 117 [slv a n cap] [c9 3 1 a n cap (f8 l)]
  (Ps (.tuple #[]) [c9 3 1 a n cap (f8 (Q7 l))]):=by
 refine FE [0] Tryz.func117 λX F hX=>?_;refine J.qc (b4U n hn) [] λ_=>?_;rintro v As ⟨⟨k,hk,rfl⟩,rfl⟩;refine⟨_,rfl,trivial,?_⟩;refine J.q λ_=>?_;cases a with
 | none=>
  refine J.know (λh' s=>(s.get (i:=1) rfl).2.1) λhn0=>?_;subst hn0;have:l=[]:=List.eq_nil_of_length_eq_zero hl;subst this;refine J.qp (b1v (slv none 0 cap) k) [] λ_=>?_;refine J.q λ_=>?_;refine J.f [1] ?_;exact⟨rfl,rfl⟩
 | some g=>
  refine J.openOwn 1 rfl rfl (λ_=>rfl) λr q1 q2 q3 q4=>?_;refine J.qp (b3K g n cap l hl hn r k) [1] λ_=>?_;refine J.closeOwn (e:=3) (size:=1) (n:=n) (cap:=cap) (xs:=f8 (Q7 l)) 1 rfl rfl (by rw[o0,O3 l,hl,Nat.mul_one]) q2 q3 (by rw[List.length_append,o0,O3 l];rw[o0]at q4;exact q4) (by rw[List.take_left' (by rw[o0,O3 l,hl,Nat.mul_one])]) rfl ?_;refine J.q λ_=>?_;refine J.f [1] ?_;exact⟨rfl,rfl⟩
def r9 (p:Int):List Int->List Int
 | []=>[]
 | x::r=>if x=p then r9 x r else x::r9 x r
def n7:List Int->List Int
 | []=>[]
 | x::r=>x::r9 x r
def CpI (l m:List Int) (k j:Nat):Prop:=m.length=l.length/\1<=k/\k+1<=j/\j<=l.length/\m.drop (j-1)=l.drop (j-1)/\m.take k++r9 (l.getD (j-1) 0) (l.drop j)=n7 l
theorem b5N {l:List Int} {k:Nat} (hk:1<=k) (hl:k<l.length) (h:l.take k++r9 (l.getD (k-1) 0) (l.drop k)=n7 l) (hne:l.getD k 0≠l.getD (k-1) 0):l.take (k+1)++r9 (l.getD k 0) (l.drop (k+1))=n7 l:=by
 have hx:l.getD k 0=l[k]:=by rw[List.getD_eq_getElem?_getD,List.getElem?_eq_getElem hl,Option.getD_some]
 rw[List.drop_eq_getElem_cons hl,r9,if_neg (by rw[<- hx];exact hne)]at h;rw[<- h,hx,List.take_add_one,List.getElem?_eq_getElem hl];simp only[Option.toList_some,List.append_assoc,List.singleton_append]
theorem CpI.start {l:List Int} {k:Nat} (hk:1<=k) (hl:k<l.length) (h:l.take k++r9 (l.getD (k-1) 0) (l.drop k)=n7 l) (he:l.getD k 0=l.getD (k-1) 0):CpI l l k (k+1):=by
 have hx:l.getD k 0=l[k]:=by rw[List.getD_eq_getElem?_getD,List.getElem?_eq_getElem hl,Option.getD_some]
 refine⟨rfl,hk,by omega,by omega,rfl,?_⟩;rw[List.drop_eq_getElem_cons hl,r9,if_pos (by rw[<- hx];exact he)]at h;rw[Nat.add_sub_cancel,hx];exact h
theorem CpI.get {l m:List Int} {k j:Nat} (h:CpI l m k j) (i:Nat) (hi:j-1<=i):m.getD i 0=l.getD i 0:=by
 have h5:=h.2.2.2.2.1;have e:m[i]? =l[i]?:=by
  have:=congrArg (λz=>z[i-(j-1)]?) h5;simp only[List.getElem?_drop]at this
  rwa [show j-1+(i-(j-1))=i from by omega]at this
 rw[List.getD_eq_getElem?_getD,e,List.getD_eq_getElem?_getD]
theorem CpI.skip {l m:List Int} {k j:Nat} (h:CpI l m k j) (hj:j<l.length) (he:l.getD j 0=l.getD (j-1) 0):CpI l m k (j+1):=by
 obtain⟨h1,h2,h3,h4,h5,h6⟩:=h;have hx:l.getD j 0=l[j]:=by rw[List.getD_eq_getElem?_getD,List.getElem?_eq_getElem hj,Option.getD_some]
 refine⟨h1,h2,by omega,by omega,?_,?_⟩
 ·have:=congrArg (List.drop 1) h5;rw[List.drop_drop,List.drop_drop]at this
  rwa [show j-1+1=j+1-1 from by omega]at this
 ·rw[List.drop_eq_getElem_cons hj,r9,if_pos (by rw[<- hx];exact he)]at h6;rw[Nat.add_sub_cancel,hx];exact h6
theorem CpI.keep {l m:List Int} {k j:Nat} (h:CpI l m k j) (hj:j<l.length) (he:l.getD j 0≠l.getD (j-1) 0):CpI l (m.set k (l.getD j 0)) (k+1) (j+1):=by
 obtain⟨h1,h2,h3,h4,h5,h6⟩:=h;have hx:l.getD j 0=l[j]:=by rw[List.getD_eq_getElem?_getD,List.getElem?_eq_getElem hj,Option.getD_some]
 refine⟨by simp[h1],by omega,by omega,by omega,?_,?_⟩
 ·rw[List.drop_set_of_lt (by omega)];have:=congrArg (List.drop 1) h5;rw[List.drop_drop,List.drop_drop]at this
  rwa [show j-1+1=j+1-1 from by omega]at this
 ·rw[List.drop_eq_getElem_cons hj,r9,if_neg (by rw[<- hx];exact he)]at h6;rw[Nat.add_sub_cancel,hx,<- h6,List.take_set,List.take_add_one,List.getElem?_eq_getElem (by omega),List.set_append_right _ _ (by simp;omega)];simp[List.length_take,Nat.min_eq_left (show k<=m.length by omega)]
theorem a3r {l:List Int} (h:l.length<2):n7 l=l:=by
 match l,h with
 | [],_=>rfl
 | [x],_=>rfl
theorem a3W (a:Option Nat) (n cap:Nat) (l:List Int) (hl:l.length=n) (hn:n<=4611686018427387904):FP 118 [slv a n cap] [c9 3 1 a n cap (f8 l)]
  (λv As=>∃l',l'=n7 l/\v=slv a l'.length cap/\As=[c9 3 1 a l'.length cap (f8 l')]):=by
 refine FE [0] Tryz.func118 λX F hX=>?_;refine J.qd (λ_ h0=>?_) λ_ h0=>?_
 ·simp only[decide_eq_true_eq]at h0;refine J.qr [1] λ_=>?_;have hs:n7 l=l:=a3r (by omega);exact⟨l,hs.symm,by rw[hl],by rw[hl];rfl⟩
 simp only[decide_eq_false_iff_not]at h0;cases a with
 | none=>
  refine J.know (λh' s=>(s.get (i:=1) rfl).2.1) λhn0=>?_;omega
 | some g=>
  refine J.openOwn 1 rfl rfl (λ_=>rfl) λr q1 q2 q3 q4=>?_;refine J.q λ_=>?_;refine J.l (α:=Nat) (λk=>1<=k/\k<=n/\l.take k++r9 (l.getD (k-1) 0) (l.drop k)=n7 l) (λk=>[si 3 k,sv 0 (slv (some g) n cap)]) [] (λk=>[]) (λk=>n-k) (1) (⟨by omega,by omega,by cases l with | nil=>simp at hl;omega | cons x l=>rfl⟩) λk hI=>?_;have hget:∀e,e<n->(f8 l++r)[e]? =some (iI (l.getD e 0)):=λe he=>H6 l r e _ (by rw[List.getD_eq_getElem?_getD,List.getElem?_eq_getElem (by omega),Option.getD_some]);refine J.qd (λ_ h1=>?_) λ_ h1=>?_
  ·simp only[decide_eq_true_eq,Int.ofNat_lt]at h1;refine J.pq (.of [0,4,8,13,16,20,24,28,33,36]) [] [1] λ_ _=>?_;refine J.vT (iI (l.getD k 0)) rfl rfl (λhg a w he hC=>?_) ?_
   ·exact j3 tk rfl rfl he hg rfl rfl (hC rfl _ (i7 (i:=1) rfl)) (by rw[show 0+(k:Int).toNat*1=k from by omega];exact hget k h1)
   refine J.q λ_=>?_;refine J.vT (iI (l.getD (k-1) 0)) rfl rfl (λhg a w he hC=>?_) ?_
   ·exact j3 tk rfl rfl he hg rfl rfl (hC rfl _ (i7 (i:=1) rfl)) (by rw[show 0+((k:Int)-1).toNat*1=k-1 from by omega];exact hget (k-1) (by omega))
   refine J.qd (λ_ h2=>?_) λ_ h2=>?_
   ·simp only[beq_iff_eq]at h2;refine J.q λ_=>?_;rw[show(k:Int).toNat=k from Int.toNat_natCast k];refine J.q λ_=>?_;refine J.l (α:=(Nat×Nat×List Int)) (λz=>CpI l z.2.2 z.1 (k+z.2.1)/\1<=z.2.1) (λz=>[si 5 z.2.1,sv 4 (.slice (some ⟨g,0+k*1,none⟩) (n-k) (cap-k)),si 3 z.1,sv 0 (slv (some g) n cap)]) [1] (λz=>[.pt g 3 (f8 z.2.2++r)]) (λz=>n-z.2.1) ((k,1,l)) (⟨CpI.start hI.1 (by omega) hI.2.2 h2,Nat.le_refl _⟩) λz hI=>?_;obtain⟨kk,q,m⟩:=z;dsimp only at hI ⊢;obtain⟨hI,hq⟩:=hI;have hml:m.length=n:=hI.1.trans hl;have hc1:=hI.2.1;have hc2:=hI.2.2.1;have hc3:=hI.2.2.2.1;have hgm:∀e,e<n->(f8 m++r)[e]? =some (iI (m.getD e 0)):=λe he=>H6 m r e _ (by rw[List.getD_eq_getElem?_getD,List.getElem?_eq_getElem (by omega),Option.getD_some]);refine J.qd (λ_ h3=>?_) λ_ h3=>?_
    ·simp only[decide_eq_true_eq,Int.ofNat_lt]at h3;have hgj:=hI.get (k+q) (by omega);have hgj1:=hI.get (k+q-1) (by omega);have h3':k+q<n:=by omega
     refine J.pq (.of [0,4,8,13,16,20,24,28,33,36]) [] [1] λ_ _=>?_;refine J.vT (iI (m.getD (k+q) 0)) rfl rfl (λhg a w he hC=>?_) ?_
     ·exact j3 tk rfl rfl he hg rfl rfl (hC rfl _ (i7 (i:=1) rfl)) (by rw[show 0+k*1+(q:Int).toNat*1=k+q from by omega];exact hgm _ h3')
     refine J.q λ_=>?_;refine J.vT (iI (m.getD (k+q-1) 0)) rfl rfl (λhg a w he hC=>?_) ?_
     ·exact j3 tk rfl rfl he hg rfl rfl (hC rfl _ (i7 (i:=1) rfl)) (by rw[show 0+k*1+((q:Int)-1).toNat*1=k+q-1 from by omega];exact hgm _ (by omega))
     refine J.qd (λ_ h4=>?_) λ_ h4=>?_
     ·simp only[bne_iff_ne,ne_eq,hgj,hgj1]at h4;refine J.q λ_=>?_;refine J.v (iI (m.getD (k+q) 0)) rfl rfl (λhg a w he hw=>?_) ?_
      ·exact j3 tk rfl rfl he rfl rfl rfl (hw.get (i:=1) rfl) (by rw[show 0+k*1+(q:Int).toNat*1=k+q from by omega];exact hgm _ h3')
      refine J.q λ_=>?_;refine J.s1 1 (f8 (m.set kk (l.getD (k+q) 0))++r) ?_ ?_ ?_
      ·rw[List.length_append,o0];show 0+(kk:Int).toNat*1<_;omega
      ·rw[show 0+(kk:Int).toNat*1=kk from by omega,hgj];exact O8 m r kk _ (by omega)
      refine J.q λ_=>?_;refine J.n ((kk+1,q+1,m.set kk (l.getD (k+q) 0))) (⟨hI.keep (by omega) h4,by dsimp only;omega⟩) (by dsimp only;omega) [0,1]
     ·simp only[bne_eq_false_iff_eq,hgj,hgj1]at h4;refine J.q λ_=>?_;refine J.n ((kk,q+1,m)) (⟨hI.skip (by omega) h4,by dsimp only;omega⟩) (by dsimp only;omega) [0,1]
    ·simp only[decide_eq_false_iff_not,Int.ofNat_lt]at h3;have hj:k+q=n:=by omega
     have hfin:m.take kk=n7 l:=by
      have h6:=hI.2.2.2.2.2;rw[List.drop_of_length_le (by omega)]at h6;simpa[r9]using h6
     refine J.q λ_=>?_;refine J.clear hX tk 1 rfl rfl rfl rfl rfl rfl rfl rfl rfl rfl rfl ?_ (λ_=>rfl) (λ_=>rfl) λcs' z1 z2=>⟨trivial,?_⟩
     ·rw[List.length_append,o0];rw[o0]at q4;show 0+(kk:Int).toNat*1+(n-(kk:Int).toNat)*1<=_;omega
     have hklen:(n7 l).length=kk:=by rw[<- hfin,List.length_take];omega
     refine J.closeOwn (e:=3) (size:=1) (n:=kk) (cap:=cap) (xs:=f8 (n7 l)) 1 rfl rfl (by rw[o0,hklen,Nat.mul_one]) (by omega) q3 (by rw[z1,List.length_append,o0,hml];rw[o0,hl]at q4;exact q4) ?_ rfl ?_
     ·have z3:(0+(kk:Int).toNat*1)=kk:=by omega
      rw[z3]at z2;rw[Nat.mul_one,z2,List.take_append_of_le_length (by rw[o0];omega),<- hfin,f8,f8,List.map_take]
     refine J.qr [1] λ_=>?_;exact⟨_,rfl,by rw[hklen];rfl,by rw[hklen];rfl⟩
   ·simp only[beq_eq_false_iff_ne,ne_eq]at h2;refine J.q λ_=>?_;refine J.nx (k+1) (⟨by omega,by omega,by rw[Nat.add_sub_cancel];exact b5N hI.1 (by omega) hI.2.2 h2⟩) (by omega) (λ_ s=>s)
  ·simp only[decide_eq_false_iff_not,Int.ofNat_lt]at h1;obtain rfl:k=n:=by omega
   have hs:n7 l=l:=by
    have:=hI.2.2;rw[List.take_of_length_le (by omega),List.drop_of_length_le (by omega)]at this;simpa[r9]using this.symm
   refine J.closeOwn (e:=3) (size:=1) (n:=k) (cap:=cap) (xs:=f8 l) 1 rfl rfl q1 q2 q3 (by rw[List.length_append];exact q4) (by rw[List.take_left' q1]) rfl ?_;refine J.qr [1] λ_=>?_;exact⟨l,hs.symm,by rw[hl],by rw[hl];rfl⟩
def En.zero:En:=⟨0,0,0,zeros16⟩
def Sh.en (s:Sh):En:=⟨s.lpn,s.seq,s.role,s.data⟩
namespace W
def alien (p s:Sh):Bool:=s.kind !=1|| !S.may s||s.block !=p.block||s.row !=p.row||s.mask !=p.mask
def backS (p:Sh) (l:List Sh):En:=
 let x:=over (l++[p])
 ⟨(x.2.toNat/1099511627776 % 65536:Nat),(x.2.toNat % 1099511627776:Nat),(x.2.toNat/72057594037927936:Nat),x.1⟩
def backB (p:Sh) (l:List Sh):Bool:=p.kind==2&&S.may p&& !l.any (alien p)&&decide ((l.length:Int)=G.slots p.mask-1)&&ok p.block p.row p.mask (backS p l)
def back (p:Sh) (l:List Sh):En:=if backB p l then backS p l else En.zero
end W
structure Fd where
 slots:List Sh
 good:List Bool
 parity:Sh
 whole:Bool
structure Fnd where
 en:En
 block:Int
 row:Int
 slot:Int
 mask:Int
 whole:Bool
 mended:Bool
namespace M
def maskOf (x:Sh×Int):Option Int:=if x.2=1 then some x.1.mask else none
def masks (N:Nand) (b r:Int):List Int:=n7 (Q7 ((rowN N b r N.dies).filterMap maskOf))
end M
namespace R
def job (b r m:Int) (l:List En):List (Int×Sh):=(List.range l.length).map (λk=>(G.die m b r (k:Nat),W.sh b r m (l.getD k En.zero)))++[(G.parity m b r,W.parS b r m l)]
def go (b r:Int):List (Int×Sh)->Nand->Int->Nand×Int×Int
 | [],N,f=>(N,f,if f=0 then 0 else 7)
 | (d,s)::q,N,f=>
  if N.progE d b r=0 then go b r q (N.progN d b r (D2 s)) f
  else if N.progE d b r=9 then(N.progN d b r (D2 s),f,9)
  else go b r q (N.progN d b r (D2 s)) (L.with_ f d)
def write (N:Nand) (b r m:Int) (l:List En):Nand×Int×Int:=if W.parB b r m l then go b r (job b r m l) N 0 else(N,0,1)
def one (N:Nand) (b r m d:Int):Sh×Bool:=((M.look N d b r).1,(M.look N d b r).2==1&&(M.look N d b r).1.mask==m)
def ones (N:Nand) (b r m:Int) (k:Nat):List (Sh×Bool):=(List.range k).map λi:Nat=>one N b r m (G.die m b r i)
def look (N:Nand) (b r m:Int):Fd:=⟨(ones N b r m (G.slots m).toNat).map (·.1),(ones N b r m (G.slots m).toNat).map (·.2),(one N b r m (G.parity m b r)).1,(one N b r m (G.parity m b r)).2⟩
def rest (f:Fd) (k:Nat):Bool:=(List.range f.slots.length).all λi=>i==k||f.good.getD i false
def mendB (f:Fd) (k:Nat):Bool:=rest f k&&f.whole&&W.backB f.parity (f.slots.eraseIdx k)
def mend (f:Fd) (k:Nat):En:=if rest f k&&f.whole then W.back f.parity (f.slots.eraseIdx k)else En.zero
def read (N:Nand) (b r s m:Int):En×Int:=
 if G.die m b r s<0\/B1 N.dies N.blocks N.pages 0 b r=false then(En.zero,3)
 else if N.off then(En.zero,9)
 else if(look N b r m).good.getD s.toNat false then(((look N b r m).slots.getD s.toNat Sh.zero).en,0)
 else if mendB (look N b r m) s.toNat then(mend (look N b r m) s.toNat,0)else(En.zero,10)
def enAt (f:Fd) (k:Nat):En:=if f.good.getD k false then(f.slots.getD k Sh.zero).en else mend f k
def okAt (f:Fd) (k:Nat):Bool:=f.good.getD k false||mendB f k
def fnd (f:Fd) (b r m:Int) (k:Nat):Option Fnd:=if okAt f k&&(enAt f k).role !=3 then some ⟨enAt f k,b,r,k,m,f.whole,!(f.good.getD k false)⟩else none
def allM (N:Nand) (b r m:Int):List Fnd:=(List.range (look N b r m).slots.length).filterMap (fnd (look N b r m) b r m)
def all (N:Nand) (b r:Int):List Fnd:=(M.masks N b r).flatMap (allM N b r)
end R
theorem K0 (N:Nand) (b r m:Int):(R.look N b r m).slots.length=(G.slots m).toNat/\(R.look N b r m).good.length=(G.slots m).toNat:=by simp[R.look,R.ones]
theorem a4r {N:Nand} (hN:N.Ok) (x y z:Int):(M.look N x y z).1.data.length=16:=by
 have hz:Sh.zero.data.length=16:=rfl;unfold M.look;dsimp only;split
 ·split
  ·exact hz
  ·exact b2B _ (a4i hN x y z)
 ·split
  ·exact hz
  ·split<;>exact hz
def mk0 (N:Nand) (b r:Int) (k:Nat):List Int:=((M.rowN N b r N.dies).take k).filterMap M.maskOf
theorem a8l (N:Nand) (b r:Int) (n k:Nat) (h:k<n):(M.rowN N b r n)[k]? =some (M.look N (k:Nat) b r):=by simp[M.rowN,h]
theorem a6A (N:Nand) (b r:Int) (k:Nat) (h:k<N.dies):mk0 N b r (k+1)=mk0 N b r k++(M.maskOf (M.look N (k:Nat) b r)).toList:=by
 unfold mk0;rw[List.take_add_one,a8l N b r _ k h,List.filterMap_append];congr 1
theorem b3W (N:Nand) (b r:Int) (k:Nat):(mk0 N b r k).length<=k:=by
 refine Nat.le_trans (List.length_filterMap_le _ _) ?_;rw[List.length_take];omega
theorem a3t {l:List Int} {k:Nat} {x:Int} (h:l[k]? =some x):(f8 l)[k]? =some (iI x):=by simp[f8,h]
theorem U7 {l:List Sh} {k:Nat} {x:Sh} (h:l[k]? =some x):((m7 l).drop (k*23)).take 23=shL x:=by
 have:=Z4 l [] k x h;rwa [List.append_nil]at this
theorem a8A (p:Nat) (N:Nand) (hN:N.Ok) (hR:N.Room) (b r:Int):FP 167 [pp p,iI b,iI r] [i5 p N]
  (λv As=>∃a c,v=slv a (M.masks N b r).length c/\As=[i5 p N,c9 3 1 a (M.masks N b r).length c (f8 (M.masks N b r))]):=by
 have hbd:=hN.bd;refine FE [2,0,0] Tryz.func167 λX F hX=>?_;refine J.qc (b4R p N hN hR b r) [1] λ_=>?_;rintro v As ⟨a1,c1,a2,c2,rfl,rfl⟩;refine⟨_,rfl,trivial,?_⟩;refine J.turn1 [] rfl (As:=[c9 3 1 none 0 0 (f8 (mk0 N b r 0))]) (λh s=>Sep.one ⟨rfl,rfl,rfl⟩) rfl ?_;refine J.q λ_=>?_;refine J.l (α:=(Nat×Option Nat×Nat)) (λz=>z.1<=N.dies) (λz=>[si 21 z.1,si 20 N.dies,sv 19 (slv a1 N.dies c1),sv 9 (slv a2 N.dies c2),sv 7 (slv z.2.1 (mk0 N b r z.1).length z.2.2)]) [4] (λz=>[c9 3 1 z.2.1 (mk0 N b r z.1).length z.2.2 (f8 (mk0 N b r z.1))]) (λz=>N.dies-z.1) ((0,none,0)) (Nat.zero_le _) λz hI=>?_;obtain⟨k,a3,c3⟩:=z;dsimp only at hI ⊢;have hml:=b3W N b r k;refine J.qd (λ_ h1=>?_) λ_ h1=>?_
 ·simp only[decide_eq_true_eq,Int.ofNat_lt]at h1;refine J.know (λh' s=>i9 (c:=(a1,c1)) (by omega) (s.get (i:=2) rfl)) λhg=>?_;obtain⟨g1,rfl⟩:=hg;refine J.know (λh' s=>i9 (c:=(a2,c2)) (by omega) (s.get (i:=3) rfl)) λhg=>?_;obtain⟨g2,rfl⟩:=hg;have hat:=a8l N b r _ k h1;refine J.q λ_=>?_;refine J.v (shV (M.look N (k:Nat) b r).1) rfl rfl (λhg a w he hs=>?_) ?_
  ·exact n8 tk rfl rfl he rfl rfl rfl (hs.get (i:=2) rfl) (by rw[show 0+(k:Int).toNat*23=k*23 from by omega];exact U7 (by rw[List.getElem?_map,hat];rfl)) rfl
  refine J.q λ_=>?_;refine J.v (iI (M.look N (k:Nat) b r).2) rfl rfl (λhg a w he hs=>?_) ?_
  ·exact j9 tk rfl rfl he rfl rfl rfl (hs.get (i:=3) rfl) (by rw[show 0+(k:Int).toNat*1=k from by omega];exact a3t (by rw[List.getElem?_map,hat];rfl))
  refine J.qd (λ_ h2=>?_) λ_ h2=>?_
  ·simp only[beq_iff_eq]at h2;have hs:mk0 N b r (k+1)=mk0 N b r k++[(M.look N (k:Nat) b r).1.mask]:=by rw[a6A N b r k h1,M.maskOf,if_pos h2];rfl
   have hl:(mk0 N b r k).length+1=(mk0 N b r (k+1)).length:=by rw[hs];simp
   refine J.q λ_=>?_;refine J.ap 4 6 0 ((K5 _ _).symm.trans (congrArg f8 hs.symm)) λa4 c4=>?_;rw[hl];refine J.q λ_=>?_;refine J.n ((k+1,a4,c4)) (by dsimp only;omega) (by dsimp only;omega) [0,1,2,3,4]
  ·simp only[beq_eq_false_iff_ne,ne_eq]at h2;have hs:mk0 N b r k=mk0 N b r (k+1):=by rw[a6A N b r k h1,M.maskOf,if_neg h2];simp
   rw[hs];refine J.q λ_=>?_;refine J.n ((k+1,a3,c3)) (by dsimp only;omega) (by dsimp only;omega) [0,1,2,3,4]
 ·simp only[decide_eq_false_iff_not,Int.ofNat_lt]at h1;obtain rfl:k=N.dies:=by omega
  have hall:mk0 N b r N.dies=(M.rowN N b r N.dies).filterMap M.maskOf:=by
   unfold mk0;rw[List.take_of_length_le (by simp[M.rowN])]
  refine J.qp (a2w a3 (mk0 N b r N.dies).length c3 (mk0 N b r N.dies) rfl (by omega)) [4] λ_=>?_;refine J.q λ_=>?_;refine J.ca hX (by kernel_rfl) (a3W a3 (mk0 N b r N.dies).length c3 (Q7 (mk0 N b r N.dies)) (O3 _) (by omega)) [4] 0 rfl rfl rfl rfl rfl rfl (λ_=>rfl) ?_;rintro v As ⟨l',hl',rfl,rfl⟩;refine⟨_,rfl,trivial,?_⟩;have he:l'=M.masks N b r:=by rw[hl',hall];rfl
  subst he;refine J.qr [1,4] λ_=>?_;exact⟨a3,c3,rfl,rfl⟩
end Go.Proofs.YtpohajhbfllbbaaGreat
namespace Go.Proofs.YtpohajhbfllbbaaGreat
structure AtV where
 block:Int
 row:Int
 slot:Int
 mask:Int
 seq:Int
 role:Int
 deriving DecidableEq
def AtV.zero:AtV:=⟨0,0,0,0,0,0⟩
structure Tb where
 logical:Int
 at_:List (Int×AtV)
 cnt:List (Int×Int)
 next:Int
namespace Tb
def look {α:Type}:List (Int×α)->Int->Option α
 | [],_=>none
 | x::l,k=>if k=x.1 then some x.2 else look l k
def put1 {α:Type}:List (Int×α)->Int->α->List (Int×α)
 | [],k,v=>[(k,v)]
 | x::l,k,v=>if k=x.1 then(k,v)::l else x::put1 l k v
def new (n:Int):Tb:=⟨min (max n 0) 65536,[],[],1⟩
def count (t:Tb) (b:Int):Int:=(look t.cnt b).getD 0
def ok (t:Tb) (e:En):Bool:=!(decide (e.lpn<0)||decide (e.lpn>=t.logical)||(e.role !=1&&e.role !=2&&e.role !=4))
def elder (t:Tb) (e:En):Bool:=match look t.at_ e.lpn with
 | some a=>decide (e.seq<a.seq)
 | none=>false
def cnt1 (t:Tb) (e:En):List (Int×Int):=match look t.at_ e.lpn with
 | some a=>put1 t.cnt a.block (t.count a.block-1)
 | none=>t.cnt
def cnt2 (t:Tb) (e:En) (b:Int):List (Int×Int):=put1 (cnt1 t e) b ((look (cnt1 t e) b).getD 0+1)
def putB (t:Tb) (e:En):Bool:=ok t e&& !elder t e
def put (t:Tb) (e:En) (b r s m:Int):Tb:=if putB t e then⟨t.logical,put1 t.at_ e.lpn ⟨b,r,s,m,e.seq,e.role⟩,cnt2 t e b,if e.seq>=t.next then e.seq+1 else t.next⟩else t
def inB (t:Tb) (b:Int) (i:Int):Bool:=match look t.at_ i with
 | some a=>a.block==b
 | none=>false
def inK (t:Tb) (b:Int) (k:Nat):List Int:=((List.range k).filter λi:Nat=>inB t b i).map λi:Nat=>(i:Int)
theorem inK_succ (t:Tb) (b:Int) (k:Nat):inK t b (k+1)=if inB t b k then inK t b k++[(k:Int)]else inK t b k:=by
 unfold inK;rw[List.range_succ,List.filter_append,List.map_append];cases h:inB t b k<;>simp[h]
theorem inK_len (t:Tb) (b:Int) (k:Nat):(inK t b k).length<=k:=by
 unfold inK;rw[List.length_map];exact Nat.le_trans (List.length_filter_le _ _) (by rw[List.length_range];exact Nat.le_refl _)
def ins (t:Tb) (b:Int):List Int:=if t.count b=0 then[]else inK t b t.logical.toNat
theorem look_put1 {α:Type} (k:Int) (v:α) (j:Int):∀l:List (Int×α),look (put1 l k v) j=if j=k then some v else look l j
 | []=>by simp only[put1,look]
 | x::l=>by
  simp only[put1]
  by_cases h:k=x.1
  ·rw[if_pos h];simp only[look]
   by_cases h2:j=k
   ·rw[if_pos h2,if_pos h2]
   ·rw[if_neg h2,if_neg h2,if_neg (λe=>h2 (e.trans h.symm))]
  ·rw[if_neg h];simp only[look]
   by_cases h2:j=x.1
   ·rw[if_pos h2,if_pos h2,if_neg (λe=>h (e.symm.trans h2))]
   ·rw[if_neg h2,if_neg h2,look_put1 k v j l]
end Tb
namespace V
def behind (a b:Fnd):Bool:=if a.en.seq≠b.en.seq then decide (a.en.seq<b.en.seq)else b.whole&& !a.whole
def topsStep (out:List Fnd) (f:Fnd):List Fnd:=match out with
 | []=>[f]
 | h::t=>if behind h f then[f]else if behind f h then h::t else h::t++[f]
def tops (l:List Fnd):List Fnd:=l.foldl topsStep []
def all (N:Nand):List Fnd:=(List.range N.blocks).flatMap λb=>(List.range N.pages).flatMap λr=>R.all N (b:Nat) (r:Nat)
def of (l:List Fnd) (k:Int):List Fnd:=l.filter λf=>f.en.lpn==k
def holds (l:List Fnd):List Int:=(tops (l.filter λf=>f.whole)).map (·.block)
def blankRow (N:Nand) (b r:Int):Bool:=(M.rowN N b r N.dies).all λx=>x.2==2||x.2==4
def last (N:Nand) (f:Fnd):Bool:=((List.range N.pages).all λr:Nat=>decide ((r:Int)<=f.row)||blankRow N f.block r)&&(M.look N (G.parity f.mask f.block f.row) f.block f.row).2 !=4
end V
end Go.Proofs.YtpohajhbfllbbaaGreat
namespace Go.Proofs.YtpohajhbfllbbaaGreat
open Go Go.RowKit
def kI (k:Int):Value:=iI k
theorem a1U:KeyOk Tryz.prog 3 kI where
 now:=⟨_,Tryz.underlying3,λa b=> .inr rfl⟩
 eq:=λa b w=>by kernel_rfl
 check:=λe a w=>by kernel_rfl
 bits:=λa=>by simp[kI,Instr.sameBits]
theorem a0S:Tryz.prog.underlying 212=some (.map 3 141):=by kernel_rfl
theorem a2k:Tryz.prog.underlying 213=some (.map 3 3):=by kernel_rfl
def atL (a:AtV):List Value:=[iI a.block,iI a.row,iI a.slot,iI a.mask,iI a.seq,iI a.role]
def atV (a:AtV):Value:= .agg (atL a).toArray
def atM (l:List (Int×AtV)):List (Int×Value):=l.map λx=>(x.1,atV x.2)
def cnM (l:List (Int×Int)):List (Int×Value):=l.map λx=>(x.1,iI x.2)
def plL (b r s:Int):List Value:=[iI b,iI r,iI s]
def plV (b r s:Int):Value:= .agg (plL b r s).toArray
theorem a1n {α:Type} (f:α->Value) (k:Int):∀l:List (Int×α),x7 (l.map λx=>(x.1,f x.2)) k=(Tb.look l k).map f
 | []=>rfl
 | x::l=>by
  simp only[List.map_cons,x7,Tb.look];split
  ·rfl
  ·exact a1n f k l
theorem a3A {α:Type} (f:α->Value) (k:Int) (v:α):∀l:List (Int×α),L5 (l.map λx=>(x.1,f x.2)) k (f v)=(Tb.put1 l k v).map λx=>(x.1,f x.2)
 | []=>rfl
 | x::l=>by
  simp only[List.map_cons,L5,Tb.put1];split
  ·rfl
  ·rw[a3A f k v l];rfl
theorem a3D (l:List (Int×AtV)) (k:Int):x7 (atM l) k=(Tb.look l k).map atV:=a1n atV k l
theorem a0Q (l:List (Int×Int)) (k:Int):x7 (cnM l) k=(Tb.look l k).map (Value.int .i64):=a1n (Value.int .i64) k l
theorem a8R (l:List (Int×AtV)) (k:Int) (v:AtV):L5 (atM l) k (atV v)=atM (Tb.put1 l k v):=a3A atV k v l
theorem a5R (l:List (Int×Int)) (k v:Int):L5 (cnM l) k (Value.int .i64 v)=cnM (Tb.put1 l k v):=a3A (Value.int .i64) k v l
theorem a1d (o:Option AtV):(o.map atV).getD (atV AtV.zero)=atV (o.getD AtV.zero):=by cases o<;>rfl
theorem T9 (o:Option Int):(o.map (Value.int .i64)).getD (Value.int .i64 0)=Value.int .i64 (o.getD 0):=by cases o<;>rfl
theorem a2N {α β:Type} (o:Option α) (f:α->β):(o.map f).isSome=o.isSome:=by cases o<;>rfl
def TbP (q:Nat) (t:Tb) (x:Nat×Nat):List Atom:=[.pt q 215 [iI t.logical, .map (some x.1), .map (some x.2),iI t.next],A8 x.1 kI (atM t.at_),A8 x.2 kI (cnM t.cnt)]
def TbA (q:Nat) (t:Tb):Atom:=exA λx:Nat×Nat=>TbP q t x
theorem b0R (n:Int):(if(65536:Int)<if(0:Int)>n then 0 else n then 65536 else if(0:Int)>n then 0 else n)=min (max n 0) 65536:=by
 by_cases h:(0:Int)>n
 ·simp only[if_pos h];rw[if_neg (by omega)];omega
 ·simp only[if_neg h];split<;>omega
theorem a7n (n:Int):FP 111 [iI n] [] (λv As=>∃q,v=pp q/\As=[TbA q (Tb.new n)]):=by
 refine FE [0] Tryz.func111 λX F hX=>?_;refine J.q λbs=>?_;rw[b0R];refine J.turn1 [1] rfl (As:=[A8 (bs 0) kI (atM [])]) (λh s=>?_) rfl ?_
 ·refine⟨λ_=>0,λi A hA=>?_⟩;cases i with
  | zero=>simp at hA;subst hA;exact⟨#[],0,res_some.2 ⟨rfl,s.get (i:=0) rfl⟩,rfl,by simp,by simp⟩
  | succ k=>simp at hA
 refine J.turn1 [2] rfl (As:=[A8 (bs (0+1)) kI (cnM [])]) (λh s=>?_) rfl ?_
 ·refine⟨λ_=>0,λi A hA=>?_⟩;cases i with
  | zero=>simp at hA;subst hA;exact⟨#[],0,res_some.2 ⟨rfl,s.get (i:=0) rfl⟩,rfl,by simp,by simp⟩
  | succ k=>simp at hA
 refine J.close (f:=λx:Nat×Nat=>TbP (bs (0+1+1)) (Tb.new n) x) (bs 0,bs (0+1)) [3,1,2] rfl rfl rfl ?_;refine J.qr [3] λ_=>?_;exact⟨bs (0+1+1),rfl,rfl⟩
theorem a0V (q:Nat) (t:Tb) (k:Int):FP 86 [pp q,iI k] [TbA q t]
  (Ps (.tuple #[atV ((Tb.look t.at_ k).getD AtV.zero), .bool (Tb.look t.at_ k).isSome]) [TbA q t]):=by
 refine FE [2,0] Tryz.func86 λX F hX=>?_;refine J.o (α:=(Nat×Nat)) 1 λx=>?_;refine J.qF λ_=>?_;refine J.q λ_=>?_;refine J.v (.tuple #[atV ((Tb.look t.at_ k).getD AtV.zero), .bool (Tb.look t.at_ k).isSome]) rfl rfl (λhg a w he hs=>?_) ?_
 ·refine(l8 (key:=k) a1U a0S (z:=atV AtV.zero) (λw=>by kernel_rfl) rfl rfl rfl rfl he rfl rfl (hs.get (i:=2) rfl)).trans ?_;simp only[a3D,a1d,a2N]
 refine J.cl (λx:Nat×Nat=>TbP q t x) x [1,2,3] ?_;exact J.qx [1]
theorem b0S (q:Nat) (t:Tb):FP 237 [pp q] [TbA q t]
  (Ps (iI t.at_.length) [TbA q t]):=by
 refine FE [2] Tryz.func237 λX F hX=>?_;refine J.o (α:=(Nat×Nat)) 1 λx=>?_;refine J.qF λ_=>?_;refine J.q λ_=>?_;refine J.v (iI t.at_.length) rfl rfl (λhg a w he hs=>?_) ?_
 ·refine(a1y a0S rfl rfl he rfl (hs.get (i:=2) rfl)).trans ?_;rw[atM,List.length_map]
 refine J.cl (λx:Nat×Nat=>TbP q t x) x [1,2,3] ?_;exact J.qx [1]
theorem b3u (q:Nat) (t:Tb):FP 272 [pp q] [TbA q t]
  (Ps (iI t.next) [TbA q t]):=by
 refine FE [2] Tryz.func272 λX F hX=>?_;refine J.o (α:=(Nat×Nat)) 1 λx=>?_;refine J.qF λ_=>?_;refine J.q λ_=>?_;refine J.cl (λx:Nat×Nat=>TbP q t x) x [1,2,3] ?_;exact J.qx [1]
theorem E5 (q:Nat) (t:Tb) (k:Int):FP 104 [pp q,iI k] [TbA q t]
  (Ps (iI (t.count k)) [TbA q t]):=by
 refine FE [2,0] Tryz.func104 λX F hX=>?_;refine J.o (α:=(Nat×Nat)) 1 λx=>?_;refine J.qF λ_=>?_;refine J.q λ_=>?_;refine J.v (iI (t.count k)) rfl rfl (λhg a w he hs=>?_) ?_
 ·refine(l8 (key:=k) a1U a2k (z:=iI 0) (λw=>by kernel_rfl) rfl rfl rfl rfl he rfl rfl (hs.get (i:=3) rfl)).trans ?_;simp only[a0Q,T9];rfl
 refine J.cl (λx:Nat×Nat=>TbP q t x) x [1,2,3] ?_;exact J.qx [1]
theorem a2p (q:Nat) (t:Tb) (e:En) (b r s m:Int) (hs: -9223372036854775808<=e.seq/\e.seq<9223372036854775807) (hc:∀k,0<=Tb.count t k/\Tb.count t k<=1000000):FP 114 [pp q,enV e,plV b r s,iI m] [TbA q t]
  (Ps (.bool (Tb.putB t e)) [TbA q (Tb.put t e b r s m)]):=by
 refine FE [2,0,0,0] Tryz.func114 λX F hX=>?_;refine J.o (α:=(Nat×Nat)) 1 λx=>?_;refine J.pn 1 (.of [0,4,8,12,17,20,24,28,32,37,40,44,48,53,56,60,64,68,73,76,80,84,89,92,96,100,104,109,112,116,120]) [] [1,2,3,4,5] λ_ _=>?_;refine J.run hX tk 400 (λb16=>rfl) (λb16=>?_) (λb16=>?_)
 ·(repeat' (first | exact Conj.nil | refine Conj.cons ?_ ?_ | exact rfl | exact hq | (rw[hq];rfl) | (rw[(Bool.not_eq_true' _).mp hq]) | intro hq | omega | (simp;done) | (simp_all;done)))
 refine J.qd (λ_ h1=>?_) λ_ h1=>?_
 ·refine J.cl (λx:Nat×Nat=>TbP q t x) x [1,2,3] ?_;refine J.qr [1] λ_=>?_;have ho:Tb.ok t e=false:=by unfold Tb.ok;rw[Bool.not_eq_false'];exact h1
  have hp:Tb.putB t e=false:=by unfold Tb.putB;rw[ho];rfl
  exact⟨by rw[hp],by rw[Tb.put,if_neg (by rw[hp];simp)];rfl⟩
 have ho:Tb.ok t e=true:=by unfold Tb.ok;rw[Bool.not_eq_true'];exact h1
 refine J.pq (.of [0,4,8,13,16,21,25,28,32,36,42,46,48]) [12] [1,2,3,4,5] λ_ _=>?_;refine J.vT (.tuple #[atV ((Tb.look t.at_ e.lpn).getD AtV.zero), .bool (Tb.look t.at_ e.lpn).isSome]) rfl rfl (λ_ a w he hC=>?_) ?_
 ·refine(l8 (key:=e.lpn) a1U a0S (z:=atV AtV.zero) (λw=>by kernel_rfl) rfl rfl rfl rfl he rfl rfl (hC rfl _ (i7 (i:=2) rfl))).trans ?_;simp only[a3D,a1d,a2N]
 rcases hlk:Tb.look t.at_ e.lpn with _ | a
 ·have hel:Tb.elder t e=false:=by simp[Tb.elder,hlk]
  have hp:Tb.putB t e=true:=by rw[Tb.putB,ho,hel];rfl
  have hc1:Tb.cnt1 t e=t.cnt:=by simp[Tb.cnt1,hlk]
  refine J.q λbw=>?_;refine J.cF ?_;refine J.qF λ_=>?_;refine J.pq (.of [0,4,8,13,16,21,25,28,35]) [8] [1,2,3,4,5,6] λ_ _=>?_;refine J.vT (iI ((Tb.look (t.cnt) b).getD 0)) rfl rfl (λ_ a w he hC=>?_) ?_
  ·refine(l8 (key:=b) a1U a2k (z:=iI 0) (λw=>by kernel_rfl) rfl rfl rfl rfl he rfl rfl (hC rfl _ (i7 (i:=3) rfl))).trans ?_;simp only[a0Q,T9]
  have hb2: -1<=(Tb.look (t.cnt) b).getD 0/\(Tb.look (t.cnt) b).getD 0<=1000000:=⟨by have:=hc b;unfold Tb.count at this;omega,(hc b).2⟩;refine J.q λ_=>?_;refine J.mapUpdate hX a1U a2k b 3 rfl rfl rfl rfl rfl rfl rfl rfl rfl rfl rfl rfl (λ_=>rfl) (by rw[a5R];rfl) ⟨trivial,?_⟩;refine J.pq (.of [0,4,8,13,16,21,25,28,32,37,40,45,48,55]) [13] [1,2,3,4,5,6] λ_ _=>?_;refine J.mapUpdate hX a1U a0S e.lpn 2 rfl rfl rfl rfl rfl rfl rfl rfl rfl rfl rfl rfl (λ_=>rfl) (show _=some (_::_::A8 _ _ (L5 _ _ (atV ⟨b,r,s,m,e.seq,e.role⟩))::_)from rfl) ⟨trivial,?_⟩;rw[a8R];refine J.pq (.of [0,5,8,12,16,21,24]) [] [1,2,3,4,5,6] λ_ _=>?_;have hput:Tb.put t e b r s m=⟨t.logical,Tb.put1 t.at_ e.lpn ⟨b,r,s,m,e.seq,e.role⟩,Tb.put1 (t.cnt) b ((Tb.look (t.cnt) b).getD 0+1),if e.seq>=t.next then e.seq+1 else t.next⟩:=by
   rw[Tb.put,if_pos hp,Tb.cnt2,hc1]
  refine J.qd (λ_ h5=>?_) λ_ h5=>?_
  ·refine J.q λ_=>?_;refine J.cl (λx:Nat×Nat=>TbP q ⟨t.logical,Tb.put1 t.at_ e.lpn ⟨b,r,s,m,e.seq,e.role⟩,Tb.put1 (t.cnt) b ((Tb.look (t.cnt) b).getD 0+1),e.seq+1⟩ x) x [1,2,3] ?_;refine J.qr [1] λ_=>?_;exact⟨by rw[hp],by rw[hput,if_pos (by simpa only[decide_eq_true_eq,decide_eq_false_iff_not]using h5)];rfl⟩
  ·refine J.cl (λx:Nat×Nat=>TbP q ⟨t.logical,Tb.put1 t.at_ e.lpn ⟨b,r,s,m,e.seq,e.role⟩,Tb.put1 (t.cnt) b ((Tb.look (t.cnt) b).getD 0+1),t.next⟩ x) x [1,2,3] ?_;refine J.qr [1] λ_=>?_;exact⟨by rw[hp],by rw[hput,if_neg (by simpa only[decide_eq_true_eq,decide_eq_false_iff_not]using h5)];rfl⟩
 ·refine J.q λbw=>?_;refine J.cond rfl (λh2=>?_) (λh2=>?_)
  ·refine J.cl (λx:Nat×Nat=>TbP q t x) x [1,2,3] ?_;refine J.qr [1] λ_=>?_;have hel:Tb.elder t e=true:=by rw[Tb.elder,hlk];exact h2
   have hp:Tb.putB t e=false:=by rw[Tb.putB,ho,hel];rfl
   exact⟨by rw[hp],by rw[Tb.put,if_neg (by rw[hp];simp)];rfl⟩
  have hel:Tb.elder t e=false:=by rw[Tb.elder,hlk];exact h2
  have hp:Tb.putB t e=true:=by rw[Tb.putB,ho,hel];rfl
  have hc1:Tb.cnt1 t e=Tb.put1 t.cnt a.block (t.count a.block-1):=by simp[Tb.cnt1,hlk]
  have hb1:=hc a.block;refine J.qT λ_=>?_;refine J.pq (.of [0,4,8,13,16,20,25,29,32,39]) [9] [1,2,3,4,5,6] λ_ _=>?_;refine J.vT (iI (t.count a.block)) rfl rfl (λ_ a' w he hC=>?_) ?_
  ·refine(l8 (key:=a.block) a1U a2k (z:=iI 0) (λw=>by kernel_rfl) rfl rfl rfl rfl he rfl rfl (hC rfl _ (i7 (i:=3) rfl))).trans ?_;simp only[a0Q,T9];rfl
  refine J.q λ_=>?_;refine J.mapUpdate hX a1U a2k a.block 3 rfl rfl rfl rfl rfl rfl rfl rfl rfl rfl rfl rfl (λ_=>rfl) (by rw[a5R];rfl) ⟨trivial,?_⟩;refine J.pq (.of [0,4,8,13,16,21,25,28,35]) [8] [1,2,3,4,5,6] λ_ _=>?_;refine J.vT (iI ((Tb.look (Tb.put1 t.cnt a.block (t.count a.block-1)) b).getD 0)) rfl rfl (λ_ a w he hC=>?_) ?_
  ·refine(l8 (key:=b) a1U a2k (z:=iI 0) (λw=>by kernel_rfl) rfl rfl rfl rfl he rfl rfl (hC rfl _ (i7 (i:=3) rfl))).trans ?_;simp only[a0Q,T9]
  have hb2 : -1 ≤ (Tb.look (Tb.put1 t.cnt a.block (t.count a.block - 1)) b).getD 0 ∧ (Tb.look (Tb.put1 t.cnt a.block (t.count a.block - 1)) b).getD 0 ≤ 1000000 := by
     rw[Tb.look_put1];split
     ·show-1<=t.count a.block-1/\t.count a.block-1<=1000000;omega
     ·have:=hc b;unfold Tb.count at this;omega
  refine J.q λ_=>?_;refine J.mapUpdate hX a1U a2k b 3 rfl rfl rfl rfl rfl rfl rfl rfl rfl rfl rfl rfl (λ_=>rfl) (by rw[a5R];rfl) ⟨trivial,?_⟩;refine J.pq (.of [0,4,8,13,16,21,25,28,32,37,40,45,48,55]) [13] [1,2,3,4,5,6] λ_ _=>?_;refine J.mapUpdate hX a1U a0S e.lpn 2 rfl rfl rfl rfl rfl rfl rfl rfl rfl rfl rfl rfl (λ_=>rfl) (show _=some (_::_::A8 _ _ (L5 _ _ (atV ⟨b,r,s,m,e.seq,e.role⟩))::_)from rfl) ⟨trivial,?_⟩;rw[a8R];refine J.pq (.of [0,5,8,12,16,21,24]) [] [1,2,3,4,5,6] λ_ _=>?_;have hput:Tb.put t e b r s m=⟨t.logical,Tb.put1 t.at_ e.lpn ⟨b,r,s,m,e.seq,e.role⟩,Tb.put1 (Tb.put1 t.cnt a.block (t.count a.block-1)) b ((Tb.look (Tb.put1 t.cnt a.block (t.count a.block-1)) b).getD 0+1),if e.seq>=t.next then e.seq+1 else t.next⟩:=by
   rw[Tb.put,if_pos hp,Tb.cnt2,hc1]
  refine J.qd (λ_ h5=>?_) λ_ h5=>?_
  ·refine J.q λ_=>?_;refine J.cl (λx:Nat×Nat=>TbP q ⟨t.logical,Tb.put1 t.at_ e.lpn ⟨b,r,s,m,e.seq,e.role⟩,Tb.put1 (Tb.put1 t.cnt a.block (t.count a.block-1)) b ((Tb.look (Tb.put1 t.cnt a.block (t.count a.block-1)) b).getD 0+1),e.seq+1⟩ x) x [1,2,3] ?_;refine J.qr [1] λ_=>?_;exact⟨by rw[hp],by rw[hput,if_pos (by simpa only[decide_eq_true_eq,decide_eq_false_iff_not]using h5)];rfl⟩
  ·refine J.cl (λx:Nat×Nat=>TbP q ⟨t.logical,Tb.put1 t.at_ e.lpn ⟨b,r,s,m,e.seq,e.role⟩,Tb.put1 (Tb.put1 t.cnt a.block (t.count a.block-1)) b ((Tb.look (Tb.put1 t.cnt a.block (t.count a.block-1)) b).getD 0+1),t.next⟩ x) x [1,2,3] ?_;refine J.qr [1] λ_=>?_;exact⟨by rw[hp],by rw[hput,if_neg (by simpa only[decide_eq_true_eq,decide_eq_false_iff_not]using h5)];rfl⟩
end Go.Proofs.YtpohajhbfllbbaaGreat
