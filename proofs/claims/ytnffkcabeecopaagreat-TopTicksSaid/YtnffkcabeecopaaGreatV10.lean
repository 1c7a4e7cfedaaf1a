/- Helpers. No condition. -/
import Derived.Test.YtnffkcabeecopaaGreatV03
import Derived.Test.YtnffkcabeecopaaGreatV04
import Derived.Test.YtnffkcabeecopaaGreatV07
import Derived.Test.YtnffkcabeecopaaGreatV08
import Derived.Test.YtnffkcabeecopaaGreatV09
import Derived.Shelf.Sort.Plain
set_option maxRecDepth 20000
set_option linter.all false
namespace Go.Proofs.YtnffkcabeecopaaGreat
open Go Go.RowKit
def a1I (e:En):Prop:=(0<=e.lpn/\e.lpn<=65535)/\(0<=e.seq/\e.seq<=1099511627775)
theorem b2G {s:Sh} (h:S.may s=true):a1I s.en:=by
 simp only[S.may,S.numbers,S.inB,Bool.and_eq_true,decide_eq_true_eq]at h;exact⟨h.1.2.1.2,h.1.2.1.1⟩
theorem b5h {p:List UInt8} {s:Sh} (h:S.get p=some s):S.may s=true:=by
 unfold S.get at h;split at h
 ·rename_i hh;injection h with h;subst h;exact hh.1
 ·cases h
theorem b2I {N:Nand} {x y z:Int} (h:(M.look N x y z).2=1):S.may (M.look N x y z).1=true:=by
 unfold M.look at h ⊢;dsimp only at h ⊢;split
 ·rename_i h0;rw[if_pos h0]at h;split
  ·rename_i h1;rw[if_pos h1]at h;simp at h
  ·rename_i h1;simp only[not_or]at h1;have hg:S.getE (N.readV x y z)=0:=by simpa using h1.1
   unfold S.getE at hg;cases hs:S.get (N.readV x y z)with
   | none=>rw[hs]at hg;simp at hg
   | some s=>simp only[S.getV,hs,Option.getD_some];exact b5h hs
 ·rename_i h0;rw[if_neg h0]at h;split at h
  ·simp at h
  ·split at h<;>simp at h
theorem b7o {b r m:Int} {e:En} (h:W.ok b r m e=true):a1I e:=b2G (s:=W.sh b r m e) h
theorem a3H {N:Nand} {b r:Int} {f:Fnd} (h:f∈R.all N b r):f.block=b/\f.row=r/\a1I f.en:=by
 unfold R.all at h;rw[List.mem_flatMap]at h;obtain⟨m,_,h⟩:=h;unfold R.allM at h;rw[List.mem_filterMap]at h;obtain⟨k,hk,h⟩:=h;rw[List.mem_range]at hk;unfold R.fnd at h;split at h
 ·rename_i hc;injection h with h;subst h;refine⟨rfl,rfl,?_⟩;simp only[Bool.and_eq_true]at hc;obtain⟨h1,_⟩:=hc;dsimp only;unfold R.enAt;unfold R.okAt at h1;split
  ·rename_i hg;have hlen:k<(R.ones N b r m (G.slots m).toNat).length:=by simpa[R.look]using hk
   have e1:(R.look N b r m).good.getD k false=((R.ones N b r m (G.slots m).toNat)[k]).2:=by simp[R.look,hlen]
   have e2:(R.look N b r m).slots.getD k Sh.zero=((R.ones N b r m (G.slots m).toNat)[k]).1:=by simp[R.look,hlen]
   rw[e1]at hg;rw[e2];simp only[R.ones,List.getElem_map,R.one,Bool.and_eq_true,beq_iff_eq]at hg ⊢;exact b2G (b2I hg.1)
  ·rename_i hg;rw[Bool.not_eq_true]at hg;rw[hg,Bool.false_or]at h1;unfold R.mendB at h1;simp only[Bool.and_eq_true]at h1;have hb:=h1.2;unfold R.mend;rw[if_pos (by rw[Bool.and_eq_true];exact h1.1),W.back,if_pos hb];unfold W.backB at hb;simp only[Bool.and_eq_true]at hb;exact b7o hb.2
 ·cases h
theorem a9R (N:Nand) (hN:N.Ok):(V.all N).length<=6000:=by
 have hbd:=hN.bd;have h0:∀b r,(R.all N b r).length<=42:=λb r=>by
  have:=a3i N b r (M.masks N b r).length (by omega);unfold a0M at this
  rwa [List.take_length]at this
 have h1:∀(l:List Nat) (b:Int),(l.flatMap λr=>R.all N b (r:Nat)).length<=42*l.length:=by
  intro l b
  induction l with
  | nil=>simp
  | cons x l ih=>rw[List.flatMap_cons,List.length_append,List.length_cons];have:=h0 b x;omega
 have h2:∀l:List Nat,(l.flatMap λb=>(List.range N.pages).flatMap λr=>R.all N (b:Nat) (r:Nat)).length<=336*l.length:=by
  intro l
  induction l with
  | nil=>simp
  | cons x l ih=>
   rw[List.flatMap_cons,List.length_append,List.length_cons];have:=h1 (List.range N.pages) x;rw[List.length_range]at this;omega
 have:=h2 (List.range N.blocks);rw[List.length_range]at this;unfold V.all;omega
theorem a8V {N:Nand} {f:Fnd} (h:f∈V.all N):(∃r:Nat,f.row=(r:Int)/\r<N.pages)/\a1I f.en:=by
 unfold V.all at h;rw[List.mem_flatMap]at h;obtain⟨b,_,h⟩:=h;rw[List.mem_flatMap]at h;obtain⟨r,hr,h⟩:=h;have:=a3H h;exact⟨⟨r,this.2.1,List.mem_range.1 hr⟩,this.2.2⟩
abbrev fdV (x:Fnd):Value:= .agg (fnL x).toArray
def Fnd.zero:Fnd:=⟨En.zero,0,0,0,0,false,false⟩
theorem a6N (a b:Fnd):FP 213 [fdV a,fdV b] [] (Ps (.bool (V.behind a b)) []):=by
 refine FE [0,0] Tryz.func213 λX F hX=>?_;refine J.qd (λ_ h1=>?_) λ_ h1=>?_
 ·refine J.qr [] λ_=>?_;simp only[bne_iff_ne,ne_eq]at h1;exact⟨by rw[V.behind,if_pos h1],rfl⟩
 ·simp only[bne_eq_false_iff_eq]at h1;refine J.run hX tk 400 (λb3=>rfl) (λb3=>?_) (λb3=>?_)
  ·(repeat' (first | exact Conj.nil | refine Conj.cons ?_ ?_ | exact rfl | exact hq | (rw[hq];rfl) | (rw[(Bool.not_eq_true' _).mp hq]) | intro hq | omega | (simp;done) | (simp_all;done)))
  refine J.qr [] λ_=>?_;exact⟨by rw[V.behind,if_neg (by simp[h1])],rfl⟩
theorem a1n {l:List Fnd} {k:Nat} {x:Fnd} (h:l[k]? =some x):V.tops (l.take (k+1))=V.topsStep (V.tops (l.take k)) x:=by
 unfold V.tops;rw[List.take_add_one,h,Option.toList_some,List.foldl_append];rfl
theorem a5I (o:List Fnd) (x:Fnd):(V.topsStep o x).length<=o.length+1:=by
 cases o with
 | nil=>simp[V.topsStep]
 | cons h t=>
  simp only[V.topsStep];split
  ·simp
  ·split<;>simp
theorem a2H (l:List Fnd):(V.tops l).length<=l.length:=by
 have:∀k,k<=l.length->(V.tops (l.take k)).length<=k:=by
  intro k
  induction k with
  | zero=>intro _;simp[V.tops]
  | succ k ih=>
   intro hk;rw[a1n (List.getElem?_eq_getElem (by omega))];have:=a5I (V.tops (l.take k)) l[k];have:=ih (by omega);omega
 have:=this l.length (Nat.le_refl _)
 rwa [List.take_length]at this
theorem b1B (a:Option Nat) (n cap:Nat) (l:List Fnd) (hl:l.length=n) (hn:n<=100000):FP 175 [slv a n cap] [c9 202 25 a n cap (j7 l)]
  (λv As=>∃a' c',v=slv a' (V.tops l).length c'/\As=[c9 202 25 a n cap (j7 l),c9 202 25 a' (V.tops l).length c' (j7 (V.tops l))]):=by
 refine FE [0] Tryz.func175 λX F hX=>?_;refine J.turn1 [] rfl (As:=[c9 202 25 none 0 0 (j7 [])]) (λh s=>Sep.one ⟨rfl,rfl,rfl⟩) rfl ?_;refine J.q λ_=>?_;refine J.l (α:=(Nat×Option Nat×Nat×List Fnd)) (λz=>z.1<=n/\V.tops (l.take z.1)=z.2.2.2) (λz=>[si 8 z.1,si 7 n,sv 6 (slv a n cap),sv 3 (slv z.2.1 z.2.2.2.length z.2.2.1)]) [2] (λz=>[c9 202 25 z.2.1 z.2.2.2.length z.2.2.1 (j7 z.2.2.2)]) (λz=>n-z.1) ((0,none,0,[])) (⟨Nat.zero_le _,rfl⟩) λz hI=>?_;obtain⟨k,a1,c1,out⟩:=z;dsimp only at hI ⊢;obtain⟨hI,hto⟩:=hI;refine J.qd (λ_ h1=>?_) λ_ h1=>?_
 ·simp only[decide_eq_true_eq,Int.ofNat_lt]at h1;cases a with
  | none=>
   refine J.know (λh' s=>(s.get (i:=1) rfl).2.1) λhn0=>?_;omega
  | some g=>
  obtain⟨x,hx⟩:∃x,l[k]? =some x:=⟨_,List.getElem?_eq_getElem (by omega)⟩;have hts:=a1n hx;have hlen:=a2H (l.take k);rw[List.length_take,hto]at hlen;rw[hto]at hts;refine J.q λ_=>?_;refine J.v (fdV x) rfl rfl (λhg a w he hs=>?_) ?_
  ·exact p6 tk rfl rfl he rfl rfl rfl (hs.get (i:=1) rfl) (by rw[show 0+(k:Int).toNat*25=k*25 from by omega];exact P8 hx) rfl
  rcases out with _ | ⟨y,o⟩
  ·skip
   refine J.pn 5 (.of [0,4,8,12,16,20,25,29,34,36,40]) [] [1,2,3] λ_ _=>?_;refine J.vT (pp g) rfl rfl (λhg a w he hC=>absurd hg (by simp[G.on])) ?_;refine J.q λ_=>?_;refine J.vT (fdV x) rfl rfl (λhg a w he hC=>absurd hg (by simp[G.on])) ?_;refine J.q λ_=>?_;refine J.val hX (.bool true) 0 rfl rfl (λhg a w he hC=>absurd hg (by simp[G.on])) rfl stq ?_;refine J.qT λ_=>?_;refine J.q λbs=>?_;refine J.cO 202 25 1 1 (j7 [x]) 4 ?_;have hs:V.tops (l.take (k+1))=[x]:=by rw[hts];rfl
   refine J.slot (k:=3) (s':=⟨3,slv (some (bs 0)) [x].length 1,0, .tt⟩) rfl rfl rfl ?_;refine J.q λ_=>?_;refine J.n ((k+1,some (bs 0),1,[x])) (⟨by dsimp only;omega,hs⟩) (by dsimp only;omega) [0,1,4]
  ·refine J.know (λh' s=>j4 (c:=(a1,c1)) (by simp) (s.get (i:=2) rfl)) λhg=>?_;obtain⟨ga,rfl⟩:=hg;refine J.pq (.of [0,4,8,12,16,20,25,29,34,36,40]) [] [1,2,3] λ_ _=>?_;refine J.vT (fdV y) rfl rfl (λhg a w he hC=>?_) ?_
   ·exact p6 tk rfl rfl he hg rfl rfl (hC rfl _ (i7 (i:=2) rfl)) rfl rfl
   have hnz:(((y::o).length:Int)==0)=false:=by rw[beq_eq_false_iff_ne,List.length_cons];omega
   rw[hnz];refine J.qp (a6N y x) [] λ_=>?_;refine J.qd (λ_ h2=>?_) λ_ h2=>?_
   ·refine J.q λbs=>?_;refine J.cO 202 25 1 1 (j7 [x]) 4 ?_;have hs:V.tops (l.take (k+1))=[x]:=by rw[hts];rw[V.topsStep,if_pos (by simpa using h2)]
    refine J.slot (k:=3) (s':=⟨3,slv (some (bs 0)) [x].length 1,0, .tt⟩) rfl rfl rfl ?_;refine J.q λ_=>?_;refine J.n ((k+1,some (bs 0),1,[x])) (⟨by dsimp only;omega,hs⟩) (by dsimp only;omega) [0,1,4]
   ·refine J.pq (.of [1,4,8,13,19,20,24]) [4,5,6] [1,2,3] λ_ _=>?_;refine J.vT (fdV y) rfl rfl (λhg a w he hC=>?_) ?_
    ·exact p6 tk rfl rfl he hg rfl rfl (hC rfl _ (i7 (i:=2) rfl)) rfl rfl
    refine J.qp (a6N x y) [] λ_=>?_;refine J.qd (λ_ h3=>?_) λ_ h3=>?_
    ·refine J.q λ_=>?_;have hs:V.tops (l.take (k+1))=y::o++[x]:=by rw[hts,V.topsStep,if_neg (by simpa using h2),if_neg (by simpa using h3)]
     refine J.append hX tk 2 4 0 rfl rfl rfl rfl rfl rfl rfl rfl rfl rfl rfl rfl rfl rfl rfl rfl ?_ ?_ (λ_=>rfl) λa3 c3=>⟨_,(congrArg (λz=>A9 _ 2 (c9 _ _ _ _ _ z)) (Y8 (y::o) x).symm).trans rfl,trivial,?_⟩
     ·simp only[maxLen];omega
     ·omega
     rw[show(y::o).length+1=(y::o++[x]).length from by simp];refine J.q λ_=>?_;refine J.n ((k+1,a3,c3,y::o++[x])) (⟨by dsimp only;omega,hs⟩) (by dsimp only;omega) [0,1,2]
    ·have hs:V.tops (l.take (k+1))=y::o:=by rw[hts,V.topsStep,if_neg (by simpa using h2),if_pos (by simpa using h3)]
     refine J.q λ_=>?_;refine J.n ((k+1,some ga,c1,y::o)) (⟨by dsimp only;omega,hs⟩) (by dsimp only;omega) [0,1,2]
 ·simp only[decide_eq_false_iff_not,Int.ofNat_lt]at h1;obtain rfl:k=n:=by omega
  rw[List.take_of_length_le (by omega)]at hto;subst hto;refine J.qr [1,2] λ_=>?_;exact⟨a1,c1,rfl,rfl⟩
def a5H (x:Int):Bool:=x !=2&&x !=4
theorem b4c (A:Atom) (x:Int):FP 177 [iI x] [A] (Ps (.bool (a5H x)) [A]):=by
 refine FE [0] Tryz.func177 λX F hX=>?_;exact J.qx [1]
theorem a6x (N:Nand) (b r:Int):V.blankRow N b r= !(((M.rowN N b r N.dies).map (·.2)).any a5H):=by
 unfold V.blankRow;rw[List.any_map,List.not_any_eq_all_not];congr 1;funext x;show(x.2==2||x.2==4)= !(!(x.2==2)&& !(x.2==4));cases(x.2==2)<;>cases(x.2==4)<;>rfl
def V.upto (N:Nand) (f:Fnd) (k:Nat):Bool:=(List.range k).all λr:Nat=>decide ((r:Int)<=f.row)||V.blankRow N f.block r
theorem V.upto_succ (N:Nand) (f:Fnd) (k:Nat):V.upto N f (k+1)=(V.upto N f k&&(decide ((k:Int)<=f.row)||V.blankRow N f.block k)):=by
 unfold V.upto;rw[List.range_succ,List.all_append];simp
theorem V.upto_le (N:Nand) (f:Fnd) (k r0:Nat) (hr:f.row=(r0:Int)) (h:k<=r0+1):V.upto N f k=true:=by
 unfold V.upto;rw[List.all_eq_true];intro r hr2;rw[List.mem_range]at hr2;rw[decide_eq_true (by omega)];rfl
theorem b5R (p:Nat) (N:Nand) (hN:N.Ok) (hR:N.Room) (sp:Nat) (H:Value) (f:Fnd) (r0:Nat) (hr:f.row=(r0:Int)) (hr2:r0<=1000):FP 122 [pp sp,fdV f] [i6 p N, .pt sp 198 [pp p,H]]
  (Ps (.bool (V.last N f)) [i6 p N, .pt sp 198 [pp p,H]]):=by
 have hbd:=hN.bd;refine FE [3,0] Tryz.func122 λX F hX=>?_;refine J.q λbb=>?_;rw[hr];refine J.q λ_=>?_;refine J.l (α:=Nat) (λk=>r0+1<=k/\V.upto N f k=true/\(k=r0+1\/k<=N.pages)) (λk=>[si 5 k,⟨0,pp sp,3, .tt⟩,⟨3,pp (bb 0),4, .tt⟩]) [] (λk=>[]) (λk=>N.pages-k) (r0+1) (⟨Nat.le_refl _,V.upto_le N f _ r0 hr (Nat.le_refl _), .inl rfl⟩) λk hI=>?_;refine J.qp (I6 p N) [1] λ_=>?_;refine J.qd (λ_ h1=>?_) λ_ h1=>?_
 ·simp only[decide_eq_true_eq,Int.ofNat_lt]at h1;refine J.p (.of [0,4,8,13,16,20,25,28,34,36,40,44,48,52]) [13] [1,2,3] λ_=>?_;refine J.qc (b5L p N hN hR f.block k) [1] λ_=>?_;rintro v As ⟨a1,c1,a2,c2,rfl,rfl⟩;refine⟨_,rfl,stq,?_⟩;refine J.q λ_=>?_;refine J.ca hX (by kernel_rfl) (a1J 177 [] a5H (i6 p N) (by kernel_rfl) ((M.rowN N f.block k N.dies).map (·.2)) (λx _=>b4c (i6 p N) x) a2 N.dies c2 (by simp[M.rowN]) (by omega)) [5,1] 0 rfl rfl rfl rfl rfl rfl (λ_=>rfl) ?_;refine cpq ⟨_,rfl,trivial,?_⟩;have hbl:=a6x N f.block k;have hk:=V.upto_succ N f k;have hlt:decide ((k:Int)<=f.row)=false:=by rw[decide_eq_false_iff_not];omega
  rw[hI.2.1,hlt]at hk;refine J.qd (λ_ h2=>?_) λ_ h2=>?_
  ·rw[h2]at hbl;refine J.qr [1,2] λ_=>?_;refine⟨?_,rfl⟩;have:V.last N f=false:=by
    unfold V.last;rw[Bool.and_eq_false_iff];left;rw[List.all_eq_false];exact⟨k,List.mem_range.2 h1,by rw[hlt,hbl];simp⟩
   rw[this]
  ·rw[h2]at hbl;rw[hbl]at hk;refine J.q λ_=>?_;refine J.n (k+1) (⟨by omega,hk,by omega⟩) (by omega) [0,1,2,3]
 ·simp only[decide_eq_false_iff_not,Int.ofNat_lt]at h1;have hup:V.upto N f N.pages=true:=by
   rcases hI.2.2 with h | h
   ·exact V.upto_le N f _ r0 hr (by omega)
   ·rw[show N.pages=k by omega];exact hI.2.1
  refine J.qp (L5 f.mask f.block f.row) [] λ_=>?_;have hv:V.last N f=((M.look N (G.parity f.mask f.block f.row) f.block f.row).2 !=4):=by
   unfold V.last;have:((List.range N.pages).all λr:Nat=>decide ((r:Int)<=f.row)||V.blankRow N f.block r)=true:=hup;rw[this,Bool.true_and]
  refine J.pq (.take true 0 (.take true 1 (.take true 2 (.take false 3 (.take true 4 (.take true 5 (.take true 6 (.take false 7 (.take true 8 (.take true 9 (.take false 10 (.take true 11 (.alt false 12 ((.of [52,56,60,66,70,72])) (.alt false 16 ((.of [50,52,56,60,70,72])) .non)))))))))))))) [18] [1,2,3] λ_ _=>?_;refine J.alts ?_ ?_
  ·skip
   refine J.qp (a1t p N hN hR (G.parity f.mask f.block f.row) f.block f.row) [1] λ_=>?_;refine J.qr [1,2] λ_=>?_;exact⟨by rw[hv],rfl⟩
  ·skip
   refine J.qn 1 λ_=>?_;refine J.qp (a1t p N hN hR (G.parity f.mask f.block f.row) f.block f.row) [1] λ_=>?_;refine J.qr [1,2] λ_=>?_;exact⟨by rw[hv],rfl⟩
theorem a5u (l:List Fnd) (r:List Value) (k:Nat) (x:Fnd) (h:l[k]? =some x):((j7 l++r).drop (k*25)).take 25=fnL x:=by
 have hk:k<l.length:=(List.getElem?_eq_some_iff.1 h).1;rw[List.drop_append_of_le_length (by rw[C6];omega),List.take_append_of_le_length (by rw[List.length_drop,C6];omega)];exact P8 h
theorem a3U:∀(l:List Fnd) (r:List Value) (k:Nat) (x:Fnd),k<l.length->(j7 l++r).take (k*25)++fnL x++(j7 l++r).drop (k*25+25)=j7 (l.set k x)++r
 | [],_,_,_,h=>by simp at h
 | y::l,r,0,x,h=>by simp[j7,fnL]
 | y::l,r,k+1,x,h=>by
  have:=a3U l r k x (by simpa using h);have hy:(fnL y).length=25:=rfl;have e1:j7 (y::l)++r=fnL y++(j7 l++r):=by simp[j7]
  have e2:j7 ((y::l).set (k+1) x)++r=fnL y++(j7 (l.set k x)++r):=by simp[j7]
  rw[e1,e2,<- this,show(k+1)*25=(fnL y).length+k*25 from by omega,List.take_length_add_append,show(fnL y).length+k*25+25=(fnL y).length+(k*25+25)from by omega,<- List.drop_drop,List.drop_left' rfl];simp only[List.append_assoc]
def b5c (p:Fnd->Bool) (l:List Fnd):Int:=match l.findIdx? p with
 | some k=>k
 | none=> -1
theorem b0S {p:Fnd->Bool} {l:List Fnd} {k:Nat} {x:Fnd} (h:l[k]? =some x) (h0:∀i<k,p (l.getD i Fnd.zero)=false) (hp:p x=true):l.findIdx? p=some k:=by
 rw[List.findIdx?_eq_some_iff_getElem];obtain⟨h1,h2⟩:=List.getElem?_eq_some_iff.1 h;refine⟨h1,by rw[h2];exact hp,λj hj=>?_⟩;have:=h0 j hj;rw[List.getD_eq_getElem?_getD,List.getElem?_eq_getElem (by omega),Option.getD_some]at this;simp[this]
theorem b0T {p:Fnd->Bool} {l:List Fnd} (h0:∀i<l.length,p (l.getD i Fnd.zero)=false):l.findIdx? p=none:=by
 rw[List.findIdx?_eq_none_iff];intro x hx;obtain⟨i,hi,rfl⟩:=List.mem_iff_getElem.1 hx;have:=h0 i hi
 rwa [List.getD_eq_getElem?_getD,List.getElem?_eq_getElem hi,Option.getD_some]at this
theorem b1u (c:Nat) (cs:List Value) (p:Fnd->Bool) (A:Atom) (hcal:n7 Tryz.prog c=true) (l:List Fnd) (hf:∀x∈l,Fn Tryz.prog c (fdV x::cs) [A] (λv As=>v= .bool (p x)/\As=[A]))
  (a:Option Nat) (n cap:Nat) (hl:l.length=n) (hn:n<=4611686018427387904):FP 216 [slv a n cap,fnC c cs] [c9 202 25 a n cap (j7 l),A]
  (λv As=>v=iI (b5c p l)/\As=[c9 202 25 a n cap (j7 l),A]):=by
 refine FE [0,0] Tryz.func216 λX F hX=>?_;refine J.q λ_=>?_;refine J.l (α:=Nat) (λk=>k<=n/\∀i<k,p (l.getD i Fnd.zero)=false) (λk=>[si 8 k,si 7 n,sv 0 (slv a n cap),⟨1,fnC c cs,0, .tt⟩]) [] (λk=>[]) (λk=>n-k) (0) (⟨by omega,by omega⟩) λk hI=>?_;refine J.qd (λ_ h1=>?_) λ_ h1=>?_
 ·simp only[decide_eq_true_eq,Int.ofNat_lt]at h1;cases a with
  | none=>
   refine J.know (λh' s=>(s.get (i:=1) rfl).2.1) λhn0=>?_;omega
  | some g=>
   have hk:l[k]? =some (l.getD k Fnd.zero):=by rw[List.getD_eq_getElem?_getD,List.getElem?_eq_getElem (by omega),Option.getD_some]
   refine J.q λ_=>?_;refine J.v (fdV (l.getD k Fnd.zero)) rfl rfl (λhg a w he hs=>?_) ?_
   ·exact p6 tk rfl rfl he rfl rfl rfl (hs.get (i:=1) rfl) (by rw[show 0+(k:Int).toNat*25=k*25 from by omega];have:=a5u l [] k _ hk;rwa [List.append_nil]at this) rfl
   refine J.q λ_=>?_;refine J.call hX hcal (hf (l.getD k Fnd.zero) (List.mem_of_getElem? hk)) [2] 0 rfl rfl rfl rfl (by(repeat' (first | exact Conj.nil | refine Conj.cons ?_ ?_ | omega | exact hq0 | (simpa using hq0) | (exactλh=>h) | exact rfl | (intro hq;have hq0:=hq;try simp only[Bool.and_eq_true,Bool.or_eq_true,decide_eq_true_eq,Bool.not_eq_true',decide_eq_false_iff_not]at hq) | (simp;done) | (simp;omega) | decide))) rfl rfl (λ_=>rfl) ?_;refine cpq ⟨_,rfl,trivial,?_⟩;refine J.qd (λ_ h2=>?_) λ_ h2=>?_
   ·refine J.qr [1,2] λ_=>?_;exact⟨by rw[b5c,b0S hk hI.2 h2],rfl⟩
   ·refine J.q λ_=>?_;refine J.nx (k+1) (⟨by omega,λi hi=>by
     rcases Nat.lt_succ_iff_lt_or_eq.1 hi with h3 | h3
     ·exact hI.2 i h3
     ·rw[h3];exact h2⟩) (by omega) (λ_ s=>s)
 ·simp only[decide_eq_false_iff_not,Int.ofNat_lt]at h1;refine J.qr [1,2] λ_=>?_;exact⟨by rw[b5c,b0T (λi hi=>hI.2 i (by omega))],rfl⟩
theorem a8P (l:List Fnd):∀u∈j7 l,u.oneCell'=true:=by
 intro u hu;simp only[j7,List.mem_flatMap]at hu;obtain⟨s,_,hu⟩:=hu;simp only[fnL,List.mem_cons,List.not_mem_nil,or_false]at hu;rcases hu with rfl | rfl | rfl | rfl | rfl | rfl | rfl | rfl | rfl | rfl | rfl | rfl | rfl | rfl | rfl | rfl | rfl | rfl | rfl | rfl | rfl | rfl | rfl | rfl | rfl<;>rfl
theorem b1x (a:Option Nat) (n cap:Nat) (l:List Fnd) (hl:l.length=n) (hn:n<=1000000):FP 181 [slv a n cap] [c9 202 25 a n cap (j7 l)]
  (λv As=>∃a' c',v=slv a' n c'/\As=[c9 202 25 a n cap (j7 l),c9 202 25 a' n c' (j7 l)]):=by
 refine FE [0] Tryz.func181 λX F hX=>?_;cases a with
 | none=>
  refine J.know (λh' s=>(s.get (i:=1) rfl).2) λhn0=>?_;obtain⟨rfl,rfl⟩:=hn0;have:l=[]:=List.eq_nil_of_length_eq_zero hl;subst this;refine J.qT λ_=>?_;refine J.turn1 [] rfl (As:=[c9 202 25 none 0 0 (j7 [])]) (λh s=>Sep.one ⟨rfl,rfl,rfl⟩) rfl ?_;refine J.qr [1,2] λ_=>?_;exact⟨none,0,rfl,rfl⟩
 | some g=>
  refine J.qF λ_=>?_;refine J.qn 5 λbb=>?_;refine J.closeOwn (e:=202) (size:=25) (n:=0) (cap:=0) (xs:=[]) 2 rfl rfl rfl (Nat.le_refl _) (Nat.zero_le _) rfl rfl rfl ?_;refine J.q λ_=>?_;refine J.appendR hX tk (a:=some (bb 0)) (n:=0) (cap:=0) (xs:=[]) (oo:=0) (Ay:=c9 202 25 (some g) n cap (j7 l)) 2 1 0 rfl rfl rfl rfl rfl rfl rfl rfl rfl rfl (D4 _ _ (some g) _ _ _) rfl rfl rfl rfl (a8P l) ?_ ?_ (λ_=>rfl) λa' c'=>⟨_,rfl,trivial,?_⟩
  ·simp only[maxLen];omega
  ·omega
  rw[Nat.zero_add n,List.nil_append];refine J.qr [1,2] λ_=>?_;exact⟨a',c',rfl,rfl⟩
def DelF (p:Fnd->Bool) (l m:List Fnd) (i j:Nat):Prop:=m.length=l.length/\i<j/\j<=l.length/\m.drop j=l.drop j/\m.take i++(l.drop j).filter (λx=>!p x)=l.filter (λx=>!p x)
theorem DelF.start {p:Fnd->Bool} {l:List Fnd} {k:Nat} (h:l.findIdx? p=some k):DelF p l l k (k+1):=by
 rw[List.findIdx?_eq_some_iff_getElem]at h;obtain⟨h1,h2,h3⟩:=h;refine⟨rfl,by omega,by omega,rfl,?_⟩;have e:l=l.take k++l[k]::l.drop (k+1):=by rw[<- List.drop_eq_getElem_cons h1,List.take_append_drop]
 have e2:(l.take k).filter (λx=>!p x)=l.take k:=by
  rw[List.filter_eq_self];intro x hx;obtain⟨i,hi,rfl⟩:=List.mem_iff_getElem.1 hx;rw[List.getElem_take];have:=h3 i (by simp at hi;omega);simpa using this
 conv=>rhs;rw[e]
 rw[List.filter_append,e2,List.filter_cons_of_neg (by simp[h2])]
theorem DelF.skip {p:Fnd->Bool} {l m:List Fnd} {i j:Nat} (h:DelF p l m i j) (hj:j<l.length) (hp:p (m.getD j Fnd.zero)=true):DelF p l m i (j+1):=by
 obtain⟨h1,h2,h3,h4,h5⟩:=h;have e1:m[j]? =l[j]?:=by have:=congrArg (λz=>z[0]?) h4;simpa using this
 have hx:l[j]=m.getD j Fnd.zero:=by rw[List.getD_eq_getElem?_getD,e1,List.getElem?_eq_getElem hj,Option.getD_some]
 refine⟨h1,by omega,by omega,?_,?_⟩
 ·have:=congrArg (List.drop 1) h4;simpa[List.drop_drop]using this
 ·rw[<- h5,List.drop_eq_getElem_cons hj,List.filter_cons_of_neg (by rw[hx,hp];simp)]
theorem DelF.keep {p:Fnd->Bool} {l m:List Fnd} {i j:Nat} (h:DelF p l m i j) (hj:j<l.length) (hp:p (m.getD j Fnd.zero)=false):DelF p l (m.set i (m.getD j Fnd.zero)) (i+1) (j+1):=by
 obtain⟨h1,h2,h3,h4,h5⟩:=h;have e1:m[j]? =l[j]?:=by have:=congrArg (λz=>z[0]?) h4;simpa using this
 have hx:l[j]=m.getD j Fnd.zero:=by rw[List.getD_eq_getElem?_getD,e1,List.getElem?_eq_getElem hj,Option.getD_some]
 refine⟨by simp[h1],by omega,by omega,?_,?_⟩
 ·rw[List.drop_set_of_lt (by omega)];have:=congrArg (List.drop 1) h4;simpa[List.drop_drop]using this
 ·rw[<- h5,List.drop_eq_getElem_cons hj,List.filter_cons_of_pos (by rw[hx,hp];simp),hx,List.take_set,List.take_add_one,List.getElem?_eq_getElem (by omega)];rw[List.set_append_right _ _ (by simp;omega)];simp[List.length_take,Nat.min_eq_left (show i<=m.length by omega)]
theorem a9V (c:Nat) (cs:List Value) (p:Fnd->Bool) (A:Atom) (hcal:n7 Tryz.prog c=true) (hf:∀x,Fn Tryz.prog c (fdV x::cs) [A] (λv As=>v= .bool (p x)/\As=[A]))
  (a:Option Nat) (n cap:Nat) (l:List Fnd) (hl:l.length=n) (hn:n<=4611686018427387904):FP 180 [slv a n cap,fnC c cs] [c9 202 25 a n cap (j7 l),A]
  (λv As=>∃l',l'=l.filter (λx=>!p x)/\v=slv a l'.length cap/\As=[c9 202 25 a l'.length cap (j7 l'),A]):=by
 refine FE [0,0] Tryz.func180 λX F hX=>?_;refine J.qp (b1u c cs p A hcal l (λx _=>hf x) a n cap hl hn) [1,2] λ_=>?_;rw[b5c];cases hx:l.findIdx? p with
 | none=>
  dsimp only;refine J.qT λ_=>?_;refine J.qr [1,2] λ_=>?_;have:l.filter (λx=>!p x)=l:=by
   rw[List.filter_eq_self];intro x hm;rw[List.findIdx?_eq_none_iff]at hx;simp[hx x hm]
  exact⟨l,this.symm,by rw[hl],by rw[hl];rfl⟩
 | some k=>
  dsimp only;refine J.qd (λ_ h0=>?_) λ_ h0=>?_
  ·simp only[beq_iff_eq]at h0;omega
  have hk:k<n:=by rw[List.findIdx?_eq_some_iff_getElem]at hx;obtain⟨h1,_⟩:=hx;omega
  cases a with
  | none=>
   refine J.know (λh' s=>(s.get (i:=1) rfl).2.1) λhn0=>?_;omega
  | some g=>
   refine J.openOwn 1 rfl rfl (λ_=>rfl) λr q1 q2 q3 q4=>?_;refine J.q λ_=>?_;rw[show(k:Int)+1=((k+1:Nat):Int)from by omega];refine J.q λ_=>?_;refine J.l (α:=(Nat×Nat×List Fnd)) (λx=>DelF p l x.2.2 x.1 x.2.1) (λx=>[si 6 x.2.1,si 5 x.1,sv 0 (slv (some g) n cap),⟨1,fnC c cs,0, .tt⟩]) [1] (λx=>[.pt g 202 (j7 x.2.2++r)]) (λx=>n-x.2.1) ((k,k+1,l)) (DelF.start hx) λx hI=>?_;obtain⟨i,j,m⟩:=x;dsimp only at hI ⊢;have hml:m.length=n:=hI.1.trans hl;have hij:i<j:=hI.2.1;have hjn:j<=n:=by have:=hI.2.2.1;omega
   refine J.qd (λ_ h1=>?_) λ_ h1=>?_
   ·simp only[decide_eq_true_eq,Int.ofNat_lt]at h1;have hget:m[j]? =some (m.getD j Fnd.zero):=by rw[List.getD_eq_getElem?_getD,List.getElem?_eq_getElem (by omega),Option.getD_some]
    refine J.q λ_=>?_;refine J.v (fdV (m.getD j Fnd.zero)) rfl rfl (λhg a w he hs=>?_) ?_
    ·exact j9 tk rfl rfl he rfl rfl rfl (hs.get (i:=1) rfl) (by rw[show 0+(j:Int).toNat*25=j*25 from by omega];exact a5u m r _ _ hget) rfl
    refine J.q λ_=>?_;refine J.call hX hcal (hf (m.getD j Fnd.zero)) [2] 0 rfl rfl rfl rfl (by(repeat' (first | exact Conj.nil | refine Conj.cons ?_ ?_ | omega | exact hq0 | (simpa using hq0) | (exactλh=>h) | exact rfl | (intro hq;have hq0:=hq;try simp only[Bool.and_eq_true,Bool.or_eq_true,decide_eq_true_eq,Bool.not_eq_true',decide_eq_false_iff_not]at hq) | (simp;done) | (simp;omega) | decide))) rfl rfl (λ_=>rfl) ?_;refine cpq ⟨_,rfl,trivial,?_⟩;refine J.qd (λ_ h2=>?_) λ_ h2=>?_
    ·simp only[Bool.not_eq_true']at h2;refine J.q λ_=>?_;refine J.storeN hX tk 1 rfl rfl rfl rfl rfl rfl rfl rfl rfl rfl rfl rfl rfl ?_ (j7 (m.set i (m.getD j Fnd.zero))++r) ?_ rfl (λ_=>rfl) ⟨trivial,?_⟩
     ·rw[List.length_append,C6];show 0+(i:Int).toNat*25+25<=_;omega
     ·rw[show 0+(i:Int).toNat*25=i*25 from by omega];exact a3U m r i _ (by omega)
     refine J.q λ_=>?_;refine J.n ((i+1,j+1,m.set i (m.getD j Fnd.zero))) (hI.keep (by omega) h2) (by dsimp only;omega) [0,1,2]
    ·simp only[Bool.not_eq_false']at h2;refine J.q λ_=>?_;refine J.n ((i,j+1,m)) (hI.skip (by omega) h2) (by dsimp only;omega) [0,1,2]
   ·simp only[decide_eq_false_iff_not,Int.ofNat_lt]at h1;obtain rfl:j=n:=by omega
    have hfil:m.take i=l.filter (λx=>!p x):=by
     have h5:=hI.2.2.2.2;rw[List.drop_of_length_le (by omega)]at h5;simpa using h5
    refine J.q λ_=>?_;refine J.clear hX tk 1 rfl rfl rfl rfl rfl rfl rfl rfl rfl rfl rfl ?_ (λ_=>rfl) (λ_=>rfl) λcs' z1 z2=>⟨trivial,?_⟩
    ·rw[List.length_append,C6];rw[C6]at q4;show 0+(i:Int).toNat*25+(j-(i:Int).toNat)*25<=_;have:(i:Int).toNat=i:=by omega
     rw[this];omega
    have hilen:(l.filter (λx=>!p x)).length=i:=by rw[<- hfil,List.length_take];omega
    refine J.closeOwn (e:=202) (size:=25) (n:=i) (cap:=cap) (xs:=j7 (l.filter (λx=>!p x))) 1 rfl rfl (by rw[C6,hilen]) (by omega) q3 (by rw[z1,List.length_append,C6,hml];rw[C6,hl]at q4;exact q4) ?_ rfl ?_
    ·have z3:(0+(i:Int).toNat*25)=i*25:=by omega
     rw[z3]at z2;rw[z2,<- hfil];have e:j7 m=j7 (m.take i)++j7 (m.drop i):=by
      conv=>lhs;rw[<- List.take_append_drop i m]
      simp only[j7,List.flatMap_append]
     rw[e,List.append_assoc,List.take_left' (by rw[C6,List.length_take,Nat.min_eq_left (by omega)])]
    refine J.qr [1,2] λ_=>?_;exact⟨_,rfl,by rw[hilen];rfl,by rw[hilen];rfl⟩
structure FSlot where
 a:Option Nat
 cap:Nat
 l:List Fnd
def FSlot.hdr (z:FSlot):Value:=slv z.a z.l.length z.cap
def FSlot.atom (z:FSlot):Atom:=c9 202 25 z.a z.l.length z.cap (j7 z.l)
def Y3 (Z:List FSlot):List Value:=Z.map FSlot.hdr
def a0Y (Z:List FSlot):List Atom:=Z.map FSlot.atom
theorem a7E {Z:List FSlot} {k:Nat} {z:FSlot} (h:Z[k]? =some z):(Y3 Z)[0+(k:Int).toNat*1]? =some z.hdr:=by
 rw[show 0+(k:Int).toNat*1=k from by omega,Y3,List.getElem?_map,h];rfl
theorem a0X {Z:List FSlot} {k:Nat} {z:FSlot} (h:Z[k]? =some z):(a0Y Z)[k]? =some z.atom:=by
 rw[a0Y,List.getElem?_map,h];rfl
theorem a1B {Z:List FSlot} {k:Nat} {z:FSlot} (h:Z[k]? =some z):(a0Y Z).set k z.atom=a0Y Z:=by
 apply List.ext_getElem?;intro i;rw[List.getElem?_set];split
 ·rename_i e;subst e;split
  ·exact(a0X h).symm
  ·rename_i e2;rw[List.getElem?_eq_none (by omega)]
 ·rfl
theorem b3z (Z:List FSlot) (k:Nat) (z:FSlot):(a0Y Z).set k z.atom=a0Y (Z.set k z):=by rw[a0Y,a0Y,List.map_set]
theorem b3k (Z:List FSlot) (k:Nat) (z:FSlot):(Y3 Z).set k z.hdr=Y3 (Z.set k z):=by rw[Y3,Y3,List.map_set]
def V.standOf (l:List Fnd):Fnd×Bool:=match V.tops l with
 | []=>(Fnd.zero,false)
 | f::_=>(f,true)
def ScP (sp p g:Nat) (Z:List FSlot):List Atom:=[.pt sp 198 [pp p, .slice (some ⟨g,0,none⟩) Z.length Z.length], .pt g 199 (Y3 Z), .hp (HP.of (a0Y Z))]
theorem b1C (sp p g:Nat) (Z:List FSlot) (k:Nat) (z:FSlot) (hz:Z[k]? =some z) (hn:Z.length<=100000) (hl:z.l.length<=100000):FP 120 [pp sp,iI k] (ScP sp p g Z)
  (Ps (.tuple #[fdV (V.standOf z.l).1, .bool (V.standOf z.l).2]) (ScP sp p g Z)):=by
 have hk:k<Z.length:=(List.getElem?_eq_some_iff.1 hz).1;refine FE [2,0] Tryz.func120 λX F hX=>?_;refine J.q λ_=>?_;refine J.v z.hdr rfl rfl (λhg a w he hs=>?_) ?_
 ·exact j5 tk rfl rfl he rfl rfl rfl (hs.get (i:=2) rfl) (a7E hz)
 refine J.openAt 3 k rfl rfl (a0X hz) rfl ?_;refine J.qc (b1B z.a z.l.length z.cap z.l rfl hl) [5] λ_=>?_;rintro v As ⟨a',c',rfl,rfl⟩;refine⟨_,rfl,trivial,?_⟩;have hv:V.standOf z.l=match V.tops z.l with
  | []=>(Fnd.zero,false)
  | f::_=>(f,true):=rfl
 rcases ht:V.tops z.l with _ | ⟨f,o⟩
 ·rw[ht]at hv;refine J.qT λ_=>?_;refine J.q λ_=>?_;refine J.closeAt (A:=z.atom) 3 5 k rfl rfl rfl ?_;rw[a1B hz];refine J.qr [1,2,3] λ_=>?_;exact⟨by rw[hv];rfl,rfl⟩
 ·rw[ht]at hv;refine J.know (λh' s=>j4 (c:=(a',c')) (by simp) (s.get (i:=6) rfl)) λhg=>?_;obtain⟨ga,rfl⟩:=hg;refine J.qd (λ_ h1=>?_) λ_ h1=>?_
  ·simp only[beq_iff_eq,List.length_cons]at h1;omega
  refine J.q λ_=>?_;refine J.v (fdV f) rfl rfl (λhg a w he hs=>?_) ?_
  ·exact p6 tk rfl rfl he rfl rfl rfl (hs.get (i:=6) rfl) rfl rfl
  refine J.q λ_=>?_;refine J.closeAt (A:=z.atom) 3 5 k rfl rfl rfl ?_;rw[a1B hz];refine J.qr [1,2,3] λ_=>?_;exact⟨by rw[hv];rfl,rfl⟩
theorem b1D (A:Atom) (x:Fnd):FP 182 [fdV x] [A] (Ps (.bool (!x.whole)) [A]):=by
 refine FE [0] Tryz.func182 λX F hX=>?_;exact J.qx [1]
theorem b4d (sp p g:Nat) (Z:List FSlot) (k:Nat) (z:FSlot) (hz:Z[k]? =some z) (hn:Z.length<=100000) (hl:z.l.length<=100000):FP 123 [pp sp,iI k] (ScP sp p g Z)
  (λv As=>∃a c,v=slv a (V.holds z.l).length c/\As=ScP sp p g Z++[c9 3 1 a (V.holds z.l).length c (f9 (V.holds z.l))]):=by
 have hk:k<Z.length:=(List.getElem?_eq_some_iff.1 hz).1;refine FE [2,0] Tryz.func123 λX F hX=>?_;refine J.q λ_=>?_;refine J.v z.hdr rfl rfl (λhg a w he hs=>?_) ?_
 ·exact j5 tk rfl rfl he rfl rfl rfl (hs.get (i:=2) rfl) (a7E hz)
 refine J.openAt 3 k rfl rfl (a0X hz) rfl ?_;refine J.qc (b1x z.a z.l.length z.cap z.l rfl (by omega)) [4] λ_=>?_;rintro v As ⟨a1,c1,rfl,rfl⟩;refine⟨_,rfl,trivial,?_⟩;refine J.closeAt (A:=z.atom) 3 4 k rfl rfl rfl ?_;rw[a1B hz];refine J.q λ_=>?_;refine J.ca hX (by kernel_rfl) (a9V 182 [] (λx=>!x.whole) (.pt sp 198 [pp p, .slice (some ⟨g,0,none⟩) Z.length Z.length]) (by kernel_rfl) (λx=>b1D _ x) a1 z.l.length c1 z.l rfl (by omega)) [5,1] 0 rfl rfl rfl rfl rfl rfl (λ_=>rfl) ?_;rintro v As ⟨l',hl',rfl,rfl⟩;refine⟨_,rfl,trivial,?_⟩;have hl2:l'=z.l.filter λf=>f.whole:=by rw[hl'];congr 1;funext x;simp
 have hll:l'.length<=z.l.length:=by rw[hl'];exact List.length_filter_le _ _
 have htl:=a2H l';have hh:V.holds z.l=(V.tops l').map (·.block):=by rw[hl2];rfl
 refine J.qc (b1B a1 l'.length c1 l' rfl (by omega)) [5] λ_=>?_;rintro v As ⟨a2,c2,rfl,rfl⟩;refine⟨_,rfl,trivial,?_⟩;refine J.turn1 [] rfl (As:=[c9 3 1 none 0 0 (f9 [])]) (λh s=>Sep.one ⟨rfl,rfl,rfl⟩) rfl ?_;refine J.q λ_=>?_;refine J.l (α:=(Nat×Option Nat×Nat)) (λw=>w.1<=(V.tops l').length) (λw=>[si 21 w.1,⟨20,iI (V.tops l').length,0, .tt⟩,sv 19 (slv a2 (V.tops l').length c2),sv 6 (slv w.2.1 w.1 w.2.2)]) [7] (λw=>[c9 3 1 w.2.1 w.1 w.2.2 (f9 (((V.tops l').take w.1).map (·.block)))]) (λw=>(V.tops l').length-w.1) ((0,none,0)) (Nat.zero_le _) λw hI=>?_;obtain⟨j,a3,c3⟩:=w;dsimp only at hI ⊢;refine J.qd (λ_ h1=>?_) λ_ h1=>?_
 ·simp only[decide_eq_true_eq,Int.ofNat_lt]at h1;obtain⟨x,hx⟩:∃x,(V.tops l')[j]? =some x:=⟨_,List.getElem?_eq_getElem h1⟩;have htk:((V.tops l').take (j+1)).map (·.block)=((V.tops l').take j).map (·.block)++[x.block]:=by rw[List.take_add_one,hx];simp
  refine J.know (λh' s=>j4 (c:=(a2,c2)) (by omega) (s.get (i:=6) rfl)) λhg=>?_;obtain⟨ga,rfl⟩:=hg;refine J.q λ_=>?_;refine J.v (fdV x) rfl rfl (λhg a w he hs=>?_) ?_
  ·exact p6 tk rfl rfl he rfl rfl rfl (hs.get (i:=6) rfl) (by rw[show 0+(j:Int).toNat*25=j*25 from by omega];exact P8 hx) rfl
  refine J.q λ_=>?_;refine J.ap 7 9 0 ((L7 _ x.block).symm.trans (congrArg f9 htk.symm)) λa4 c4=>?_;refine J.q λ_=>?_;refine J.n ((j+1,a4,c4)) (by dsimp only;omega) (by dsimp only;omega) [0,1,2,3,4,5,6,7]
 ·simp only[decide_eq_false_iff_not,Int.ofNat_lt]at h1;obtain rfl:j=(V.tops l').length:=by omega
  rw[List.take_length,<- hh];refine J.qr [1,2,3,7] λ_=>?_;have hlen:(V.tops l').length=(V.holds z.l).length:=by rw[hh,List.length_map]
  rw[hlen];exact⟨a3,c3,rfl,rfl⟩
end Go.Proofs.YtnffkcabeecopaaGreat
namespace Go.Proofs.YtnffkcabeecopaaGreat
open Go Go.Shelf
def b4w:Ren:=⟨λn=>if n=125 then 184 else if n=128 then 226 else if n=129 then 227 else if n=189 then 124 else if n=215 then 153 else if n=216 then 223 else if n=257 then 183 else if n=294 then 217 else if n=295 then 218 else if n=296 then 219 else if n=297 then 220 else if n=298 then 221 else if n=299 then 222 else if n=300 then 224 else if n=301 then 225 else if n=328 then 253 else if n=329 then 254 else if n=330 then 255 else if n=331 then 256 else if n=332 then 257 else if n=343 then 273 else 0,λn=>if n=0 then 0 else if n=3 then 3 else if n=4 then 4 else if n=5 then 5 else if n=9 then 9 else if n=28 then 74 else if n=46 then 193 else if n=51 then 292 else if n=53 then 294 else if n=131 then 289 else if n=182 then 284 else if n=183 then 285 else if n=218 then 323 else if n=222 then 321 else if n=228 then 336 else if n=229 then 337 else 0,λn=>n⟩
theorem b2N:Lays.n189 Tryz.prog b4w where
 mixed:=by kernel_rfl
 f125:=by kernel_rfl
 f128:=by kernel_rfl
 f129:=by kernel_rfl
 f189:=by kernel_rfl
 f215:=by kernel_rfl
 f216:=by kernel_rfl
 f257:=by kernel_rfl
 f294:=by kernel_rfl
 f295:=by kernel_rfl
 f296:=by kernel_rfl
 f297:=by kernel_rfl
 f298:=by kernel_rfl
 f299:=by kernel_rfl
 f300:=by kernel_rfl
 f301:=by kernel_rfl
 f328:=by kernel_rfl
 f329:=by kernel_rfl
 f330:=by kernel_rfl
 f331:=by kernel_rfl
 f332:=by kernel_rfl
 f343:=by kernel_rfl
 t0:=by kernel_rfl
 a0:=λw=>by kernel_rfl
 z0:=λw=>by kernel_rfl
 v0:=λw=>by kernel_rfl
 t3:=by kernel_rfl
 a3:=λw=>by kernel_rfl
 z3:=λw=>by kernel_rfl
 v3:=λw=>by kernel_rfl
 t4:=by kernel_rfl
 a4:=λw=>by kernel_rfl
 z4:=λw=>by kernel_rfl
 v4:=λw=>by kernel_rfl
 t5:=by kernel_rfl
 a5:=λw=>by kernel_rfl
 z5:=λw=>by kernel_rfl
 v5:=λw=>by kernel_rfl
 t9:=by kernel_rfl
 a9:=λw=>by kernel_rfl
 z9:=λw=>by kernel_rfl
 v9:=λw=>by kernel_rfl
 t28:=by kernel_rfl
 a28:=λw=>by kernel_rfl
 z28:=λw=>by kernel_rfl
 v28:=λw=>by kernel_rfl
 t46:=by kernel_rfl
 a46:=λw=>by kernel_rfl
 z46:=λw=>by kernel_rfl
 v46:=λw=>by kernel_rfl
 t51:=by kernel_rfl
 a51:=λw=>by kernel_rfl
 z51:=λw=>by kernel_rfl
 v51:=λw=>by kernel_rfl
 t53:=by kernel_rfl
 a53:=λw=>by kernel_rfl
 z53:=λw=>by kernel_rfl
 v53:=λw=>by kernel_rfl
 t131:=by kernel_rfl
 a131:=λw=>by kernel_rfl
 z131:=λw=>by kernel_rfl
 v131:=λw=>by kernel_rfl
 t182:=by kernel_rfl
 a182:=λw=>by kernel_rfl
 z182:=λw=>by kernel_rfl
 v182:=λw=>by kernel_rfl
 t183:=by kernel_rfl
 a183:=λw=>by kernel_rfl
 z183:=λw=>by kernel_rfl
 v183:=λw=>by kernel_rfl
 t218:=by kernel_rfl
 a218:=λw=>by kernel_rfl
 z218:=λw=>by kernel_rfl
 v218:=λw=>by kernel_rfl
 t222:=by kernel_rfl
 a222:=λw=>by kernel_rfl
 z222:=λw=>by kernel_rfl
 v222:=λw=>by kernel_rfl
 t228:=by kernel_rfl
 a228:=λw=>by kernel_rfl
 z228:=λw=>by kernel_rfl
 v228:=λw=>by kernel_rfl
 t229:=by kernel_rfl
 a229:=λw=>by kernel_rfl
 z229:=λw=>by kernel_rfl
 v229:=λw=>by kernel_rfl
end Go.Proofs.YtnffkcabeecopaaGreat
namespace Go.Proofs.YtnffkcabeecopaaGreat
open Go Go.RowKit
def leI (x y:Int):Bool:=decide (x<=y)
def I3 (l:List Int):List Int:=l.mergeSort leI
theorem R8 (l:List Int):(I3 l).length=l.length:=by rw[I3,List.length_mergeSort]
theorem b0V {g n cap:Nat} {l:List Int} {w:World} (hl':l.length=n) (h:J3 3 1 (some g) n cap (f9 l) (hl w)):Go.Sort.Holds (Value.int .i64) w g 0 l.toArray:=by
 obtain⟨h0,cur,h1,h2,h3,h4,h5⟩:=h;have h1':w.heap[g]? =some (.cells cur 3 (0,0)):=h1;intro j hj;have hj':j<l.length:=by simpa using hj
 have hc:cur.toList[j]? =some (.int .i64 l[j]):=by
  have:(cur.toList.take (n*1))[j]? =(f9 l)[j]?:=by rw[h5]
  rw[List.getElem?_take_of_lt (by omega)]at this;rw[this,f9,List.getElem?_map,List.getElem?_eq_getElem hj'];rfl
 have hg:l.toArray[j]! =l[j]:=by simp[hj']
 rw[hg];refine⟨?_,?_⟩
 ·simp only[World.cell?,Nat.zero_add,h1'];rw[Array.getElem?_toList]at hc;simp[hc]
 ·simp[World.frozen?,h1']
theorem b3X (a:Option Nat) (n cap:Nat) (l:List Int) (hl':l.length=n) (hn:n<=1000000):Fn Tryz.prog 124 [slv a n cap] [c9 3 1 a n cap (f9 l)]
  (λv As=>v= .tuple #[]/\As=[c9 3 1 a n cap (f9 (I3 l))]):=by
 cases a with
 | none=>
  intro F w s;have h0:n=0:=(s.get (i:=1) rfl).2.1;subst h0;have:l=[]:=List.eq_nil_of_length_eq_zero hl';subst this;have e:I3 []=R5 []:=by rw[I3,List.mergeSort_nil];rfl
  rw[e];exact a2S none 0 cap [] rfl (by omega) F w s
 | some g=>
  intro F w s;have ho:J3 3 1 (some g) n cap (f9 l) (hl w):=s.get (i:=1) rfl;have hH:=b0V hl' ho;obtain⟨h0,cur,h1,h2,h3,h4,h5⟩:=ho;have h1':w.heap[g]? =some (.cells cur 3 (0,0)):=h1;have hlt:g<w.heap.size:=(Array.getElem?_eq_some_iff.1 h1').1;have hc:=Any.slices_Sort_int b2N g 0 cap l w hH hlt (by omega);subst hl';refine Calls.mono hc λe w' ⟨e1,m,os,e2⟩=>?_;subst e1;have hsz:w.heap.size<=w'.heap.size:=by rw[e2];simp[Go.Sort.grow]
  have hother:∀k,k<w.heap.size->some k≠some g->w'.heap[k]? =w.heap[k]?:=λk hk hne=>by
   rw[e2];have:g≠k:=λe=>hne (by rw[e]);show(w.heap.modify g (Go.Sort.onCells (Go.Sort.putCells (Value.int .i64) 0 (I3 l).toArray))++os)[k]? =_;rw[Array.getElem?_append_left (by rw[Array.size_modify];exact hk),Array.getElem?_modify,if_neg this]
  have hthis:w'.heap[g]? =some (.cells (Go.Sort.putCells (Value.int .i64) 0 (I3 l).toArray cur) 3 (0,0)):=by
   rw[e2];show(w.heap.modify g (Go.Sort.onCells (Go.Sort.putCells (Value.int .i64) 0 (I3 l).toArray))++os)[g]? =_;rw[Array.getElem?_append_left (by rw[Array.size_modify];exact hlt),Array.getElem?_modify,if_pos rfl,h1'];rfl
  have hgr:w.grownBy w' (some g):=⟨by rw[e2];rfl,by rw[e2];rfl,by rw[e2];rfl,hsz,hother⟩;refine⟨.tuple #[],_,rfl,⟨rfl,rfl⟩,?_,⟨hgr.os,hgr.tape,hgr.output,hsz⟩⟩;refine Sep.step s (i:=1) (A:=c9 3 1 (some g) l.length cap (f9 l)) rfl (x:=some g) (x':=some g) (λh g' hs e=>?_) hgr (.inl rfl) (λh hh=>?_)
  ·injection e with e;subst e;obtain⟨_,cur',q,_⟩:=hs;exact⟨_,q⟩
  ·refine⟨by rw[f9,List.length_map,R8,Nat.mul_one],_,(hh g rfl).trans hthis,h2,h3,?_,?_⟩
   ·rw[Go.Sort.putCells,Array.size_mapIdx];exact h4
   ·apply List.ext_getElem?;intro i;rw[Nat.mul_one,List.getElem?_take];split
    ·rename_i hi;have hi2:i<(I3 l).length:=by rw[R8];exact hi
     rw[Array.getElem?_toList,Go.Sort.putCells,Array.getElem?_mapIdx,Array.getElem?_eq_getElem (by omega),Option.map_some,if_pos ⟨Nat.zero_le _,by simpa using hi2⟩,f9,List.getElem?_map,List.getElem?_eq_getElem hi2];simp[hi2]
    ·rw[List.getElem?_eq_none (by rw[f9,List.length_map,R8];omega)]
end Go.Proofs.YtnffkcabeecopaaGreat
namespace Go.Proofs.YtnffkcabeecopaaGreat
structure Scd where
 tb:Tb
 torn:List En
 first:Nat
 held:List Int
 next:Int
 pages:Nat
structure Sst where
 tb:Tb
 torn:List En
 held:List Int
 others:List En
namespace V
def nextOf (l:List Fnd):Int:=l.foldl (λm f=>max m (f.en.seq+1)) 1
def step (N:Nand) (L:List Fnd) (s:Sst) (k:Nat):Sst:=
 if(standOf (of L k)).2=true then
  if(standOf (of L k)).1.whole=true then {s with tb:=s.tb.put (standOf (of L k)).1.en (standOf (of L k)).1.block (standOf (of L k)).1.row (standOf (of L k)).1.slot (standOf (of L k)).1.mask}
  else if last N (standOf (of L k)).1=true then⟨s.tb.put (standOf (of L k)).1.en (standOf (of L k)).1.block (standOf (of L k)).1.row (standOf (of L k)).1.slot (standOf (of L k)).1.mask,s.torn++[(standOf (of L k)).1.en],s.held++holds (of L k),s.others⟩
  else⟨s.tb.put (standOf (of L k)).1.en (standOf (of L k)).1.block (standOf (of L k)).1.row (standOf (of L k)).1.slot (standOf (of L k)).1.mask,s.torn,s.held,s.others++[(standOf (of L k)).1.en]⟩
 else s
def goS (N:Nand) (L:List Fnd) (n:Int) (k:Nat):Sst:=(List.range k).foldl (step N L) ⟨Tb.new n,[],[],[]⟩
def size (n:Int):Nat:=(min (max n 0) 65536).toNat
def scanOf (N:Nand) (L:List Fnd) (n:Int):Scd:=⟨(goS N L n (size n)).tb,(goS N L n (size n)).torn++(goS N L n (size n)).others,(goS N L n (size n)).torn.length,o0 (I3 (goS N L n (size n)).held),nextOf L,L.length⟩
def scan (N:Nand) (n:Int):Scd:=scanOf N (all N) n
theorem goS_succ (N:Nand) (L:List Fnd) (n:Int) (k:Nat):goS N L n (k+1)=step N L (goS N L n k) k:=by unfold goS;rw[List.range_succ,List.foldl_append];rfl
theorem step_tb (N:Nand) (L:List Fnd) (s:Sst) (k:Nat):(step N L s k).tb=s.tb\/(standOf (of L k)).2=true/\(step N L s k).tb=s.tb.put (standOf (of L k)).1.en (standOf (of L k)).1.block (standOf (of L k)).1.row (standOf (of L k)).1.slot (standOf (of L k)).1.mask:=by
 unfold step;split
 ·right;rename_i h;refine⟨h,?_⟩;split
  ·rfl
  ·split<;>rfl
 ·left;rfl
theorem goS_ok (N:Nand) (L:List Fnd) (n:Int):∀k,(goS N L n k).tb.Ok
 | 0=>Tb.Ok.new n
 | k+1=>by
  rw[goS_succ];rcases step_tb N L (goS N L n k) k with h | ⟨_,h⟩
  ·rw[h];exact goS_ok N L n k
  ·rw[h];exact(goS_ok N L n k).put _ _ _ _ _
theorem goS_log (N:Nand) (L:List Fnd) (n:Int):∀k,(goS N L n k).tb.logical=min (max n 0) 65536
 | 0=>rfl
 | k+1=>by
  rw[goS_succ];rcases step_tb N L (goS N L n k) k with h | ⟨_,h⟩
  ·rw[h];exact goS_log N L n k
  ·rw[h,Tb.put_logical];exact goS_log N L n k
theorem tops_mem {l:List Fnd} {f:Fnd}:f∈tops l->f∈l:=by
 have:∀k,k<=l.length->∀f∈tops (l.take k),f∈l:=by
  intro k
  induction k with
  | zero=>intro _ f hf;simp[tops]at hf
  | succ k ih=>
   intro hk f hf;rw[a1n (List.getElem?_eq_getElem (by omega))]at hf;have ih:=ih (by omega);have hx:l[k]∈l:=List.getElem_mem _
   revert hf ih
   generalize tops (l.take k)=o;intro hf ih;cases o with
   | nil=>simp[topsStep]at hf;rw[hf];exact hx
   | cons h t=>
    simp only[topsStep]at hf;split at hf
    ·simp at hf;rw[hf];exact hx
    ·split at hf
     ·exact ih f hf
     ·rw[List.mem_append]at hf;rcases hf with hf | hf
      ·exact ih f hf
      ·simp at hf;rw[hf];exact hx
 intro h;refine this l.length (Nat.le_refl _) f ?_
 rwa [List.take_length]
theorem standOf_mem {l:List Fnd} (h:(standOf l).2=true):(standOf l).1∈l:=by
 have hm:∀f,f∈tops l->f∈l:=λf=>tops_mem
 revert h
 unfold standOf;cases ht:tops l with
 | nil=>intro h;cases h
 | cons f o=>intro _;exact hm f (by rw[ht];exact List.mem_cons_self ..)
theorem of_len (L:List Fnd) (k:Int):(of L k).length<=L.length:=List.length_filter_le _ _
theorem holds_len (l:List Fnd):(holds l).length<=l.length:=by
 unfold holds;rw[List.length_map];exact Nat.le_trans (a2H _) (List.length_filter_le _ _)
theorem of_sum (L:List Fnd):∀k,((List.range k).map λi:Nat=>(of L (i:Int)).length).sum<=L.length:=by
 intro k
 induction L with
 | nil=>
  have:∀k:Nat,((List.range k).map λi:Nat=>(of [] (i:Int)).length).sum=0:=λk=>by
   induction k with
   | zero=>rfl
   | succ k ih=>rw[List.range_succ,List.map_append,List.sum_append,ih];rfl
  rw[this];exact Nat.zero_le _
 | cons x L ih=>
  have h1:∀i:Nat,(of (x::L) (i:Int)).length=(of L (i:Int)).length+(if x.en.lpn=(i:Int)then 1 else 0):=by
   intro i;unfold of;rw[List.filter_cons];split
   ·rename_i h;simp only[beq_iff_eq]at h;rw[if_pos h,List.length_cons]
   ·rename_i h;simp only[beq_iff_eq]at h;rw[if_neg h];rfl
  have h2:∀k,((List.range k).map λi:Nat=>(of (x::L) (i:Int)).length).sum<=((List.range k).map λi:Nat=>(of L (i:Int)).length).sum+(if 0<=x.en.lpn/\x.en.lpn<(k:Int)then 1 else 0):=by
   intro k
   induction k with
   | zero=>simp
   | succ k ih=>
    rw[List.range_succ,List.map_append,List.sum_append,List.map_append,List.sum_append];simp only[List.map_cons,List.map_nil,List.sum_cons,List.sum_nil,Nat.add_zero];rw[h1];split at ih<;>split<;>split<;>omega
  have:=h2 k;rw[List.length_cons];split at this<;>omega
theorem goS_len (N:Nand) (L:List Fnd) (n:Int):∀k,(goS N L n k).torn.length<=k/\(goS N L n k).others.length<=k/\(goS N L n k).held.length<=((List.range k).map λi:Nat=>(of L (i:Int)).length).sum
 | 0=>by simp[goS]
 | k+1=>by
  have ih:=goS_len N L n k;have hh:=holds_len (of L k);rw[goS_succ,List.range_succ,List.map_append,List.sum_append];simp only[List.map_cons,List.map_nil,List.sum_cons,List.sum_nil,Nat.add_zero];unfold step;split
  ·split
   ·dsimp only;omega
   ·split
    ·simp only[List.length_append,List.length_cons,List.length_nil];omega
    ·simp only[List.length_append,List.length_cons,List.length_nil];omega
  ·omega
theorem goS_held (N:Nand) (L:List Fnd) (n:Int) (k:Nat):(goS N L n k).held.length<=L.length:=Nat.le_trans (goS_len N L n k).2.2 (of_sum L k)
theorem nextOf_snoc (l:List Fnd) (f:Fnd):nextOf (l++[f])=max (nextOf l) (f.en.seq+1):=by unfold nextOf;rw[List.foldl_append];rfl
theorem of_snoc (l:List Fnd) (f:Fnd) (k:Int):of (l++[f]) k=if f.en.lpn=k then of l k++[f]else of l k:=by
 unfold of;rw[List.filter_append,List.filter_cons]
 by_cases h:f.en.lpn=k
 ·rw[if_pos h,if_pos (by simpa using h)];rfl
 ·rw[if_neg h,if_neg (by simpa using h)];simp
def upB (N:Nand) (b:Nat):List Fnd:=(List.range b).flatMap λb=>(List.range N.pages).flatMap λr=>R.all N (b:Nat) (r:Nat)
def upR (N:Nand) (b r:Nat):List Fnd:=upB N b++(List.range r).flatMap λr=>R.all N (b:Nat) (r:Nat)
def upI (N:Nand) (b r i:Nat):List Fnd:=upR N b r++(R.all N (b:Nat) (r:Nat)).take i
theorem upR_zero (N:Nand) (b:Nat):upR N b 0=upB N b:=by simp[upR]
theorem upI_zero (N:Nand) (b r:Nat):upI N b r 0=upR N b r:=by simp[upI]
theorem upR_succ (N:Nand) (b r:Nat):upR N b (r+1)=upI N b r (R.all N (b:Nat) (r:Nat)).length:=by
 unfold upI upR;rw[List.take_length,List.range_succ,List.flatMap_append,List.append_assoc];simp
theorem upB_succ (N:Nand) (b:Nat):upB N (b+1)=upR N b N.pages:=by
 unfold upR upB;rw[List.range_succ,List.flatMap_append];simp
theorem upB_all (N:Nand):upB N N.blocks=all N:=rfl
theorem upI_succ {N:Nand} {b r i:Nat} {x:Fnd} (h:(R.all N (b:Nat) (r:Nat))[i]? =some x):upI N b r (i+1)=upI N b r i++[x]:=by
 unfold upI;rw[List.take_add_one,h,Option.toList_some,List.append_assoc]
theorem nextOf_bd {l:List Fnd} (h:∀f∈l,a1I f.en):1<=nextOf l/\nextOf l<=1099511627776:=by
 have:∀(l:List Fnd) (m:Int),(∀f∈l,a1I f.en)->1<=m->m<=1099511627776->1<=l.foldl (λm f=>max m (f.en.seq+1)) m/\l.foldl (λm f=>max m (f.en.seq+1)) m<=1099511627776:=by
  intro l
  induction l with
  | nil=>intro m _ h1 h2;exact⟨h1,h2⟩
  | cons x l ih=>
   intro m hl h1 h2;have:=hl x (List.mem_cons_self ..);unfold a1I at this;exact ih (max m (x.en.seq+1)) (λf hf=>hl f (List.mem_cons_of_mem _ hf)) (by omega) (by omega)
 exact this l 1 h (by omega) (by omega)
end V
end Go.Proofs.YtnffkcabeecopaaGreat
namespace Go.Proofs.YtnffkcabeecopaaGreat
def a4Q (l:List Int):List Int:=o0 (I3 l)
theorem V3:∀(l:List Int) (p:Int),(p::l).Pairwise (· <= ·)->(t7 p l).Pairwise (· < ·)/\(∀c∈t7 p l,p<c)/\∀c,c∈t7 p l\/c=p↔c∈l\/c=p
 | [],p,_=>by simp[t7]
 | x::l,p,h=>by
  have h1:=List.pairwise_cons.1 h;simp only[t7]
  by_cases e:x=p
  ·subst e;obtain⟨a,b,c⟩:=V3 l x h1.2;rw[if_pos rfl];refine⟨a,b,λd=>?_⟩;rw[c d,List.mem_cons];constructor
   ·rintro(h | h)<;>simp[h]
   ·rintro((h | h) | h)<;>simp[h]
  ·obtain⟨a,b,c⟩:=V3 l x h1.2;have hx:p<x:=by have:=h1.1 x (List.mem_cons_self ..);omega
   rw[if_neg e];refine⟨List.pairwise_cons.2 ⟨b,a⟩,λd hd=>?_,λd=>?_⟩
   ·rcases List.mem_cons.1 hd with rfl | hd
    ·exact hx
    ·have:=b d hd;omega
   ·have:=c d;rw[List.mem_cons,List.mem_cons];constructor
    ·rintro((h | h) | h)
     ·simp[h]
     ·rcases this.1 (.inl h)with h | h<;>simp[h]
     ·simp[h]
    ·rintro((h | h) | h)
     ·simp[h]
     ·rcases this.2 (.inl h)with h | h<;>simp[h]
     ·simp[h]
theorem a5K (l:List Int):(I3 l).Pairwise (· <= ·):=by
 have:=List.pairwise_mergeSort (le:=leI) (λa b c h1 h2=>by simp only[leI,decide_eq_true_eq]at*;omega) (λa b=>by simp only[leI,Bool.or_eq_true,decide_eq_true_eq];omega) l;exact this.imp (λh=>by simpa[leI]using h)
theorem b0g (l:List Int) (c:Int):c∈I3 l↔c∈l:=List.mem_mergeSort
theorem a8v (l:List Int):(a4Q l).Pairwise (· < ·)/\∀c,c∈a4Q l↔c∈l:=by
 have hs:=a5K l;have hm:=b0g l;unfold a4Q
 revert hs hm
 cases I3 l with
 | nil=>intro _ hm;exact⟨by simp[o0],λc=>by rw[<- hm c];simp[o0]⟩
 | cons x m=>
  intro hs hm;obtain⟨a,b,c⟩:=V3 m x hs;refine⟨List.pairwise_cons.2 ⟨b,a⟩,λd=>?_⟩;rw[<- hm d];show d∈x::t7 x m↔_;rw[List.mem_cons,List.mem_cons];have:=c d;constructor
  ·rintro(h | h)
   ·simp[h]
   ·rcases this.1 (.inl h)with h | h<;>simp[h]
  ·rintro(h | h)
   ·simp[h]
   ·rcases this.2 (.inl h)with h | h<;>simp[h]
theorem a4P:a4Q []=[]:=by have:=(a8v []).2;exact List.eq_nil_iff_forall_not_mem.2 (λc hc=>by simpa using(this c).1 hc)
theorem b0x (l:List Int):(a4Q l).length<=l.length:=by
 have h:∀(l:List Int),(o0 l).length<=l.length:=λl=>by
  have:∀(l:List Int) (p:Int),(t7 p l).length<=l.length:=λl=>by
   induction l with
   | nil=>intro p;simp[t7]
   | cons x l ih=>intro p;simp only[t7];split<;>simp only[List.length_cons]<;>have:=ih x<;>have:=ih p<;>omega
  cases l with
  | nil=>simp[o0]
  | cons x l=>have:=this l x;simp only[o0,List.length_cons];omega
 have:=h (I3 l);rw[R8]at this;exact this
namespace V
theorem standOf_nil:standOf []=(Fnd.zero,false):=rfl
end V
end Go.Proofs.YtnffkcabeecopaaGreat
namespace Go.Proofs.YtnffkcabeecopaaGreat
open Go
namespace Nand
variable {N N' N'' : Nand} {b : Nat}
end Nand
theorem a8A {N:Nand} {d b r:Int} (h:(N.blk d.toNat b.toNat).cells.length<=r.toNat):(M.look N d b r).2=2\/(M.look N d b r).2=4:=by
 have hp:N.pageAt d b r=none:=List.getElem?_eq_none h;have hr:N.refuses d b r=0\/N.refuses d b r=9\/N.refuses d b r=3\/N.refuses d b r=8:=by
  unfold Nand.refuses;split
  ·simp
  ·split
   ·simp
   ·split<;>simp
 have he:N.readE d b r=5\/N.readE d b r=9\/N.readE d b r=3\/N.readE d b r=8:=by
  unfold Nand.readE;rw[hp];rcases hr with e | e | e | e<;>rw[e]<;>simp
 unfold M.look;simp only;rcases he with e | e | e | e<;>rw[e]<;>simp
theorem b1m {N:Nand} {b r:Int} (h:∀d:Nat,(M.look N (d:Nat) b r).2≠1):R.all N b r=[]:=by
 have:(M.rowN N b r N.dies).filterMap M.maskOf=[]:=by
  refine List.filterMap_eq_nil_iff.2 λx hx=>?_;unfold M.rowN at hx;obtain⟨d,_,rfl⟩:=List.mem_map.1 hx;unfold M.maskOf;rw[if_neg (h d)]
 unfold R.all M.masks;rw[this];rfl
namespace V
end V
def u8 (x:Int):UInt8:=UInt8.ofNat (x % 256).toNat
namespace V
theorem look_put (t:Tb) (e:En) (b r s m:Int) (i:Int):Tb.look (t.put e b r s m).at_ i=if t.putB e=true/\i=e.lpn then some ⟨b,r,s,m,e.seq,e.role⟩else Tb.look t.at_ i:=by
 unfold Tb.put
 by_cases h:t.putB e=true
 ·rw[if_pos h];show Tb.look (Tb.put1 t.at_ e.lpn _) i=_;rw[Tb.look_put1]
  by_cases hi:i=e.lpn
  ·rw[if_pos hi,if_pos ⟨h,hi⟩]
  ·rw[if_neg hi,if_neg (λh=>hi h.2)]
 ·rw[if_neg h,if_neg (λh'=>h h'.1)]
end V
theorem a9q {l:List En} {next:Int} {n:Nat} {e:En} (h:e∈Dv.num l next n):(∃i,i<l.length/\i<n/\e={l.getD i En.zero with seq:=next+i})\/e=En.pad:=by
 simp only[Dv.num,List.mem_map,List.mem_range]at h;obtain⟨i,hi,rfl⟩:=h;unfold Dv.numAt;split
 ·rename_i h;exact .inl ⟨i,h,hi,rfl⟩
 ·exact .inr rfl
theorem b4P {l:List En} {next:Int} {n k:Nat} (hk:k<n):(Dv.num l next n).getD k En.zero=Dv.numAt l next k:=by
 unfold Dv.num;rw[List.getD_eq_getElem?_getD,List.getElem?_map,List.getElem?_range hk];rfl
theorem I7 {l:List En} {i:Nat} (h:i<l.length):l.getD i En.zero∈l:=by
 rw[List.getD_eq_getElem?_getD,List.getElem?_eq_getElem h];exact List.getElem_mem _
namespace Inv
variable {fd : Int} {S : Dv} {k m : Nat} {l : List En}
theorem opn (h:Inv fd S) (hl:S.left=true):Opn fd S:=by
 rcases h.op with e | e
 ·have:=Dv.left_spec hl;omega
 ·exact e
theorem rowIs (h:Inv fd S) (hO:S.Ok k m) (hl:S.left=true) (hf:∀e∈l,FitR e) (hn:¬S.next>1099511627775-(S.fit l:Int)+1):RowIs S.N S.op S.row S.mask (S.es l):=by
 have ho:=h.opn hl;have hs:=Dv.left_spec hl;have hg:=hO.gd.ok.bd16;have hx:=hO.next;obtain⟨m1,m2,m3,m4⟩:=ho.mask.slots hg.1;have hrow:=ho.row;have hblk:=ho.blk;refine⟨hg.1.2,ho.blk,⟨hrow.1,hs.2.1⟩,⟨m3,m4⟩,Dv.num_data (λe he=>(hf e he).len) _ _,?_⟩;unfold W.parB;have h1:decide (((S.es l).length:Int)=G.slots S.mask)=true:=by rw[Dv.es_len];exact decide_eq_true (by omega)
 have h2:(!(S.es l).isEmpty)=true:=by
  cases he:S.es l with
  | nil=>have:=Dv.es_len S l;rw[he]at this;simp at this;omega
  | cons x y=>rfl
 rw[h1,h2,Bool.true_and,Bool.true_and,List.all_eq_true];intro e he;rcases a9q he with⟨i,hi,hin,rfl⟩ | rfl
 ·have hfe:=hf _ (I7 hi);refine b5I ⟨hblk.1,by omega⟩ ⟨hrow.1,by omega⟩ m2 ⟨?_,?_⟩ (.inl ⟨hfe.lpn,hfe.role,hfe.len⟩)
  ·show 0<=S.next+(i:Int);omega
  ·show S.next+(i:Int)<=1099511627775;have:i<S.fit l:=by unfold Dv.fit;omega
   omega
 ·exact b5I ⟨hblk.1,by omega⟩ ⟨hrow.1,by omega⟩ m2 ⟨by decide,by decide⟩ (.inr rfl)
theorem fails_no (h:Inv fd S) {b r:Int} {d:Nat} (hd:(d:Int)≠fd):S.N.failB b r d=false/\S.N.fails d b r=false:=by
 have e1:=h.dead d hd;have e2:=(h.flags d b.toNat hd).1;have e3:S.N.fails d b r=false:=by
  unfold Nand.fails;rw[Int.toNat_natCast,e2,Bool.or_false];refine decide_eq_false λhm=>?_;exact hd (h.plan _ hm)
 refine⟨?_,e3⟩;unfold Nand.failB;rw[e3,Bool.or_false,Int.toNat_natCast,e1]
structure Turn (fd:Int) (S:Dv) (l:List En):Prop where
 inv:Inv fd (S.wrote l)
 full:Full fd (S.wrote l).N S.op S.row S.mask (S.es l)
 err:(S.wr l).2.2=if(S.wr l).2.1=0 then 0 else 7
 set:L.set (S.wr l).2.1=true
 only:∀d:Int,L.has (S.wr l).2.1 d=true->d=fd/\L.has S.mask fd=true
 fail:∀d:Nat,L.has S.mask (d:Nat)=true->L.has (S.wr l).2.1 (d:Nat)=S.N.failB S.op S.row d
 dead:(S.wrote l).N.dead=S.N.dead
 broken:(S.wrote l).N.broken=S.N.broken
 like:S.N.Like (S.wrote l).N
 plan:∀a∈(S.wrote l).N.plan,a∈S.N.plan
 rest:∀i j,j≠S.op.toNat->(S.wrote l).N.blk i j=S.N.blk i j
 flags:∀i j,((S.wrote l).N.blk i j).met=(S.N.blk i j).met/\((S.wrote l).N.blk i j).fails=(S.N.blk i j).fails/\((S.wrote l).N.blk i j).worn=(S.N.blk i j).worn
 ops:(S.wrote l).N.ops=S.N.ops+(((R.job S.op S.row S.mask (S.es l)).filter λx=>!S.N.dead.getD x.1.toNat false).length:Int)
theorem turn (h:Inv fd S) (hO:S.Ok k m) (hl:S.left=true) (hf:∀e∈l,FitR e) (hn:¬S.next>1099511627775-(S.fit l:Int)+1):Turn fd S l:=by
 have ho:=h.opn hl;have hs:=Dv.left_spec hl;have hg:=hO.gd.ok.bd16;have hR:=h.rowIs hO hl hf hn;have hrdy:RdyW S.N S.op S.row S.mask:=⟨h.lit,λd hd ha=>(ho.cells d hd).2 ha⟩;have hq:=hrdy.rdy hR;obtain⟨w1,w2,w3⟩:=a5E hrdy hR;have hin:=hR.inn;have hq8:∀x∈R.job S.op S.row S.mask (S.es l),0<=x.1/\x.1<8:=λx hx=>by have:=hin x hx;omega
 obtain⟨f1,f2⟩:=a1C (N:=S.N) (b:=S.op) (r:=S.row) _ 0 (by decide) hq8;have w3:WroteR S.N (S.wrote l).N S.op S.row (R.job S.op S.row S.mask (S.es l)):=w3;have w1:(S.wr l).2.1=G9 S.N S.op S.row (R.job S.op S.row S.mask (S.es l)) 0:=w1;have w2:(S.wr l).2.2=if G9 S.N S.op S.row (R.job S.op S.row S.mask (S.es l)) 0=0 then 0 else 7:=w2
 have hfail:∀d:Nat,L.has S.mask (d:Nat)=true->L.has (S.wr l).2.1 (d:Nat)=S.N.failB S.op S.row d:=λd hd=>by
  rw[w1,f2,L.has_zero,Bool.false_or,Bool.eq_iff_iff,List.any_eq_true];constructor
  ·rintro⟨x,hx,hh⟩;simp only[Bool.and_eq_true,decide_eq_true_eq]at hh;rw[<- hh.1];exact hh.2
  ·intro hh;obtain⟨x,hx,hxd⟩:=hR.on hd;exact⟨x,hx,by rw[hxd,hh];simp⟩
 have honly:∀d:Int,L.has (S.wr l).2.1 d=true->d=fd/\L.has S.mask fd=true:=λd hd=>by
  rw[w1,f2,L.has_zero,Bool.false_or,List.any_eq_true]at hd;obtain⟨x,hx,hh⟩:=hd;simp only[Bool.and_eq_true,decide_eq_true_eq]at hh;have hxi:=hin x hx;obtain⟨e,he⟩:=Int.eq_ofNat_of_zero_le hxi.1
  by_cases hne:(e:Int)=fd
  ·rw[<- hne,<- he];exact⟨hh.1.symm,hxi.2.2⟩
  ·have:=(h.fails_no (b:=S.op) (r:=S.row) hne).1;rw[<- he,hh.2]at this;cases this
 have hrow:=ho.row;have hblk:=ho.blk;have hcells:∀d:Nat,L.has S.mask (d:Nat)=true->(((S.wrote l).N.blk d S.op.toNat).cells.length:Int)<=S.row+1/\(S.N.dead.getD d false=false->(((S.wrote l).N.blk d S.op.toNat).cells.length:Int)=S.row+1):=λd hd=>by
  obtain⟨x,hx,hxd⟩:=hR.on hd;have hc:=w3.cells x hx;have ho2:=ho.cells d hd;rw[hxd,Int.toNat_natCast]at hc;rw[hc];cases hdd:S.N.dead.getD d false with
  | true=>rw[if_pos rfl];exact⟨by omega,λe=>by cases e⟩
  | false=>
   rw[if_neg Bool.false_ne_true,List.length_append];have:=ho2.2 hdd;simp only[List.length_cons,List.length_nil];exact⟨by omega,λ_=>by omega⟩
 have hfull:Full fd (S.wrote l).N S.op S.row S.mask (S.es l):=by
  refine⟨hR.like w3.like,λx hx hne=>?_,λx hx c hc=>?_⟩
  ·have hxi:=hin x hx;obtain⟨e,he⟩:=Int.eq_ofNat_of_zero_le hxi.1;have hc:=w3.cells x hx;have hne':(e:Int)≠fd:=by rw[<- he];exact hne
   have hxm:=hxi.2.2;rw[he]at hxm;have hlen:=(ho.cells e hxm).2 (h.dead e hne');rw[he,Int.toNat_natCast,h.dead e hne',if_neg Bool.false_ne_true,(h.fails_no (b:=S.op) (r:=S.row) hne').2]at hc;refine⟨false,?_⟩;unfold Nand.pageAt;rw[he,Int.toNat_natCast,hc,List.getElem?_append_right (by omega),show S.row.toNat-(S.N.blk e S.op.toNat).cells.length=0 from by omega];rfl
  ·have hxi:=hin x hx;obtain⟨e,he⟩:=Int.eq_ofNat_of_zero_le hxi.1;have hxm:=hxi.2.2;have hcc:=w3.cells x hx;unfold Nand.pageAt at hc;rw[hcc]at hc;rw[he]at hxm;have hlen:=ho.cells e hxm;rw[he,Int.toNat_natCast]at hc;cases hdd:S.N.dead.getD e false with
   | true=>
    rw[hdd,if_pos rfl,List.getElem?_eq_none (by omega)]at hc;cases hc
   | false=>
    have:=hlen.2 hdd;rw[hdd,if_neg Bool.false_ne_true,List.getElem?_append_right (by omega),show S.row.toNat-(S.N.blk e S.op.toNat).cells.length=0 from by omega]at hc;simp only[List.getElem?_cons_zero,Option.some.injEq]at hc;subst hc;exact .inr (.inl rfl)
 refine⟨⟨w3.lit,λi hi=>by rw[w3.dead];exact h.dead i hi,λa ha=>h.plan a (w3.plan a ha),λi j hi=>by have:=w3.flags i j;rw[this.1,this.2.1];exact h.flags i j hi,h.tdead,h.tbad, .inr ⟨by rw[show(S.wrote l).N.blocks=S.N.blocks from w3.like.blocks];exact ho.blk,ho.used,by rw[show(S.wrote l).N.pages=S.N.pages from w3.like.pages];show 0<=S.row+1/\S.row+1<=_;omega,by rw[show(S.wrote l).N.dies=S.N.dies from w3.like.dies];exact ho.mask,λd hd=>by rw[w3.dead];exact hcells d hd⟩,λb hb hu d hd=>?_,λi a ha=>?_⟩,hfull,by rw[w2,w1],by rw[w1];exact f1,honly,hfail,w3.dead,w3.broken,w3.like,w3.plan,λi j hj=>w3.rest i j (.inl hj),w3.flags,w3.ops⟩
 ·have hbi:=Tl.has_iff.1 hb;have hne:b≠S.op:=λe=>by rw[e]at hu;have:=ho.used;rw[show(S.wrote l).t=S.t from rfl]at hu;rw[hu]at this;cases this
  rw[w3.rest _ _ (.inl (by omega))];exact h.blank b hb hu d hd
 ·have hst:=h.st i a ha;obtain⟨lr,g1,g2,g3,g4,g5,g6⟩:=hst.row;refine⟨⟨lr,g1.keep w3.like λx hx=>w3.page hq (g1.is.inn x hx).1 g1.is.blk.1 g1.is.row.1 (λe=>by have:=hst.below e;omega),g2,g3,g4,g5,g6⟩,hst.used,λe=>by have:=hst.below e;show a.row<S.row+1;omega,?_⟩;have:=hst.seq;show 1<=a.seq/\a.seq<S.next+(S.fit l:Int);omega
theorem put (h:Inv fd S) {b r mk:Int} {es:List En} (hfull:Full fd S.N b r mk es) (hu:(S.t.at_ b).used=true) (hbel:b=S.op->r<S.row) {n:Nat} (hn:n<es.length) (hs:1<=(es.getD n En.zero).seq/\(es.getD n En.zero).seq<S.next):Inv fd {S with T:=S.T.put (es.getD n En.zero) b r n mk}:=by
 refine⟨h.lit,h.dead,h.plan,h.flags,h.tdead,h.tbad,?_,h.blank,λi a ha=>?_⟩
 ·rcases h.op with e | e
  ·exact .inl e
  ·exact .inr ⟨e.blk,e.used,e.row,e.mask,e.cells⟩
 ·have ha:Tb.look (S.T.put (es.getD n En.zero) b r n mk).at_ i=some a:=ha;rw[V.look_put]at ha;split at ha
  ·rename_i hc;injection ha with ha;subst ha;refine⟨⟨es,hfull,Int.natCast_nonneg n,by show((n:Nat):Int).toNat<_;omega,by show(es.getD ((n:Nat):Int).toNat En.zero).lpn=i;rw[Int.toNat_natCast];exact hc.2.symm,by show(es.getD ((n:Nat):Int).toNat En.zero).seq=_;rw[Int.toNat_natCast],by show(es.getD ((n:Nat):Int).toNat En.zero).role=_;rw[Int.toNat_natCast]⟩,hu,hbel,hs⟩
  ·have:=h.st i a ha;exact⟨this.row,this.used,this.below,this.seq⟩
theorem puts (h:Inv fd S) {b r mk:Int} {es:List En} (hfull:Full fd S.N b r mk es) (hu:(S.t.at_ b).used=true) (hbel:b=S.op->r<S.row) (T:Tb) (hT:S.T=T):∀n,n<=es.length->(∀i,i<n->1<=(es.getD i En.zero).seq/\(es.getD i En.zero).seq<S.next)->Inv fd {S with T:=Dv.puts T b r mk es n}
 | 0,_,_=>by subst hT;exact h
 | n+1,hn,hs=>by
  have ih:=h.puts hfull hu hbel T hT n (by omega) λi hi=>hs i (by omega);rw[Dv.puts_succ];exact put (S:={S with T:=Dv.puts T b r mk es n}) ih hfull hu hbel (by omega) (hs n (by omega))
theorem lose (h:Inv fd S) (hF:S.t.Fit S.N) (hD:S.N.dies<=6) {f:Int} {d:Nat} (hd:d<8) (hf:L.has f (d:Nat)=true->(d:Int)=fd):Inv fd (Dv.lose f S d):=by
 unfold Dv.lose;split
 ·rename_i hh;have hfd:=hf hh;obtain⟨e1,e2,e3⟩:∃t',(if S.N.deadAt d then S.t.die d else S.t.bad d S.op)=t'/\True:=⟨_,rfl,trivial⟩;have key:∀t':Tl,(t'=S.t.die d\/t'=S.t.bad d S.op)->(∀b,t'.has b=S.t.has b)/\t'.d=S.t.d/\(∀b,S.t.has b=true->(t'.at_ b).used=(S.t.at_ b).used)/\(L.set t'.dead=true/\∀d:Int,L.has t'.dead d=true->d=fd)/\(∀b,S.t.has b=true->L.set (t'.at_ b).bad=true/\∀d:Int,L.has (t'.at_ b).bad d=true->d=fd)/\(∀b,S.t.has b=true->∀e:Int,L.has (t'.mask b) e=true->L.has (S.t.mask b) e=true):=by
   intro t' ht;have hSd:S.t.d<=8:=by have:=hF.d;omega
   have h0:∀b,S.t.has b=true->L.set (S.t.mask b)=true/\∀e:Int,L.has (S.t.mask b) e=((decide (0<=e)&&decide (e<S.t.d))&& !L.has S.t.dead e&& !L.has (S.t.at_ b).bad e):=λb hb=>A5 hSd hb h.tdead.1 (h.tbad b hb).1;rcases ht with rfl | rfl
   ·unfold Tl.die;split
    ·have hw:=L.set_with h.tdead.1 (d:=(d:Int)) (by omega);have hwh:=L.with_has h.tdead.1 (d:=(d:Int)) (by omega);refine⟨λb=>rfl,rfl,λb hb=>rfl,⟨hw,λe he=>?_⟩,h.tbad,λb hb e he=>?_⟩
     ·have he:L.has (L.with_ S.t.dead (d:Int)) e=true:=he;rw[hwh]at he;rcases Bool.or_eq_true _ _▸he with he | he
      ·exact h.tdead.2 e he
      ·simp only[decide_eq_true_eq]at he;omega
     ·have hm:=(A5 (t:=⟨S.t.d,S.t.b,S.t.p,S.t.l,L.with_ S.t.dead d⟩) (b:=b) hSd hb hw (h.tbad b hb).1).2 e;rw[hm]at he;rw[(h0 b hb).2 e];simp only[Bool.and_eq_true,Bool.not_eq_true']at he ⊢;refine⟨⟨he.1.1,?_⟩,he.2⟩;have he2:=he.1.2;rw[hwh]at he2;exact(Bool.or_eq_false_iff.1 he2).1
    ·exact⟨λb=>rfl,rfl,λb hb=>rfl,h.tdead,h.tbad,λb hb e he=>he⟩
   ·unfold Tl.bad;split
    ·cases hop:S.t.has S.op with
     | false=>
      rw[Tl.set_no _ hop];exact⟨λb=>rfl,rfl,λb hb=>rfl,h.tdead,h.tbad,λb hb e he=>he⟩
     | true=>
      have hb0:=h.tbad S.op hop;have hw:=L.set_with hb0.1 (d:=(d:Int)) (by omega);have hwh:=L.with_has hb0.1 (d:=(d:Int)) (by omega);have hbad:∀b,S.t.has b=true->L.set ((S.t.set S.op {S.t.at_ S.op with bad:=L.with_ (S.t.at_ S.op).bad d}).at_ b).bad=true/\(∀e:Int,L.has ((S.t.set S.op {S.t.at_ S.op with bad:=L.with_ (S.t.at_ S.op).bad d}).at_ b).bad e=true->e=fd)/\(∀e:Int,L.has (S.t.at_ b).bad e=true->L.has ((S.t.set S.op {S.t.at_ S.op with bad:=L.with_ (S.t.at_ S.op).bad d}).at_ b).bad e=true):=λb hb=>by
       rw[Tl.at_set hF.len _ hop hb];split
       ·rename_i e;subst e;dsimp only;refine⟨hw,λe he=>?_,λe he=>?_⟩
        ·rw[hwh]at he;rcases Bool.or_eq_true _ _▸he with he | he
         ·exact hb0.2 e he
         ·simp only[decide_eq_true_eq]at he;omega
        ·rw[hwh,he];rfl
       ·exact⟨(h.tbad b hb).1,(h.tbad b hb).2,λe he=>he⟩
      refine⟨λb=>Tl.has_set _ _ _ _,Tl.set_d _ _ _,λb hb=>?_,by rw[Tl.set_dead];exact h.tdead,λb hb=>⟨(hbad b hb).1,(hbad b hb).2.1⟩,λb hb e he=>?_⟩
      ·rw[Tl.at_set hF.len _ hop hb];split
       ·rename_i e;rw[e]
       ·rfl
      ·have hm:=(A5 (t:=S.t.set S.op {S.t.at_ S.op with bad:=L.with_ (S.t.at_ S.op).bad d}) (b:=b) (by rw[Tl.set_d];exact hSd) (by rw[Tl.has_set];exact hb) (by rw[Tl.set_dead];exact h.tdead.1) (hbad b hb).1).2 e;rw[hm,Tl.set_d,Tl.set_dead]at he;rw[(h0 b hb).2 e];simp only[Bool.and_eq_true,Bool.not_eq_true']at he ⊢;refine⟨he.1,?_⟩;cases hx:L.has (S.t.at_ b).bad e with
       | false=>rfl
       | true=>rw[(hbad b hb).2.2 e hx]at he;exact absurd he.2 (by decide)
    ·exact⟨λb=>rfl,rfl,λb hb=>rfl,h.tdead,h.tbad,λb hb e he=>he⟩
  have ht':(if S.N.deadAt d then S.t.die d else S.t.bad d S.op)=S.t.die d\/(if S.N.deadAt d then S.t.die d else S.t.bad d S.op)=S.t.bad d S.op:=by split<;>simp
  obtain⟨k1,k2,k3,k4,k5,k6⟩:=key _ ht';refine⟨h.lit,h.dead,h.plan,h.flags,k4,λb hb=>k5 b (by rw[<- k1];exact hb),?_,λb hb hu e he=>?_,λi a ha=>?_⟩
  ·rcases h.op with e | e
   ·exact .inl e
   ·right;have hhas:S.t.has S.op=true:=Tl.has_iff.2 (by have:=e.blk;have:=hF.b;omega);have hms:=e.mask;have hwo:=L.without_has hms.set (d:=(d:Int)) (by omega);refine⟨e.blk,by show(Tl.at_ _ S.op).used=true;rw[k3 _ hhas];exact e.used,e.row,⟨L.set_without hms.set (by omega),λx hx=>?_,λx hx hne=>?_⟩,λx hx=>?_⟩
    ·rw[hwo]at hx;simp only[Bool.and_eq_true]at hx;exact hms.lt x hx.1
    ·rw[hwo,hms.all x hx hne];simp;omega
    ·have hx:L.has (L.without S.mask (d:Int)) (x:Nat)=true:=hx;rw[hwo]at hx;simp only[Bool.and_eq_true]at hx;exact e.cells x hx.1
  ·have hb':S.t.has b=true:=by rw[<- k1];exact hb
   exact h.blank b hb' (by rw[<- k3 b hb'];exact hu) e (k6 b hb' _ he)
  ·have hst:=h.st i a ha;have hhas:S.t.has a.block=true:=by
    obtain⟨lr,g1,_⟩:=hst.row;have:=g1.is.blk;have:=hF.b;exact Tl.has_iff.2 (by omega)
   exact⟨hst.row,by show(Tl.at_ _ a.block).used=true;rw[k3 _ hhas];exact hst.used,hst.below,hst.seq⟩
 ·exact h
theorem loses_q {f:Int} (hf:∀d:Nat,L.has f (d:Nat)=true->(d:Int)=fd):∀(q:List Nat) (S:Dv),Inv fd S->S.t.Fit S.N->S.N.dies<=6->(∀d∈q,d<8)->Inv fd (q.foldl (Dv.lose f) S)
 | [],S,h,_,_,_=>h
 | d::q,S,h,hF,hD,hq=>by
  rw[List.foldl_cons];have hN:=(Dv.lose_N f S d).1;exact loses_q hf q _ (h.lose hF hD (hq d (by simp)) (hf d)) (by rw[hN];exact(Dv.lose_t f S d hF).1) (by rw[hN];exact hD) λe he=>hq e (by simp[he])
theorem loses (h:Inv fd S) (hO:S.Ok k m) {f:Int} (hf:∀d:Nat,L.has f (d:Nat)=true->(d:Int)=fd):Inv fd (S.loses f):=by
 have hg:=hO.gd.ok.bd16;exact loses_q hf _ S h hO.t hg.1.2 λd hd=>by have:=List.mem_range.1 hd;omega
end Inv
def Dv.rows (S:Dv):Nat:=S.N.pages*S.t.blanks+(if S.op>=0 then(S.N.pages-S.row).toNat else 0)
structure NoF (S:Dv):Prop where
 dead:∀i:Nat,S.N.dead.getD i false=false
 plan:S.N.plan=[]
 met:∀i j:Nat,(S.N.blk i j).met=false
theorem NoF.fails {S:Dv} (h:NoF S) (b r:Int) (d:Nat):S.N.failB b r d=false:=by
 unfold Nand.failB Nand.fails;rw[Int.toNat_natCast,h.dead,h.plan,h.met];rfl
structure Went (fd:Int) (S Q:Dv) (β:Nat):Prop where
 inv:Inv fd Q
 T:Q.T=S.T
 next:S.next<=Q.next/\Q.next<=S.next+7*(β:Int)
 dead:Q.N.dead=S.N.dead
 broken:Q.N.broken=S.N.broken
 like:S.N.Like Q.N
 plan:∀a∈Q.N.plan,a∈S.N.plan
 flags:∀i j,(Q.N.blk i j).met=(S.N.blk i j).met/\(Q.N.blk i j).fails=(S.N.blk i j).fails/\(Q.N.blk i j).worn=(S.N.blk i j).worn
 rows:Q.rows+β=S.rows
 reads:∀i a,Std fd S i a->R.read Q.N a.block a.row a.slot a.mask=R.read S.N a.block a.row a.slot a.mask
 stay:∀i a,Std fd S i a->Std fd Q i a
 sb:∀b,S.t.has b=true->(Q.t.at_ b).wear=(S.t.at_ b).wear/\(Q.t.at_ b).held=(S.t.at_ b).held/\((S.t.at_ b).used=true->(Q.t.at_ b).used=true)
 td:∀d:Int,L.has S.t.dead d=true->L.has Q.t.dead d=true
namespace Dv
theorem at_dead (S:Dv) (f:Int) (d:Nat):(∀b,(lose f S d).t.has b=S.t.has b):=by
 intro b;unfold lose;split
 ·dsimp only;split
  ·unfold Tl.die;split<;>rfl
  ·unfold Tl.bad;split
   ·exact Tl.has_set _ _ _ _
   ·rfl
 ·rfl
theorem lose_sb {S:Dv} (hF:S.t.Fit S.N) (hd6:S.t.d<=8) (hs:L.set S.t.dead=true) (f:Int) (d:Nat):(∀b,S.t.has b=true->((lose f S d).t.at_ b).wear=(S.t.at_ b).wear/\((lose f S d).t.at_ b).held=(S.t.at_ b).held/\((lose f S d).t.at_ b).used=(S.t.at_ b).used)/\L.set (lose f S d).t.dead=true/\(∀e:Int,L.has S.t.dead e=true->L.has (lose f S d).t.dead e=true)/\(lose f S d).t.d=S.t.d:=by
 unfold lose;split
 ·dsimp only;split
  ·unfold Tl.die;split
   ·rename_i hh;simp only[Tl.hasDie,Bool.and_eq_true,decide_eq_true_eq]at hh;refine⟨λb _=>⟨rfl,rfl,rfl⟩,L.set_with hs (by omega),λe he=>?_,rfl⟩;show L.has (L.with_ S.t.dead d) e=true;rw[L.with_has hs (by omega),he];rfl
   ·exact⟨λb _=>⟨rfl,rfl,rfl⟩,hs,λe he=>he,rfl⟩
  ·unfold Tl.bad;split
   ·cases hop:S.t.has S.op with
    | false=>rw[Tl.set_no _ hop];exact⟨λb _=>⟨rfl,rfl,rfl⟩,hs,λe he=>he,rfl⟩
    | true=>
     refine⟨λb hb=>?_,by rw[Tl.set_dead];exact hs,λe he=>by rw[Tl.set_dead];exact he,Tl.set_d _ _ _⟩;rw[Tl.at_set hF.len _ hop hb];split
     ·rename_i e;subst e;exact⟨rfl,rfl,rfl⟩
     ·exact⟨rfl,rfl,rfl⟩
   ·exact⟨λb _=>⟨rfl,rfl,rfl⟩,hs,λe he=>he,rfl⟩
 ·exact⟨λb _=>⟨rfl,rfl,rfl⟩,hs,λe he=>he,rfl⟩
theorem loses_sb {f:Int}:∀(q:List Nat) (S:Dv),S.t.Fit S.N->S.t.d<=8->L.set S.t.dead=true->(∀b,(q.foldl (lose f) S).t.has b=S.t.has b)/\(∀b,S.t.has b=true->((q.foldl (lose f) S).t.at_ b).wear=(S.t.at_ b).wear/\((q.foldl (lose f) S).t.at_ b).held=(S.t.at_ b).held/\((q.foldl (lose f) S).t.at_ b).used=(S.t.at_ b).used)/\(∀e:Int,L.has S.t.dead e=true->L.has (q.foldl (lose f) S).t.dead e=true)
 | [],S,_,_,_=>⟨λ_=>rfl,λ_ _=>⟨rfl,rfl,rfl⟩,λ_ h=>h⟩
 | d::q,S,hF,h8,hs=>by
  obtain⟨a1,a2,a3,a4⟩:=lose_sb hF h8 hs f d;have hN:=(lose_N f S d).1;have ih:=loses_sb (f:=f) q (lose f S d) (by rw[hN];exact(lose_t f S d hF).1) (by rw[a4];exact h8) a2;rw[List.foldl_cons];refine⟨λb=>by rw[ih.1,at_dead],λb hb=>?_,λe he=>ih.2.2 e (a3 e he)⟩;have:=ih.2.1 b (by rw[at_dead];exact hb);rw[this.1,this.2.1,this.2.2];exact a1 b hb
theorem lose_mask {S:Dv} {f:Int} {d:Nat} (hd:d<8) (hm:L.set S.mask=true):L.set (lose f S d).mask=true/\∀e:Int,L.has (lose f S d).mask e=(L.has S.mask e&& !(decide (e=d)&&L.has f (d:Nat))):=by
 unfold lose;cases h:L.has f (d:Nat)with
 | true=>
  rw[if_pos rfl];refine⟨L.set_without hm (by omega),λe=>?_⟩;show L.has (L.without S.mask (d:Int)) e=_;rw[L.without_has hm (by omega),Bool.and_true]
 | false=>rw[if_neg Bool.false_ne_true];exact⟨hm,λe=>by simp⟩
theorem loses_mask {f:Int}:∀(q:List Nat) (S:Dv),(∀d∈q,d<8)->L.set S.mask=true->L.set (q.foldl (lose f) S).mask=true/\∀e:Int,L.has (q.foldl (lose f) S).mask e=(L.has S.mask e&& !(q.any λd=>decide (e=(d:Nat))&&L.has f (d:Nat)))
 | [],S,_,hm=>⟨hm,λe=>by simp⟩
 | d::q,S,hq,hm=>by
  obtain⟨a1,a2⟩:=lose_mask (f:=f) (hq d (by simp)) hm;have ih:=loses_mask (f:=f) q (lose f S d) (λe he=>hq e (by simp[he])) a1;rw[List.foldl_cons];refine⟨ih.1,λe=>?_⟩;rw[ih.2,a2,List.any_cons,Bool.not_or,Bool.and_assoc]
end Dv
namespace Inv
variable {fd : Int} {S : Dv} {k m : Nat} {l : List En}
theorem std_same {S Q:Dv} (hN:Q.N=S.N) (hu:∀b,S.t.has b=true->(S.t.at_ b).used=true->(Q.t.at_ b).used=true) (hb:S.t.b=S.N.blocks) (hop:∀a:AtV,(a.block=S.op->a.row<S.row)->(a.block=Q.op->a.row<Q.row)\/(S.t.at_ a.block).used=false) (hn:S.next<=Q.next) {i:Int} {a:AtV} (h:Std fd S i a):Std fd Q i a:=by
 obtain⟨lr,g1,g2⟩:=h.row;have hhas:S.t.has a.block=true:=by
  have:=g1.is.blk;exact Tl.has_iff.2 (by omega)
 have hs:=h.seq;refine⟨⟨lr,by rw[hN];exact g1,g2⟩,hu _ hhas h.used,?_,by omega⟩;rcases hop a h.below with e | e
 ·exact e
 ·rw[h.used]at e;cases e
theorem opens (h:Inv fd S) (hO:S.Ok k m) (hl:S.left=false) (hp:¬S.pick<0):Went fd S S.opened 0/\S.opened.left=true/\S.opened.mask=S.t.mask S.pick:=by
 have hg:=hO.gd.ok.bd16;have hb:=hO.t.b;have hlen:=hO.t.len;rcases S.pick_spec with e | ⟨p1,p2,p3,p4⟩
 ·omega
 have hhas:S.t.has S.pick=true:=Tl.has_iff.2 ⟨p1,p2⟩;have hbl:=Dv.pick_blank hp;have hbl2:=Tl.blanks_open hlen hbl;have hunu:(S.t.at_ S.pick).used=false:=by simp only[Tl.blank,Bool.and_eq_true,Bool.not_eq_true']at hbl;exact hbl.2
 have hmk:∀j,(S.t.clean S.pick false).mask j=S.t.mask j:=λj=>Dv.mask_clean hlen _ _ _;have hmsk:=h.msk hO hhas;have hat:∀b,S.t.has b=true->(S.opened.t.at_ b)=if b=S.pick then {S.t.at_ S.pick with used:=true}else S.t.at_ b:=λb hb=>Tl.at_set hlen _ hhas hb
 have hleft:S.opened.left=true:=by
  have:=(hmsk.pos hg.1).1;unfold Dv.left;have e1:S.opened.op=S.pick:=rfl;have e2:S.opened.row=0:=rfl;have e3:S.opened.mask=S.t.mask S.pick:=hmk _;have e4:S.opened.N=S.N:=rfl;rw[e1,e2,e3,e4,decide_eq_true (by omega),decide_eq_true (by omega),decide_eq_true (by omega)];rfl
 have hdd:S.opened.t.dead=S.t.dead:=Tl.set_dead _ _ _;have hhs:∀b,S.opened.t.has b=S.t.has b:=λb=>Tl.has_set _ _ _ _;have hopn:Opn fd S.opened:=⟨⟨p1,by show S.pick<S.N.blocks;omega⟩,by show(S.opened.t.at_ S.pick).used=true;rw[hat _ hhas,if_pos rfl],by show(0:Int)<=0/\(0:Int)<=S.N.pages;omega,by show Msk S.N.dies fd (Tl.mask _ _);rw[hmk];exact hmsk,λd hd=>by
  have hd:L.has (Tl.mask (S.t.clean S.pick false) S.pick) (d:Nat)=true:=hd;rw[hmk]at hd;have:=h.blank S.pick hhas hunu d hd;show((S.N.blk d S.pick.toNat).cells.length:Int)<=0/\(_->((S.N.blk d S.pick.toNat).cells.length:Int)=0);rw[this];simp⟩
 have hrow0:S.op>=0->S.N.pages<=S.row:=λh0=>by
  rcases h.op with e | e
  ·omega
  ·have hps:=(e.mask.pos hg.1).1;cases hh:decide (S.row<S.N.pages)with
   | false=>have:=of_decide_eq_false hh;omega
   | true=>
    have:S.left=true:=by
     unfold Dv.left;rw[decide_eq_true h0,hh,decide_eq_true (by omega)];rfl
    rw[hl]at this;cases this
 have hstd:∀i a,Std fd S i a->Std fd S.opened i a:=λi a ha=>std_same (S:=S) (Q:=S.opened) rfl (λb hb hu=>by
   rw[hat b hb];split
   ·rfl
   ·exact hu) hb (λa _=>by
   by_cases e:a.block=S.pick
   ·right;rw[e];exact hunu
   ·left;intro e2;exact absurd e2 e) (Int.le_refl _) ha
 refine⟨⟨⟨h.lit,h.dead,h.plan,h.flags,by rw[hdd];exact h.tdead,λb hb=>?_, .inr hopn,λb hb hu d hd=>?_,λi a ha=>hstd i a (h.st i a ha)⟩,rfl,⟨Int.le_refl _,by show S.next<=S.next+_;omega⟩,rfl,rfl,Nand.Like.refl _,λ_ h=>h,λ_ _=>⟨rfl,rfl,rfl⟩,?_,λ_ _ _=>rfl,hstd,λb hb=>?_,λd hd=>by rw[hdd];exact hd⟩,hleft,hmk _⟩
 ·have hb':S.t.has b=true:=by rw[<- hhs];exact hb
  rw[hat b hb'];split
  ·rename_i e;subst e;exact h.tbad _ hhas
  ·exact h.tbad b hb'
 ·have hb':S.t.has b=true:=by rw[<- hhs];exact hb
  have hd:L.has (Tl.mask (S.t.clean S.pick false) b) (d:Nat)=true:=hd;rw[hmk]at hd;rw[hat b hb']at hu;split at hu
  ·cases hu
  ·exact h.blank b hb' hu d hd
 ·unfold Dv.rows;have e1:S.opened.t.blanks=(S.t.clean S.pick false).blanks:=rfl;have e2:S.opened.N.pages=S.N.pages:=rfl;have e3:S.opened.op=S.pick:=rfl;have e4:S.opened.row=0:=rfl;rw[e1,e2,e3,e4,if_pos (by omega)];have:S.N.pages*S.t.blanks=S.N.pages*(S.t.clean S.pick false).blanks+S.N.pages:=by rw[<- hbl2,Nat.mul_succ]
  rw[this]
  by_cases h0:S.op>=0
  ·have:=hrow0 h0;rw[if_pos h0];omega
  ·rw[if_neg h0];omega
 ·rw[hat b hb];split
  ·rename_i e;subst e;exact⟨rfl,rfl,λ_=>rfl⟩
  ·exact⟨rfl,rfl,λh=>h⟩
theorem turn_std (h:Inv fd S) (ht:Turn fd S l) (hO:S.Ok k m) (hl:S.left=true) (hf:∀e∈l,FitR e) (hn:¬S.next>1099511627775-(S.fit l:Int)+1) {i:Int} {a:AtV} (ha:Std fd S i a):Std fd (S.wrote l) i a/\R.read (S.wrote l).N a.block a.row a.slot a.mask=R.read S.N a.block a.row a.slot a.mask:=by
 have ho:=h.opn hl;have hR:=h.rowIs hO hl hf hn;have hrdy:RdyW S.N S.op S.row S.mask:=⟨h.lit,λd hd ha=>(ho.cells d hd).2 ha⟩;have hq:=hrdy.rdy hR;have w3:WroteR S.N (S.wrote l).N S.op S.row (R.job S.op S.row S.mask (S.es l)):=(a5E hrdy hR).2.2;obtain⟨lr,g1,g2,g3,g4,g5,g6⟩:=ha.row;have hk:Full fd (S.wrote l).N a.block a.row a.mask lr:=g1.keep w3.like λx hx=>w3.page hq (g1.is.inn x hx).1 g1.is.blk.1 g1.is.row.1 (λe=>by have:=ha.below e;omega);have hs:=ha.seq;refine⟨⟨⟨lr,hk,g2,g3,g4,g5,g6⟩,ha.used,λe=>by have:=ha.below e;show a.row<S.row+1;omega,by show 1<=a.seq/\a.seq<S.next+(S.fit l:Int);omega⟩,?_⟩;have r1:=hk.read ht.inv.lit.off ht.inv.dead g3;have r2:=g1.read h.lit.off h.dead g3;rw[show((a.slot.toNat:Nat):Int)=a.slot from by omega]at r1 r2;rw[r1,r2]
theorem burn (h:Inv fd S) (hO:S.Ok (8+k) m) (hl:S.left=true) (hf:∀e∈l,FitR e) (hn:¬S.next>1099511627775-(S.fit l:Int)+1) (hb:(S.wr l).2.1≠0):Went fd S ((S.wrote l).loses (S.wr l).2.1) 1/\L.has ((S.wrote l).loses (S.wr l).2.1).mask fd=false/\L.has S.mask fd=true/\((S.wrote l).loses (S.wr l).2.1).row=S.row+1/\((S.wrote l).loses (S.wr l).2.1).op=S.op/\S.N.failB S.op S.row fd=true/\∀d:Int,L.has ((S.wrote l).loses (S.wr l).2.1).mask d=true->L.has S.mask d=true:=by
 have hg:=hO.gd.ok.bd16;have ho:=h.opn hl;have hs:=Dv.left_spec hl;have ht:=h.turn hO hl hf hn;have hd:∀s∈l,s.data.length=16:=λe he=>(hf e he).len;have hW:=hO.wrote hd hs.2.1 hn;obtain⟨l1,l2,l3,l4,l5,l6,l7⟩:=Dv.loses_same (S.wrote l) (S.wr l).2.1 hW.t;have hi:=ht.inv.loses hW (f:=(S.wr l).2.1) λd hd=>(ht.only _ hd).1;have hfit:=Dv.fit_le S l;have hq8:∀d∈List.range (S.wrote l).N.dies,d<8:=λd hd=>by
  have:=List.mem_range.1 hd;have:=ht.like.dies;omega
 obtain⟨b1,b2,b3⟩:=Dv.loses_sb (f:=(S.wr l).2.1) (List.range (S.wrote l).N.dies) (S.wrote l) hW.t (by have:=hO.t.d;show S.t.d<=8;omega) h.tdead.1;obtain⟨m1,m2⟩:=Dv.loses_mask (f:=(S.wr l).2.1) (List.range (S.wrote l).N.dies) (S.wrote l) hq8 ho.mask.set;have hex:∃d:Nat,L.has (S.wr l).2.1 (d:Nat)=true:=by
  refine Classical.byContradiction λhno=>hb (L.ext ht.set (by decide) λd _=>?_);rw[L.has_zero];cases hh:L.has (S.wr l).2.1 (d:Nat)with
  | false=>rfl
  | true=>exact absurd ⟨d,hh⟩ hno
 obtain⟨d0,hd0⟩:=hex;obtain⟨o1,o2⟩:=ht.only _ hd0;have hfdlt:=ho.mask.lt _ o2;have hstay:∀i a,Std fd S i a->Std fd ((S.wrote l).loses (S.wr l).2.1) i a:=λi a ha=>by
  have h1:=(h.turn_std ht hO hl hf hn ha).1;refine std_same (S:=S.wrote l) l1 (λb hb hu=>(b2 b hb).2.2.trans hu) hW.t.b (λa ha=> .inl (by rw[l3,l4];exact ha)) (by rw[l5];exact Int.le_refl _) h1
 refine⟨⟨hi,l2,?_,by rw[l1];exact ht.dead,by rw[l1];exact ht.broken,by rw[l1];exact ht.like,by rw[l1];exact ht.plan,by rw[l1];exact ht.flags,?_,λi a ha=>by rw[l1];exact(h.turn_std ht hO hl hf hn ha).2,hstay,λb hb=>?_,λd hd=>b3 d hd⟩,?_,o2,l4,l3,?_,λd hd=>?_⟩
 ·rw[l5];show S.next<=S.next+(S.fit l:Int)/\S.next+(S.fit l:Int)<=S.next+7*((1:Nat):Int);omega
 ·unfold Dv.rows;rw[l7,l1,l3,l4];have e1:(S.wrote l).N.pages=S.N.pages:=ht.like.pages;have e2:(S.wrote l).t.blanks=S.t.blanks:=rfl;have e3:(S.wrote l).op=S.op:=rfl;have e4:(S.wrote l).row=S.row+1:=rfl;rw[e1,e2,e3,e4,if_pos (by omega),if_pos (by omega)];have:=ho.row;omega
 ·have:=b2 b hb;exact⟨this.1,this.2.1,λhu=>this.2.2.trans hu⟩
 ·have e:=m2 fd;show L.has (((List.range (S.wrote l).N.dies).foldl (Dv.lose (S.wr l).2.1) (S.wrote l)).mask) fd=false;rw[e];have:((List.range (S.wrote l).N.dies).any λd=>decide (fd=(d:Nat))&&L.has (S.wr l).2.1 (d:Nat))=true:=by
   refine List.any_eq_true.2 ⟨d0,List.mem_range.2 ?_,by rw[hd0,decide_eq_true o1.symm];rfl⟩;have:=ht.like.dies;omega
  rw[this];simp
 ·have h2:=o2;rw[<- o1]at h2;have:=ht.fail d0 h2;rw[<- o1,<- this];exact hd0
 ·have e:=m2 d;have hd:L.has (((List.range (S.wrote l).N.dies).foldl (Dv.lose (S.wr l).2.1) (S.wrote l)).mask) d=true:=hd;rw[e]at hd;simp only[Bool.and_eq_true]at hd;exact hd.1
end Inv
end Go.Proofs.YtnffkcabeecopaaGreat
