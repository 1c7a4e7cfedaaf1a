/- Helpers. No condition. -/
import Derived.Test.YtpohajhbfllbbaaGreatF05
import Derived.Test.YtpohajhbfllbbaaGreatF06
import Derived.Test.YtpohajhbfllbbaaGreatF10
import Derived.Test.YtpohajhbfllbbaaGreatF11
import Derived.Test.YtpohajhbfllbbaaGreatF12
import Derived.Test.YtpohajhbfllbbaaGreatF13
import Derived.Test.YtpohajhbfllbbaaGreatF14
import Derived.Test.YtpohajhbfllbbaaGreatF15
import Derived.Test.YtpohajhbfllbbaaGreatF16
import Derived.Test.YtpohajhbfllbbaaGreatF18
import Derived.Test.YtpohajhbfllbbaaGreatF19
import Derived.Test.YtpohajhbfllbbaaGreatRows
import Derived.ProofKit
import Derived.OpenShut
import Derived.ChangeOld
import Derived.Below
import Derived.Deep.Slices
import Derived.Deep.Strs
import Derived.Lib.SmallJoins
set_option maxRecDepth 20000
set_option linter.all false
namespace Go.Proofs.YtpohajhbfllbbaaGreat
open Go Go.RowKit
def FOk (m:Nat) (L:List Fnd) (Z:List FSlot):Prop:=Z.map (·.l)=(List.range m).map λk:Nat=>V.of L (k:Int)
theorem FOk.len {m:Nat} {L:List Fnd} {Z:List FSlot} (h:FOk m L Z):Z.length=m:=by have:=congrArg List.length h;simpa using this
theorem FOk.get {m:Nat} {L:List Fnd} {Z:List FSlot} (h:FOk m L Z) {k:Nat} (hk:k<m):∃z,Z[k]? =some z/\z.l=V.of L (k:Int):=by
 have hl:=h.len;refine⟨Z[k],List.getElem?_eq_getElem (by omega),?_⟩;have:=congrArg (λl=>l[k]?) h;simp only[List.getElem?_map,List.getElem?_range hk,List.getElem?_eq_getElem (show k<Z.length by omega),Option.map_some,Option.some.injEq]at this;exact this
theorem FOk.zero (m:Nat):FOk m [] (List.replicate m ⟨none,0,[]⟩):=by
 unfold FOk;apply List.ext_getElem?;intro i;rw[List.getElem?_map,List.getElem?_replicate,List.getElem?_map]
 by_cases h:i<m
 ·rw[if_pos h,List.getElem?_range h];simp[V.of]
 ·rw[if_neg h,List.getElem?_eq_none (by simp;omega)];rfl
theorem FOk.hit {m:Nat} {L:List Fnd} {Z:List FSlot} (h:FOk m L Z) {x:Fnd} {k:Nat} (hx:x.en.lpn=(k:Int)) {z z':FSlot} (hz:Z[k]? =some z) (hz':z'.l=z.l++[x]):FOk m (L++[x]) (Z.set k z'):=by
 have hl:=h.len;have hk:k<Z.length:=(List.getElem?_eq_some_iff.1 hz).1;have hzl:z.l=V.of L (k:Int):=by
  obtain⟨z2,h1,h2⟩:=h.get (k:=k) (by omega);rw[hz]at h1;injection h1 with h1;subst h1;exact h2
 unfold FOk;rw[List.map_set,show Z.map (·.l)=_ from h,hz',hzl];apply List.ext_getElem?;intro i;rw[List.getElem?_set,List.getElem?_map,List.getElem?_map]
 by_cases e:k=i
 ·subst e;rw[if_pos rfl,if_pos (by simp;omega),List.getElem?_range (by omega),Option.map_some,V.of_snoc,if_pos hx]
 ·rw[if_neg e]
  by_cases h2:i<m
  ·rw[List.getElem?_range h2,Option.map_some,Option.map_some,V.of_snoc,if_neg (by omega)]
  ·rw[List.getElem?_eq_none (by simp;omega)];rfl
theorem FOk.miss {m:Nat} {L:List Fnd} {Z:List FSlot} (h:FOk m L Z) {x:Fnd} (hx:(m:Int)<=x.en.lpn):FOk m (L++[x]) Z:=by
 unfold FOk;rw[show Z.map (·.l)=_ from h];apply List.map_congr_left;intro i hi;rw[List.mem_range]at hi;rw[V.of_snoc,if_neg (by omega)]
theorem FOk.le {m:Nat} {L:List Fnd} {Z:List FSlot} (h:FOk m L Z) {k:Nat} {z:FSlot} (hz:Z[k]? =some z):z.l.length<=L.length:=by
 have hl:=h.len;have hk:k<Z.length:=(List.getElem?_eq_some_iff.1 hz).1;obtain⟨z2,h1,h2⟩:=h.get (k:=k) (by omega);rw[hz]at h1;injection h1 with h1;subst h1
 rw[h2];exact V.of_len L k
theorem W2 {α β:Type} (f:α->List β) (c:Nat) (l:List α) (h:∀x∈l,(f x).length<=c):(l.flatMap f).length<=c*l.length:=by
 induction l with
 | nil=>simp
 | cons x l ih=>
  rw[List.flatMap_cons,List.length_append,List.length_cons];have:=h x (List.mem_cons_self ..);have:=ih (λy hy=>h y (List.mem_cons_of_mem _ hy));rw[Nat.mul_add];omega
theorem X3 (N:Nand) (hN:N.Ok) (b r:Int):(R.all N b r).length<=42:=by
 have hbd:=hN.bd;have:=a1I N b r (M.masks N b r).length (by omega);unfold X4 at this
 rwa [List.take_length]at this
theorem b1H (N:Nand) (hN:N.Ok) (b:Nat) (hb:b<=16):(V.upB N b).length<=5376:=by
 have hbd:=hN.bd;unfold V.upB;have:=W2 (λb:Nat=>(List.range N.pages).flatMap λr=>R.all N (b:Nat) (r:Nat)) 336 (List.range b) (λx _=>by
  have:=W2 (λr:Nat=>R.all N (x:Nat) (r:Nat)) 42 (List.range N.pages) (λr _=>X3 N hN _ _);rw[List.length_range]at this;omega)
 rw[List.length_range]at this;omega
theorem b1F (N:Nand) (hN:N.Ok) (b r:Nat) (hb:b<=16) (hr:r<=8):(V.upR N b r).length<=5712:=by
 have h1:=b1H N hN b hb;have:=W2 (λr:Nat=>R.all N (b:Nat) (r:Nat)) 42 (List.range r) (λr _=>X3 N hN _ _);rw[List.length_range]at this;unfold V.upR;rw[List.length_append];omega
theorem b1G (N:Nand) (hN:N.Ok) (b r i:Nat) (hb:b<=16) (hr:r<=8):(V.upI N b r i).length<=5754:=by
 have h1:=b1F N hN b r hb hr;have:=X3 N hN b r;unfold V.upI;rw[List.length_append,List.length_take];omega
theorem b3v (N:Nand) (b:Nat):∀f∈V.upB N b,a0n f.en:=by
 intro f h;unfold V.upB at h;rw[List.mem_flatMap]at h;obtain⟨_,_,h⟩:=h;rw[List.mem_flatMap]at h;obtain⟨_,_,h⟩:=h;exact(a1X h).2.2
theorem b3t (N:Nand) (b r:Nat):∀f∈V.upR N b r,a0n f.en:=by
 intro f h;unfold V.upR at h;rw[List.mem_append]at h;rcases h with h | h
 ·exact b3v N b f h
 ·rw[List.mem_flatMap]at h;obtain⟨_,_,h⟩:=h;exact(a1X h).2.2
theorem b3u (N:Nand) (b r i:Nat):∀f∈V.upI N b r i,a0n f.en:=by
 intro f h;unfold V.upI at h;rw[List.mem_append]at h;rcases h with h | h
 ·exact b3t N b r f h
 ·exact(a1X (List.mem_of_mem_take h)).2.2
theorem Sep.ofAll {L:List Atom} {h:Hl} (hL:∀A∈L,∀h,A.sat h):Sep L h:=⟨λ_=>0,λi A hA=>hL A (List.mem_of_getElem? hA) _⟩
def svL (q:Nat) (torn:Value) (first:Int) (held:Value) (next pages:Int):List Value:=[pp q,torn,iI first,held,iI next,iI pages]
def svV (q:Nat) (S:Scd) (a1:Option Nat) (c1:Nat) (a2:Option Nat) (c2:Nat):Value:= .agg (svL q (slv a1 S.torn.length c1) S.first (slv a2 S.held.length c2) S.next S.pages).toArray
def sv0 (q:Nat) (L:List Fnd):List Value:=svL q (.slice none 0 0) 0 (.slice none 0 0) (V.nextOf L) L.length
theorem a0z {α:Type} (x:α):∀n:Nat,(List.replicate n [x]).flatten=List.replicate n x
 | 0=>rfl
 | n+1=>by rw[List.replicate_succ,List.replicate_succ,List.flatten_cons,a0z x n];rfl
theorem a8s (m:Nat):(List.replicate m [Value.slice none 0 0]).flatten=S9 (List.replicate m ⟨none,0,[]⟩):=by
 rw[a0z];unfold S9;rw[List.map_replicate];rfl
theorem a8t {Z:List FSlot} {k:Int} {z:FSlot} (h:Z[k.toNat]? =some z):(S9 Z)[0+k.toNat*1]? =some z.hdr:=by
 rw[show 0+k.toNat*1=k.toNat from by omega,S9,List.getElem?_map,h];rfl
theorem b3R (a b:Int):(if b>a then b else a)=max a b:=by split<;>omega
theorem a6A (l m:List Int):d6 l++d6 m=d6 (l++m):=by simp[d6]
theorem a6C (l m:List En):c9 l++c9 m=c9 (l++m):=by simp[c9]
theorem a6z (l:List Int):∀u∈d6 l,u.oneCell'=true:=by
 intro u hu;simp only[d6,List.mem_map]at hu;obtain⟨x,_,rfl⟩:=hu;rfl
theorem a8X (p:Nat) (N:Nand) (hN:N.Ok) (hR:N.Room) (hoff:N.off=false) (n:Int):FP 75 [pp p,iI n] [d8 p N]
  (λv As=>∃q a1 c1 a2 c2,v= .tuple #[svV q (V.scan N n) a1 c1 a2 c2,iI 0]/\As=[d8 p N,TbA q (V.scan N n).tb,c8 135 19 a1 (V.scan N n).torn.length c1 (c9 (V.scan N n).torn),c8 3 1 a2 (V.scan N n).held.length c2 (d6 (V.scan N n).held)]):=by
 have hbd:=hN.bd;refine FE [2,0] Tryz.func75 λX F hX=>?_;refine J.q λbr=>?_;refine J.cF ?_;refine J.qp (U6 p N) [1] λ_=>?_;rw[hoff];refine J.qF λ_=>?_;refine J.qc (a5U n) [] λ_=>?_;rintro v As ⟨q,rfl,rfl⟩;refine⟨_,rfl,trivial,?_⟩;refine J.qn 11 λbo=>?_;rw[a9e];obtain⟨m,hm⟩:∃m:Nat,min (max n 0) 65536=(m:Int):=⟨(min (max n 0) 65536).toNat,by omega⟩;have hms:V.size n=m:=by unfold V.size;omega
 have hm1:m<=65536:=by omega
 rw[hm];refine J.mk 6 λg=>?_;rw[a8s];refine J.q λbs=>?_;refine J.turn1 [] rfl (As:=[.hp (HP.of (Y5 (List.replicate m ⟨none,0,[]⟩)))]) (λh s=>Sep.hpOf.2 (Sep.ofAll λA hA h=>by
  unfold Y5 at hA;rw[List.map_replicate,List.mem_replicate]at hA;rw[hA.2];exact⟨rfl,rfl,rfl⟩)) rfl ?_
 refine J.qp (M4 p N) [1] λ_=>?_;refine J.q λ_=>?_;refine J.l (α:=(Nat×List FSlot)) (λz=>z.1<=N.blocks/\FOk m (V.upB N z.1) z.2) (λz=>[si 38 z.1,si 37 N.blocks,⟨0,pp p,2, .tt⟩,⟨4,pp (br 0),3, .tt⟩,⟨6,pp (bo 0),5, .tt⟩,⟨7,pp (bs 0),7, .tt⟩]) [4,5,7] (λz=>[.pt (bo 0) 123 (sv0 q (V.upB N z.1)), .pt g 187 (S9 z.2), .hp (HP.of (Y5 z.2))]) (λz=>N.blocks-z.1) ((0,List.replicate m ⟨none,0,[]⟩)) (⟨Nat.zero_le _,FOk.zero m⟩) λz hI=>?_;obtain⟨b,Z⟩:=z;dsimp only at hI ⊢;obtain⟨hb,hZ⟩:=hI;refine J.qd (λ_ h1=>?_) λ_ h1=>?_
 ·simp only[decide_eq_true_eq,Int.ofNat_lt]at h1;refine J.qp (M4 p N) [1] λ_=>?_;rw[<- V.upR_zero]at hZ;rw[<- V.upR_zero];refine J.q λ_=>?_;refine J.l (α:=(Nat×List FSlot)) (λz=>z.1<=N.pages/\FOk m (V.upR N b z.1) z.2) (λz=>[si 44 z.1,si 43 N.pages,si 8 b,si 38 b,si 37 N.blocks,⟨0,pp p,2, .tt⟩,⟨4,pp (br 0),3, .tt⟩,⟨6,pp (bo 0),5, .tt⟩,⟨7,pp (bs 0),7, .tt⟩]) [4,5,7] (λz=>[.pt (bo 0) 123 (sv0 q (V.upR N b z.1)), .pt g 187 (S9 z.2), .hp (HP.of (Y5 z.2))]) (λz=>N.pages-z.1) ((0,Z)) (⟨Nat.zero_le _,hZ⟩) λz hI=>?_;clear hZ Z;obtain⟨r,Z⟩:=z;dsimp only at hI ⊢;obtain⟨hr,hZ⟩:=hI;refine J.qd (λ_ h2=>?_) λ_ h2=>?_
  ·simp only[decide_eq_true_eq,Int.ofNat_lt]at h2;refine J.qc (b3i p N hN hR b r) [1] λ_=>?_;rintro v As ⟨al,cl,rfl,rfl⟩;refine⟨_,rfl,trivial,?_⟩;rw[<- V.upI_zero]at hZ;rw[<- V.upI_zero];refine J.q λ_=>?_;refine J.l (α:=(Nat×List FSlot)) (λz=>z.1<=(R.all N b r).length/\FOk m (V.upI N b r z.1) z.2) (λz=>[si 52 z.1,⟨51,iI (R.all N b r).length,0, .tt⟩,sv 50 (slv al (R.all N b r).length cl),si 9 r,si 44 r,si 43 N.pages,si 8 b,si 38 b,si 37 N.blocks,⟨0,pp p,2, .tt⟩,⟨4,pp (br 0),3, .tt⟩,⟨6,pp (bo 0),5, .tt⟩,⟨7,pp (bs 0),7, .tt⟩]) [4,5,7] (λz=>[.pt (bo 0) 123 (sv0 q (V.upI N b r z.1)), .pt g 187 (S9 z.2), .hp (HP.of (Y5 z.2))]) (λz=>(R.all N b r).length-z.1) ((0,Z)) (⟨Nat.zero_le _,hZ⟩) λz hI=>?_;clear hZ Z;obtain⟨i,Z⟩:=z;dsimp only at hI ⊢;obtain⟨hi,hZ⟩:=hI;refine J.qd (λ_ h3=>?_) λ_ h3=>?_
   ·simp only[decide_eq_true_eq,Int.ofNat_lt]at h3;obtain⟨x,hx⟩:∃x,(R.all N b r)[i]? =some x:=⟨_,List.getElem?_eq_getElem h3⟩;have hup:=V.upI_succ hx;have hrl:=X3 N hN b r;have hxb:=(a1X (List.mem_of_getElem? hx)).2.2;have hul:=b1G N hN b r i (by omega) (by omega);have hnb:=V.nextOf_bd (b3u N b r i);refine J.know (λh' s=>f8 (c:=(al,cl)) (by omega) (s.get (i:=8) rfl)) λhg=>?_;obtain⟨gl,rfl⟩:=hg;refine J.q λ_=>?_;refine J.v (fdV x) rfl rfl (λhg a w he hs=>?_) ?_
    ·exact j6 tk rfl rfl he rfl rfl rfl (hs.get (i:=8) rfl) (by rw[show 0+(i:Int).toNat*25=i*25 from by omega];exact J4 hx) rfl
    unfold a0n at hxb;refine J.q λbf=>?_;have hn1:V.nextOf (V.upI N b r (i+1))=max (V.nextOf (V.upI N b r i)) (x.en.seq+1):=by rw[hup,V.nextOf_snoc]
    have hn2:((V.upI N b r i).length:Int)+1=((V.upI N b r (i+1)).length:Int):=by rw[hup,List.length_append];rfl
    rw[b3R,<- hn1,hn2];refine J.p (.of [0,4,9,12,16,20,25,28,32]) [] [6,9] λ_=>?_;refine J.qd (λ_ h4=>?_) λ_ h4=>?_
    ·simp only[decide_eq_true_eq]at h4;obtain⟨z,hz,hzl⟩:=hZ.get (k:=x.en.lpn.toNat) (by omega);have hzle:=hZ.le hz;have hZl:=hZ.len;refine J.openAt 7 x.en.lpn.toNat rfl rfl (Y4 hz) rfl ?_;refine J.pn 15 (.of [0,4,8,13,16,20,25,28,32,36,41,44,48,53,56,61,65,70,74,76,83]) [19,20] [5,6,9] λ_ _=>?_;refine J.vT z.hdr rfl rfl (λhg a w he hC=>f9 tk rfl rfl he rfl rfl rfl (hC rfl _ (f0 (i:=5) rfl)) (a8t hz)) ?_;refine J.q λ_=>?_;refine J.append hX tk 10 11 0 rfl rfl rfl rfl rfl rfl rfl rfl rfl rfl rfl rfl rfl rfl rfl rfl ?_ ?_ (λ_=>rfl) λa' c'=>⟨_,(congrArg (λy=>r8 _ 10 (c8 _ _ _ _ _ y)) (T8 z.l x).symm).trans rfl,⟨rfl,rfl,rfl,trivial⟩,?_⟩
     ·simp only[maxLen];omega
     ·omega
     rw[show z.l.length+1=(z.l++[x]).length from by simp];refine J.q λ_=>?_;have hhit:=hZ.hit (x:=x) (k:=x.en.lpn.toNat) (by omega) hz (z':=⟨a',c',z.l++[x]⟩) rfl;refine J.s1 5 (S9 (Z.set x.en.lpn.toNat ⟨a',c',z.l++[x]⟩)) ?_ ?_ ?_
     ·rw[show(S9 Z).length=Z.length from by simp[S9]];omega
     ·rw[show 0+x.en.lpn.toNat*1=x.en.lpn.toNat from by omega];exact b0H Z _ ⟨a',c',z.l++[x]⟩
     refine J.closeAt (A:=(FSlot.mk a' c' (z.l++[x])).atom) 7 10 x.en.lpn.toNat rfl rfl rfl ?_;rw[b0Z];refine J.q λ_=>?_;refine J.n ((i+1,Z.set x.en.lpn.toNat ⟨a',c',z.l++[x]⟩)) (⟨by dsimp only;omega,by dsimp only;rw[hup];exact hhit⟩) (by dsimp only;omega) [0,1,2,3,4,5,6,7,8]
    ·simp only[decide_eq_false_iff_not]at h4;have hmiss:=hZ.miss (x:=x) (by omega);refine J.q λ_=>?_;refine J.n ((i+1,Z)) (⟨by dsimp only;omega,by dsimp only;rw[hup];exact hmiss⟩) (by dsimp only;omega) [0,1,2,3,4,5,6,7,8]
   ·simp only[decide_eq_false_iff_not,Int.ofNat_lt]at h3;obtain rfl:i=(R.all N b r).length:=by omega
    rw[<- V.upR_succ]at hZ;rw[<- V.upR_succ];refine J.q λ_=>?_;refine J.n ((r+1,Z)) (⟨by dsimp only;omega,hZ⟩) (by dsimp only;omega) [0,1,2,3,4,5,6,7]
  ·simp only[decide_eq_false_iff_not,Int.ofNat_lt]at h2;obtain rfl:r=N.pages:=by omega
   rw[<- V.upB_succ]at hZ;rw[<- V.upB_succ];refine J.q λ_=>?_;refine J.n ((b+1,Z)) (⟨by dsimp only;omega,hZ⟩) (by dsimp only;omega) [0,1,2,3,4,5,6,7]
 simp only[decide_eq_false_iff_not,Int.ofNat_lt]at h1;obtain rfl:b=N.blocks:=by omega
 rw[V.upB_all]at hZ;rw[V.upB_all];have hZl:=hZ.len;have hLb:∀f∈V.all N,a0n f.en:=λf hf=>(a6G hf).2;have hLl:=a7r N hN;subst hZl;refine J.q λ_=>?_;refine J.turn1 [] rfl (As:=[c8 135 19 none 0 0 (c9 []),c8 3 1 none 0 0 (d6 []),c8 135 19 none 0 0 (c9 [])]) (λh s=>Sep.ofAll λA hA h=>by
  simp only[List.mem_cons,List.not_mem_nil,or_false]at hA;rcases hA with rfl | rfl | rfl<;>exact⟨rfl,rfl,rfl⟩) rfl ?_
 refine J.q λ_=>?_;refine J.l (α:=(Nat×(Option Nat×Nat)×(Option Nat×Nat)×(Option Nat×Nat))) (λz=>z.1<=Z.length) (λz=>[si 105 z.1,si 104 Z.length,⟨12,slv z.2.2.2.1 (V.goS N (V.all N) n z.1).others.length z.2.2.2.2,0, .tt⟩,⟨0,pp p,2, .tt⟩,⟨4,pp (br 0),3, .tt⟩,⟨6,pp (bo 0),5, .tt⟩,⟨7,pp (bs 0),7, .tt⟩]) [3,4,8,9,10] (λz=>[TbA q (V.goS N (V.all N) n z.1).tb, .pt (bo 0) 123 (svL q (slv z.2.1.1 (V.goS N (V.all N) n z.1).torn.length z.2.1.2) 0 (slv z.2.2.1.1 (V.goS N (V.all N) n z.1).held.length z.2.2.1.2) (V.nextOf (V.all N)) (V.all N).length),c8 135 19 z.2.1.1 (V.goS N (V.all N) n z.1).torn.length z.2.1.2 (c9 (V.goS N (V.all N) n z.1).torn),c8 3 1 z.2.2.1.1 (V.goS N (V.all N) n z.1).held.length z.2.2.1.2 (d6 (V.goS N (V.all N) n z.1).held),c8 135 19 z.2.2.2.1 (V.goS N (V.all N) n z.1).others.length z.2.2.2.2 (c9 (V.goS N (V.all N) n z.1).others)]) (λz=>Z.length-z.1) ((0,(none,0),(none,0),(none,0))) (Nat.zero_le _) λz hI=>?_;obtain⟨k,⟨a1,c1⟩,⟨a2,c2⟩,⟨a3,c3⟩⟩:=z;dsimp only at hI ⊢;have hgl:=V.goS_len N (V.all N) n k;have hgh:=V.goS_held N (V.all N) n k;refine J.qd (λ_ h2=>?_) λ_ h2=>?_
 ·simp only[decide_eq_true_eq,Int.ofNat_lt]at h2;obtain⟨z,hz,hzl⟩:=hZ.get (k:=k) h2;have hzle:=hZ.le hz;have hstep:=V.goS_succ N (V.all N) n k;have hok:=V.goS_ok N (V.all N) n k;have hhl:=V.holds_len (V.of (V.all N) k);have hol:=V.of_len (V.all N) k;have hsm:=V.standOf_mem (l:=V.of (V.all N) k);generalize hS:V.goS N (V.all N) n k=S at hgl hgh hstep hok;refine J.qp (a8V (bs 0) p g Z k z hz (by omega) (by omega)) [6,5,7] λ_=>?_;rw[hzl];unfold V.step at hstep;obtain⟨f,is,hs⟩:∃f is,V.standOf (V.of (V.all N) k)=(f,is):=⟨_,_,rfl⟩;rw[hs]at hsm hstep ⊢;dsimp only at hsm hstep ⊢;refine J.q λbf=>?_;refine J.cond rfl (λh3=>?_) (λh3=>?_)
  ·simp only[Bool.not_eq_true']at h3;subst h3;rw[if_neg Bool.false_ne_true]at hstep;rw[<- hstep];refine J.q λ_=>?_;refine J.n ((k+1,(a1,c1),(a2,c2),(a3,c3))) (by dsimp only;omega) (by dsimp only;omega) [0,1,2,3,4,5,6,7,8,9,10]
  simp only[Bool.not_eq_false']at h3;subst h3;rw[if_pos rfl]at hstep;have hfm:f∈V.all N:=by have:=hsm rfl;unfold V.of at this;exact(List.mem_filter.1 this).1
  obtain⟨⟨r0,hr0,hr1⟩,hfb⟩:=a6G hfm;unfold a0n at hfb;refine J.qp (a1m q S.tb f.en f.block f.row f.slot f.mask (by omega) hok.bd) [3] λ_=>?_;refine J.qd (λ_ h4=>?_) λ_ h4=>?_
  ·rw[if_pos h4]at hstep;have e1:=congrArg Sst.tb hstep;have e2:=congrArg Sst.torn hstep;have e3:=congrArg Sst.held hstep;have e4:=congrArg Sst.others hstep;dsimp only at e1 e2 e3 e4;rw[<- e1,<- e2,<- e3,<- e4];refine J.q λ_=>?_;refine J.n ((k+1,(a1,c1),(a2,c2),(a3,c3))) (by dsimp only;omega) (by dsimp only;omega) [0,1,2,3,4,5,6,7,8,9,10]
  rw[if_neg (by rw[h4];exact Bool.false_ne_true)]at hstep;refine J.qp (b3s p N hN hR (bs 0) (.slice (some ⟨g,0,none⟩) Z.length Z.length) f r0 hr0 (by omega)) [1,6] λ_=>?_;refine J.qd (λ_ h5=>?_) λ_ h5=>?_
  ·rw[if_pos h5]at hstep;have e1:=congrArg Sst.tb hstep;have e2:=congrArg Sst.torn hstep;have e3:=congrArg Sst.held hstep;have e4:=congrArg Sst.others hstep;dsimp only at e1 e2 e3 e4;refine J.q λ_=>?_;refine J.ap 8 12 0 (B5 S.torn f.en) λa4 c4=>?_;rw[show S.torn.length+1=(S.torn++[f.en]).length from by simp];refine J.p (.of [0,5,8,12,18,23,24,31]) [5,6,7] [4] λ_=>?_;refine J.qc (b1E (bs 0) p g Z k z hz (by omega) (by omega)) [6,5,7] λ_=>?_;rintro v As ⟨a5,c5,rfl,rfl⟩;refine⟨_,rfl,stq,?_⟩;rw[hzl];refine J.q λ_=>?_;refine J.appendO hX tk 9 13 rfl rfl rfl rfl rfl rfl rfl rfl rfl rfl rfl rfl rfl (a6z _) ?_ ?_ (λ_=>rfl) λa6 c6=>⟨_,(congrArg (λy=>r8 _ 9 (c8 _ _ _ _ _ y)) (a6A S.held (V.holds (V.of (V.all N) k)))).trans rfl,stq,?_⟩
   ·simp only[maxLen];omega
   ·omega
   rw[show S.held.length+(V.holds (V.of (V.all N) k)).length=(S.held++V.holds (V.of (V.all N) k)).length from by simp];rw[<- e1,<- e2,<- e3,<- e4];refine J.q λ_=>?_;refine J.n ((k+1,(a4,c4),(a6,c6),(a3,c3))) (by dsimp only;omega) (by dsimp only;omega) [0,1,2,3,4,5,6,7,8,9,10]
  ·rw[if_neg (by rw[h5];exact Bool.false_ne_true)]at hstep;have e1:=congrArg Sst.tb hstep;have e2:=congrArg Sst.torn hstep;have e3:=congrArg Sst.held hstep;have e4:=congrArg Sst.others hstep;dsimp only at e1 e2 e3 e4;refine J.q λ_=>?_;refine J.ap 10 12 0 (B5 S.others f.en) λa4 c4=>?_;rw[show S.others.length+1=(S.others++[f.en]).length from by simp];rw[<- e1,<- e2,<- e3,<- e4];refine J.q λ_=>?_;refine J.n ((k+1,(a1,c1),(a2,c2),(a4,c4))) (by dsimp only;omega) (by dsimp only;omega) [0,1,2,3,4,5,6,7,8,9,10]
 simp only[decide_eq_false_iff_not,Int.ofNat_lt]at h2;obtain rfl:k=Z.length:=by omega
 have hsc:V.scan N n=⟨(V.goS N (V.all N) n Z.length).tb,(V.goS N (V.all N) n Z.length).torn++(V.goS N (V.all N) n Z.length).others,(V.goS N (V.all N) n Z.length).torn.length,j9 (C0 (V.goS N (V.all N) n Z.length).held),V.nextOf (V.all N),(V.all N).length⟩:=by
  unfold V.scan V.scanOf;rw[hms]
 generalize V.goS N (V.all N) n Z.length=S at hgl hgh hsc;refine J.q λ_=>?_;refine J.appendO hX tk 8 10 rfl rfl rfl rfl rfl rfl rfl rfl rfl rfl rfl rfl rfl (a2j _) ?_ ?_ (λ_=>rfl) λa6 c6=>⟨_,(congrArg (λy=>r8 _ 8 (c8 _ _ _ _ _ y)) (a6C S.torn S.others)).trans rfl,stq,?_⟩
 ·simp only[maxLen];omega
 ·omega
 rw[show S.torn.length+S.others.length=(S.torn++S.others).length from by simp];refine J.qp (b1y a2 S.held.length c2 S.held rfl (by omega)) [9] λ_=>?_;refine J.q λ_=>?_;refine J.ca hX (by kernel_rfl) (a2H a2 S.held.length c2 (C0 S.held) (L9 _) (by omega)) [9] 0 rfl rfl rfl rfl rfl rfl (λ_=>rfl) ?_;rintro v As ⟨l',hl',rfl,rfl⟩;refine⟨_,rfl,trivial,?_⟩;refine J.qr [1,3,8,9] λ_=>?_;rw[hsc,<- hl'];exact⟨q,a6,c6,a2,c2,rfl,rfl⟩
end Go.Proofs.YtpohajhbfllbbaaGreat
namespace Go.Proofs.YtpohajhbfllbbaaGreat
def a2X (l:List Int):List Int:=j9 (C0 l)
theorem P6:∀(l:List Int) (p:Int),(p::l).Pairwise (· <= ·)->(m6 p l).Pairwise (· < ·)/\(∀c∈m6 p l,p<c)/\∀c,c∈m6 p l\/c=p↔c∈l\/c=p
 | [],p,_=>by simp[m6]
 | x::l,p,h=>by
  have h1:=List.pairwise_cons.1 h;simp only[m6]
  by_cases e:x=p
  ·subst e;obtain⟨a,b,c⟩:=P6 l x h1.2;rw[if_pos rfl];refine⟨a,b,λd=>?_⟩;rw[c d,List.mem_cons];constructor
   ·rintro(h | h)<;>simp[h]
   ·rintro((h | h) | h)<;>simp[h]
  ·obtain⟨a,b,c⟩:=P6 l x h1.2;have hx:p<x:=by have:=h1.1 x (List.mem_cons_self ..);omega
   rw[if_neg e];refine⟨List.pairwise_cons.2 ⟨b,a⟩,λd hd=>?_,λd=>?_⟩
   ·rcases List.mem_cons.1 hd with rfl | hd
    ·exact hx
    ·have:=b d hd;omega
   ·have:=c d;rw[List.mem_cons,List.mem_cons];constructor
    ·rintro((h | h) | h)
     ·simp[h]
     ·rcases this.1 (.inl h)with h | h<;>simp[h]
     ·simp[h]
    ·rintro((h | h) | h)
     ·simp[h]
     ·rcases this.2 (.inl h)with h | h<;>simp[h]
     ·simp[h]
theorem a3L (l:List Int):(C0 l).Pairwise (· <= ·):=by
 have:=List.pairwise_mergeSort (le:=leI) (λa b c h1 h2=>by simp only[leI,decide_eq_true_eq]at*;omega) (λa b=>by simp only[leI,Bool.or_eq_true,decide_eq_true_eq];omega) l;exact this.imp (λh=>by simpa[leI]using h)
theorem a7E (l:List Int) (c:Int):c∈C0 l↔c∈l:=List.mem_mergeSort
theorem a6k (l:List Int):(a2X l).Pairwise (· < ·)/\∀c,c∈a2X l↔c∈l:=by
 have hs:=a3L l;have hm:=a7E l;unfold a2X
 revert hs hm
 cases C0 l with
 | nil=>intro _ hm;exact⟨by simp[j9],λc=>by rw[<- hm c];simp[j9]⟩
 | cons x m=>
  intro hs hm;obtain⟨a,b,c⟩:=P6 m x hs;refine⟨List.pairwise_cons.2 ⟨b,a⟩,λd=>?_⟩;rw[<- hm d];show d∈x::m6 x m↔_;rw[List.mem_cons,List.mem_cons];have:=c d;constructor
  ·rintro(h | h)
   ·simp[h]
   ·rcases this.1 (.inl h)with h | h<;>simp[h]
  ·rintro(h | h)
   ·simp[h]
   ·rcases this.2 (.inl h)with h | h<;>simp[h]
theorem a2W:a2X []=[]:=by have:=(a6k []).2;exact List.eq_nil_iff_forall_not_mem.2 (λc hc=>by simpa using(this c).1 hc)
theorem a7U (l:List Int):(a2X l).length<=l.length:=by
 have h:∀(l:List Int),(j9 l).length<=l.length:=λl=>by
  have:∀(l:List Int) (p:Int),(m6 p l).length<=l.length:=λl=>by
   induction l with
   | nil=>intro p;simp[m6]
   | cons x l ih=>intro p;simp only[m6];split<;>simp only[List.length_cons]<;>have:=ih x<;>have:=ih p<;>omega
  cases l with
  | nil=>simp[j9]
  | cons x l=>have:=this l x;simp only[j9,List.length_cons];omega
 have:=h (C0 l);rw[L9]at this;exact this
namespace V
theorem standOf_nil:standOf []=(Fnd.zero,false):=rfl
end V
end Go.Proofs.YtpohajhbfllbbaaGreat
namespace Go.Proofs.YtpohajhbfllbbaaGreat
open Go Go.RowKit
namespace B16
def e1:En:=⟨2,5,1,1::List.replicate 15 0⟩
def e2:En:=⟨2,4,1,2::List.replicate 15 0⟩
def e3:En:=⟨1,8,2,zeros16⟩
def w1:En:=⟨4,1,0,zeros16⟩
def w2:En:=⟨5,2,0,zeros16⟩
def w3:En:=⟨4,3,0,zeros16⟩
def N0:Nand:=Nand.new 3 8 2
def N1:Nand:=(R.write N0 1 0 7 [e1,B9.pad]).1
def N2:Nand:=(R.write N1 2 0 7 [e2,e3]).1
theorem G0:N0.Gd 100 0:=Nand.Gd.new 3 8 2 rfl 100 (by decide)
theorem G1:N1.Gd 92 0:=W6 (by decide) G0
theorem G2:N2.Gd 84 0:=W6 (by decide) G1
theorem off2:N2.off=false:=by kernel_rfl
def L:List Fnd:=[⟨e1,1,0,0,7,true,false⟩,⟨e2,2,0,0,7,true,false⟩,⟨e3,2,0,1,7,true,false⟩]
def T:Tb:=⟨3,[(1,⟨2,0,1,7,8,2⟩),(2,⟨1,0,0,7,5,1⟩)],[(2,1),(1,1)],9⟩
theorem h_all:V.all N2=L:=by kernel_rfl
theorem h_go:V.goS N2 L 3 3=⟨T,[],[],[]⟩:=by kernel_rfl
theorem h_size:V.size 3=3:=by kernel_rfl
theorem h_next:V.nextOf L=9:=by kernel_rfl
theorem h_scan:V.scan N2 3=⟨T,[],0,[],9,3⟩:=by
 unfold V.scan;rw[h_all];unfold V.scanOf;rw[h_size,h_go,h_next];have:j9 (C0 [])=[]:=a2W;dsimp only;rw[this];rfl
end B16
end Go.Proofs.YtpohajhbfllbbaaGreat
namespace Go.Proofs.YtpohajhbfllbbaaGreat
open Go Go.RowKit
theorem a8h:FP 235 [] [] (Ps (.bool true) []):=by
 refine FE [] Tryz.func235 λX F hX=>?_;refine J.qp (a8g) [] λ_=>?_;exact J.qx []
open B16
theorem a8c:FP 198 [] [] (Ps (.bool true) []):=by
 refine FE [] Tryz.func198 λX F hX=>?_;refine J.qc (a3a 3 8 2 rfl) [] λ_=>?_;rintro v As ⟨q,rfl,rfl⟩;refine⟨_,rfl,trivial,?_⟩;refine J.qF λ_=>?_;refine J.q λbx=>?_;refine J.ca hX (by kernel_rfl) (a0V q N0 (.pt (bx 0) 135 (c9 [e1,B9.pad])) 1 0 7 (some ⟨bx 0,0,none⟩) 2 2 0 [e1,B9.pad] (Q3 _ _ _ _ _ rfl) rfl (by decide) (G0.less (by decide) (Nat.le_refl _))) [1,2] 0 rfl rfl rfl rfl rfl rfl (λ_=>rfl) ?_;refine cpq ⟨_,rfl,trivial,?_⟩;refine J.q λby_=>?_;refine J.ca hX (by kernel_rfl) (a0V q N1 (.pt (by_ 0) 135 (c9 [e2,e3])) 2 0 7 (some ⟨by_ 0,0,none⟩) 2 2 0 [e2,e3] (Q3 _ _ _ _ _ rfl) rfl (by decide) (G1.less (by decide) (Nat.le_refl _))) [1,3] 0 rfl rfl rfl rfl rfl rfl (λ_=>rfl) ?_;refine cpq ⟨_,rfl,trivial,?_⟩;refine J.qc (a8X q N2 G2.ok G2.room off2 3) [1] λ_=>?_;rintro v As ⟨r,a1,c1,a2,c2,rfl,rfl⟩;refine⟨_,rfl,trivial,?_⟩;rw[h_scan];refine J.qF λ_=>?_;refine J.qp (Z8 r T 2) [4] λ_=>?_;rw[show Tb.look T.at_ 2=some ⟨1,0,0,7,5,1⟩from rfl,Option.getD_some,Option.isSome_some];refine J.qc (b3n) [] λ_=>?_;rintro v As ⟨d,rfl,rfl⟩;refine⟨_,rfl,trivial,?_⟩;refine J.qp (a7k d [] (by decide) w1) [9] λ_=>?_;rw[show T6 [] w1=[w1]from rfl];refine J.qp (a7k d [w1] (by decide) w2) [9] λ_=>?_;rw[show T6 [w1] w2=[w1,w2]from rfl];refine J.qp (a7k d [w1,w2] (by decide) w3) [9] λ_=>?_;rw[show T6 [w1,w2] w3=[w2,w3]from rfl];refine J.qc (a7m d [w2,w3] (by decide) 5) [9] λ_=>?_;rintro v As ⟨a3,c3,rfl,rfl⟩;refine⟨_,rfl,trivial,?_⟩;rw[show dkN [w2,w3] 5=2 from rfl,show[w2,w3].take 2=[w2,w3]from rfl];refine J.know (λh' s=>f8 (c:=(a3,c3)) (by decide) (s.get (i:=10) rfl)) λhg=>?_;obtain⟨ga,rfl⟩:=hg;refine J.know (λh' s=>C2 (show C9 _ _ (some ga) 2 c3 _ _ from s.get (i:=10) rfl)) λhcap=>?_;refine J.qp (b3o d [w2,w3] (by decide) 4) [9] λ_=>?_;rw[show Q8 [w2,w3] 4=(w3,true)from rfl];refine J.qp (a8h) [] λ_=>?_;refine J.qp (a8f) [] λ_=>?_;refine J.qp (a9f r T) [4] λ_=>?_;refine J.q λ_=>?_;refine J.v (iI 5) rfl rfl (λhg a w he hw=>i5 tk rfl rfl he hg rfl rfl (hw.get (i:=10) rfl) rfl) ?_;refine J.q λ_=>?_;have hRd:Rd (c8 135 19 (some ga) 2 c3 (c9 [w2,w3])) (some ⟨ga,0,none⟩) 19 1 (c9 [w2]):=(w7 135 19 (some ga) 2 c3 (c9 [w2,w3])).take 1 (by decide);refine J.qp (b1d d [w2,w3] (by decide) (c8 135 19 (some ga) 2 c3 (c9 [w2,w3])) (some ⟨ga,0,none⟩) 1 c3 [w2] hRd rfl (by decide)) [9,10] λ_=>?_;rw[show H1 [w2,w3] [w2]=[w3]from rfl];refine J.qp (a7l d [w3]) [9] λ_=>?_;exact J.qx []
end Go.Proofs.YtpohajhbfllbbaaGreat
namespace Go.Proofs.YtpohajhbfllbbaaGreat
end Go.Proofs.YtpohajhbfllbbaaGreat
namespace Go.Proofs.YtpohajhbfllbbaaGreat
open Go Go.RowKit
namespace K
end K
namespace Bt
end Bt
namespace S
end S
namespace Bt
end Bt
namespace K
end K
namespace S
end S
section
variable {P : Program} {T : Tab} {E : Env} {n : Nat} {ac : Act} {w : World}
end
namespace F9
end F9
namespace T2
end T2
structure Nand.Lit (N:Nand):Prop where
 off:N.off=false
 cuts:N.cuts=false
namespace Nand
theorem Lit.new (d b p:Nat):(Nand.new d b p).Lit:=⟨rfl,rfl⟩
end Nand
theorem C3 {α:Type} (f:α->List Value) (w:Nat) (hw:∀x,(f x).length=w):∀(l:List α) (k:Nat) (x:α),l[k]? =some x->((l.flatMap f).drop (k*w)).take w=f x
 | [],k,x,h=>by simp at h
 | y::l,0,x,h=>by
  simp at h;subst h;rw[List.flatMap_cons,Nat.zero_mul,List.drop_zero,List.take_left' (hw y)]
 | y::l,k+1,x,h=>by
  have ih:=C3 f w hw l k x (by simpa using h);rw[List.flatMap_cons,show(k+1)*w=(f y).length+k*w from by rw[hw y,Nat.add_mul,Nat.one_mul,Nat.add_comm],<- List.drop_drop,List.drop_left' rfl];exact ih
end Go.Proofs.YtpohajhbfllbbaaGreat
namespace Go.Proofs.YtpohajhbfllbbaaGreat
open Go Go.RowKit
open Go.ChangeShapes Go.WideShapes
def frz (W:World):Atom:= .hp ⟨Hle (hl W),λ_ _ l s=>s.trans l⟩
theorem b4b {W:World} {a:Option Addr} {size n:Nat} {xs:List Value} (h:rdP a size n xs (hl W)):Rd (frz W) a size n xs:=λ_ s=>h.up s
theorem Fn.whole {P:Program} {f:FuncId} {args:List Value} {r:Value} {W:World} (h:Fn P f args [frz W] (λv As=>v=r/\As=[frz W])):Calls P f args.toArray W λe w'=>e= .returned r/\Below W.heap.size W w':=by
 have hs:Sep (.hp ⟨λ_=>True,λ_ _ _ s=>s⟩::[frz W]) (hl W):=by
  refine⟨λ_=>1,λi A hA=>?_⟩
  match i,hA with
  | 0,hA=>simp at hA;subst hA;trivial
  | 1,hA=>
   simp at hA;subst hA;intro b o hb;exact res_some.2 ⟨rfl,hb⟩
  | i+2,hA=>simp at hA
 refine(h _ W hs).mono λe w' ⟨v,As,e1,⟨e2,e3⟩,s,x⟩=>?_;subst e2 e3;have hle:Hle (hl W) (hl w'):=s.get (i:=1) rfl;refine⟨e1,x.os,x.tape,x.output,x.size,λk hk=>?_⟩;have:W.heap[k]? =some W.heap[k]:=Array.getElem?_eq_getElem hk;rw[this];exact hle k _ this
theorem b1Z {size:Nat} {h:Hl}:rdP none size 0 [] h:=⟨by simp,λh=>absurd h (by omega)⟩
theorem b1Y {α:Type} {W:World} {base size n:Nat} {a:Addr} (f:α->List Value) (hsz:0<size)
  (h:∀i,i<n->∃x,W.cells? base (a.add (i*size)) size=some (f x)):∃l:List α,l.length=n/\rdP (some a) size n (l.flatMap f) (hl W):=by
 have h1:∀m,m<=n->∃l:List α,l.length=m/\(l.flatMap f).length=m*size/\∀i,i<m*size->W.cell? (a.add i)=(l.flatMap f)[i]?:=by
  intro m
  induction m with
  | zero=>exactλ_=>⟨[],rfl,by simp,λi hi=>by omega⟩
  | succ m ih=>
   intro hm;obtain⟨l,e1,e2,e3⟩:=ih (by omega);obtain⟨x,hx⟩:=h m (by omega);obtain⟨_,q1,q2⟩:=World.cells?_some hx;have hlen:((l++[x]).flatMap f).length=(m+1)*size:=by simp[List.flatMap_append,e2,q1,Nat.succ_mul]
   refine⟨l++[x],by simp[e1],hlen,λi hi=>?_⟩;rw[List.flatMap_append,List.getElem?_append,e2];split
   ·exact e3 i (by assumption)
   ·rename_i hge;have:=q2 (i-m*size) (by rw[Nat.succ_mul]at hi;omega);rw[Deep.add_add,show m*size+(i-m*size)=i by omega]at this;rw[this];simp
 obtain⟨l,e1,e2,e3⟩:=h1 n (Nat.le_refl n);refine⟨l,e1,e2,λhn=>?_⟩;obtain⟨b,o,sp⟩:=a;have hpos:0<n*size:=Nat.mul_pos hn hsz;have h0:=e3 0 hpos;have hv:(l.flatMap f)[0]? =some ((l.flatMap f)[0]'(by omega)):=List.getElem?_eq_getElem _;rw[hv]at h0;have hsp:sp=none:=by simpa[Addr.add]using World.cell?_spot h0
 subst hsp;have hcell:∀i,W.cell? ⟨b,o+i,none⟩=W.cell? ((⟨b,o,none⟩:Addr).add i):=λi=>by rw[Addr.add_none]
 have hblk:∃cs ty fr,W.heap[b]? =some (.cells cs ty fr):=by
  unfold World.cell? at h0;cases hh:W.heap[b]? with
  | none=>simp[Addr.add,hh]at h0
  | some ob=>
   cases ob with
   | cells cs ty fr=>exact⟨cs,ty,fr,rfl⟩
   | _=>simp[Addr.add,hh]at h0
 obtain⟨cs,ty,fr,hh⟩:=hblk;refine⟨b,o,cs,ty,fr,rfl,hh,?_⟩;apply List.ext_getElem?;intro i;rw[List.getElem?_take];split
 ·rename_i hi;rw[<- e3 i hi,<- hcell,cell_of_row W b (o+i) cs ty fr hh];simp
 ·rename_i hi;exact(List.getElem?_eq_none (by omega)).symm
section
variable {H : Type} {enc : TypeId × Value → H} {w : World} {base : Nat} {spare : Nat → Bool} {held : Bool}
theorem a9U {fuel:Nat} {cs:List Value} {y:DataW H×List MemPlace} (h:DataW.trod enc Tryz.prog w base spare held fuel 5 cs=some y):∃b:UInt8,cs=[bv b]:=by
 obtain⟨n,rfl,_,hw⟩:=DataW.trod_int Tryz.underlying5 h;have:0<=n/\n<=255:=by simpa[Lit.wf,IntKind.min,IntKind.max,IntKind.signed,IntKind.bits]using hw
 refine⟨UInt8.ofNat n.toNat,?_⟩;simp only[bv,List.cons.injEq,and_true];congr 1;have:n.toNat<256:=by omega
 have h2:(UInt8.ofNat n.toNat).toNat=n.toNat:=by simp;omega
 rw[h2];omega
theorem b1g {m:Nat} {fuel:Nat}:∀{cs:List Value},cs.length=m->(∀i,i<m->∃y,DataW.trod enc Tryz.prog w base spare held fuel 5 ((cs.drop i).take 1)=some y)->∃l:List UInt8,l.length=m/\cs=l.map bv:=by
 induction m with
 | zero=>intro cs h _;exact⟨[],rfl,List.eq_nil_of_length_eq_zero h⟩
 | succ m ih=>
  intro cs h hx
  match cs,h with
  | c::r,h=>
   obtain⟨y,hy⟩:=hx 0 (by omega);obtain⟨b,hb⟩:=a9U hy;obtain⟨l,e1,e2⟩:=ih (cs:=r) (by simpa using h) (λi hi=>by simpa using hx (i+1) (by omega));refine⟨b::l,by simp[e1],?_⟩;simp at hb;simp[hb,e2]
theorem y7 {t:TypeId} (ht:Tryz.prog.underlying t=some (.int .i64)) {fuel:Nat} {cs:List Value} {y:DataW H×List MemPlace} (h:DataW.trod enc Tryz.prog w base spare held fuel t cs=some y):∃n,cs=[.int .i64 n]:=by
 obtain⟨n,rfl,_,_⟩:=DataW.trod_int ht h;exact⟨n,rfl⟩
theorem b2T {fuel:Nat} {cs:List Value} {y:DataW H×List MemPlace} (h:DataW.trod enc Tryz.prog w base spare held fuel 31 cs=some y):∃l:List UInt8,l.length=16/\cs=j8 l:=by
 obtain⟨xs,m,_,_,hl,hlen,hx⟩:=DataW.trod_array Tryz.underlying31 h;have h1:Tryz.prog.cellsOf 5=1:=by kernel_rfl
 have h16:Tryz.prog.cellsOf 31=16:=by kernel_rfl
 obtain⟨l,e1,e2⟩:=b1g (m:=16) (hl.trans h16) (λi hi=>by
  have:=hx i hi;rw[h1,Nat.mul_one,List.getElem?_eq_getElem (by omega)]at this;exact⟨_,this⟩)
 refine⟨l,e1,?_⟩
 match l,e1 with
 | [_,_,_,_,_,_,_,_,_,_,_,_,_,_,_,_],_=>subst e2;rfl
end
end Go.Proofs.YtpohajhbfllbbaaGreat
namespace Go.Proofs.YtpohajhbfllbbaaGreat
open Go Go.RowKit
open Go.ChangeShapes Go.WideShapes Go.ChangeAt
section
variable {H : Type} {enc : TypeId × Value → H} {w : World} {base : Nat} {spare : Nat → Bool} {held : Bool}
theorem a7R {α:Type} {held':Bool} {fuel:Nat} {st et:TypeId} {size:Nat} (f:α->List Value) (good:α->Prop) (hu:Tryz.prog.underlying st=some (.slice et)) (hc:Tryz.prog.cellsOf et=size) (hsz:0<size)
  (hof:∀{fuel:Nat} {held:Bool} {cs:List Value} {y:DataW H×List MemPlace},DataW.trod enc Tryz.prog w base spare held fuel et cs=some y->∃x:α,good x/\cs=f x)
  {a:Option Addr} {len cap:Nat} {x:DataW H×List MemPlace} (h:DataW.trod enc Tryz.prog w base spare held' fuel st [.slice a len cap]=some x):
  ∃l:List α,l.length=len/\(∀e∈l,good e)/\rdP a size len (l.flatMap f) (hl w):=by
 rcases Deep.open_slice hu h with⟨hcs,_⟩ | ⟨a',len',cap',m,n,D,Pl,hcs,hb,hlc,hm,hmm,rfl,hx⟩
 ·simp at hcs;obtain⟨rfl,rfl,rfl⟩:=hcs;exact⟨[],rfl,λ_ h=>by simp at h,b1Z⟩
 ·simp at hcs;obtain⟨rfl,rfl,rfl⟩:=hcs;rw[hc]at hx;obtain⟨l,e1,e2⟩:=b1Y (W:=w) (base:=base) (size:=size) (n:=len) (a:=a') (λe:{e:α//good e}=>f e.1) hsz (λi hi=>by
   obtain⟨cs,q1,q2⟩:=hx i (by rw[hmm];split<;>omega);obtain⟨e,he,rfl⟩:=hof q2;exact⟨⟨e,he⟩,q1⟩)
  refine⟨l.map (·.1),by simpa using e1,λe he=>?_,?_⟩
  ·obtain⟨x,_,rfl⟩:=List.mem_map.1 he;exact x.2
  ·rw[List.flatMap_map];exact e2
end
end Go.Proofs.YtpohajhbfllbbaaGreat
namespace Go.Proofs.YtpohajhbfllbbaaGreat
open Go Go.RowKit
open Go.ChangeShapes Go.WideShapes Go.ChangeAt
section
variable {H : Type} {enc : TypeId × Value → H} {w : World} {base : Nat} {spare : Nat → Bool} {held : Bool}
end
end Go.Proofs.YtpohajhbfllbbaaGreat
namespace Go.Proofs.YtpohajhbfllbbaaGreat
open Go Go.RowKit
def rdA (a:Option Addr) (size n:Nat) (xs:List Value):Atom:= .hp ⟨rdP a size n xs,λ_ _ l s=>s.up l⟩
theorem a3T (a:Option Addr) (size n:Nat) (xs:List Value):Rd (rdA a size n xs) a size n xs:=λ_ s=>s
def n9:Option (Nat×Nat)->Option Addr
 | some x=>some ⟨x.1,x.2,none⟩
 | none=>none
def N9 (a:Option (Nat×Nat)) (size h c:Nat):Option (Nat×Nat):=match a with
 | some y=>if c=h then some y else some (y.1,y.2+h*size)
 | none=>none
section
variable {P : Program} {T : Tab} {E : Env} {n : Nat} {ac : Act} {w : World}
theorem P7 (hT:TabOK P T) {o:Oper} {t e size:Nat} {x y:Operand} {k1 k2 t1 t2:Nat} {g1 g2:G} {a:Option (Nat×Nat)} {m c h:Nat} {kk:IntKind} {hI:Int} {s1 b1 b2:Nat} {z1 z2:List Value} {td:TD} (hop:o.op= .slice t x (some y) none none) (hx:ev E x=some ⟨k1, .slice (n9 a) m c,t1,g1⟩) (hy:ev E y=some ⟨k2, .int kk hI,t2,g2⟩) (he:EnvOK n E ac) (v1:g1.on=true) (v2:g2.on=true)
  (ht:T.get t=some ⟨.slice e size,s1,z1,b1⟩) (hte:T.get e=some ⟨td,size,z2,b2⟩) (hhI:hI=(h:Int)) (hh:h<=m):
  (execOp ac.eval o).run P w= .ok (.value (.slice (n9 (N9 a size h c)) (m-h) (c-h))) w:=by
 subst hhI;have e1:=f7 he hx;have e2:=f7 he hy;simp only[Slot.val,v1,v2]at e1 e2;obtain⟨d,f,zv,ok⟩:=d7 (hT.get ht);obtain⟨fe,rfl,g1,g2⟩:=ok.slice rfl;cases a with
 | none=>
  simp only[execOp,hop,Option.map_some,Option.map_none,e1,e2,Instr.sliceAt,Instr.slice,Instr.sliceBounds,Instr.sliceBound,asIntOf,Sem.run_bind,Sem.run_pure,Result.andThen_ok,d4 ok.hd,i9 g1,g2];simp[hh,n9,N9]
 | some ad=>
  by_cases hne:c=h
  ·simp only[execOp,hop,Option.map_some,Option.map_none,e1,e2,Instr.sliceAt,Instr.slice,Instr.sliceBounds,Instr.sliceBound,asIntOf,Sem.run_bind,Sem.run_pure,Result.andThen_ok,d4 ok.hd,i9 g1,g2];simp[hh,hne,Addr.add_none,n9,N9]
  ·simp only[execOp,hop,Option.map_some,Option.map_none,e1,e2,Instr.sliceAt,Instr.slice,Instr.sliceBounds,Instr.sliceBound,asIntOf,Sem.run_bind,Sem.run_pure,Result.andThen_ok,d4 ok.hd,i9 g1,g2];simp[hh,hne,Addr.add_none,n9,N9]
end
section
variable {X : Cx} {P : Program} {K : List KI} {E : Env} {L : List Atom} {N : Nat} {F : HP} {Post : Value → List Atom → Prop} {rs : List ResultVar} {T : Tab}
theorem J.appendRO (hX:IsCx X P rs N F Post) (hT:TabOK P T) {ops:Array Oper} {C:Cl} {lt:Bool} {i:Nat} {t:PT} {o:Oper} {x y:Operand} {st e size by_:Nat} {ks tgs:Nat} {gs:G} {a:Option Nat} {n cap:Nat} {xs:List Value} {ky tgy:Nat} {gy:G} {ay:Option (Nat×Nat)} {m cy:Nat} {cs:List Value} {s1 b1:Nat} {z1:List Value} {E':Value->Env} {Ay:Atom} (is iy:Nat) (hc0:ay=none->cy=0)
  (ho:j5 ops.toList i=some o) (hg:gd ops.toList E o=some .tt) (hop:o.op= .call ⟨.builtin .append,#[x,y],#[st,st]⟩)
  (hx:ev E x=some ⟨ks,slv a n cap,tgs,gs⟩) (hvx:gs.on=true) (hy:ev E y=some ⟨ky, .slice (n9 ay) m cy,tgy,gy⟩) (hvy:gy.on=true)
  (hLs:j5 L is=some (c8 e size a n cap xs)) (hLy:j5 L iy=some Ay) (hrd:Rd Ay (n9 ay) size m cs) (hst:T.get st=some ⟨.slice e size,s1,z1,b1⟩) {td:TD} {z:List Value} (he:T.get e=some ⟨td,size,z,by_⟩) (hz:Nat.beq z.length size=true)
  (hsz:Nat.blt 0 size=true) (h1:∀u∈cs,u.oneCell'=true) (h63:n+m<=maxLen) (hbytes:(n+m)*by_<=140737488355328)
  (hd:∀v,v6 N o.dst v 0 .tt E=some (E' v))
  (hJ:∀a' cap',∃L',r8 L is (c8 e size a' (n+m) cap' (xs++cs))=some L'/\Conj (l5 lt C L')/\J X (.reg ops C t::K) (E' (slv a' (n+m) cap')) L'):J X (.reg ops C (.alt lt i t .non)::K) E L:=by
 cases ay with
 | some b=>exact J.appendR hX hT (oo:=b.2) is iy 0 ho hg rfl hop hx hvx hy hvy hLs hLy hrd hst he hz hsz h1 h63 hbytes hd hJ
 | none=>
  obtain rfl:=hc0 rfl;rw[j4]at hLs hLy;refine J.know (p:=cs.length=m*size/\m=0) (λh s=>⟨(hrd _ (s.get hLy)).1,by
   rcases Nat.eq_zero_or_pos m with h0 | h0
   ·exact h0
   ·obtain⟨_,_,_,_,_,e,_⟩:=(hrd _ (s.get hLy)).2 h0;cases e⟩) λhk=>?_
  obtain⟨q1,rfl⟩:=hk;have hcs:cs=[]:=List.eq_nil_of_length_eq_zero (by rw[q1,Nat.zero_mul]);subst hcs;obtain⟨L',e1,e2,e3⟩:=hJ a cap;rw[Nat.add_zero,List.append_nil]at e1;rw[Nat.add_zero]at e3;have hL:L'=L:=by
   rw[r7 e1];apply List.ext_getElem?;intro j;rw[List.getElem?_set];split
   ·rename_i e;subst e;split
    ·exact hLs.symm
    ·rename_i e4;rw[List.getElem?_eq_none (by omega)]
   ·rfl
  subst hL;exact J.val hX (slv a n cap) 0 ho hg (λ_ ac w hen hs=>Q9 hT hop hx hvx hy hvy hen hst he (show C9 e size a n cap xs (hl w)from hs.get hLs)) (hd _) e2 e3
end
theorem a1G {e size:Nat} {a:Option Nat} {n cap:Nat} {xs:List Value} {h:Hl} (s:C9 e size a n cap xs h):a=none->cap=0:=λe=>by subst e;exact s.2.2
theorem a3S {a:Option (Nat×Nat)} {size n c h:Nat} {xs:List Value} {hh:Hl} (s:rdP (n9 a) size n xs hh) (hn:h<=n) (hc:n<=c):rdP (n9 (N9 a size h c)) size (n-h) (xs.drop (h*size)) hh:=by
 cases a with
 | none=>
  refine⟨by rw[List.length_drop,s.1,Nat.sub_mul],λh0=>?_⟩;obtain⟨b,o,_,_,_,e,_⟩:=s.2 (by omega);cases e
 | some y=>
  by_cases e:c=h
  ·refine⟨by rw[List.length_drop,s.1,Nat.sub_mul],λh0=>by omega⟩
  ·unfold N9;simp only[if_neg e];exact(a3T (some ⟨y.1,y.2,none⟩) size n xs).drop h hn _ s
theorem a7T {a:Option (Nat×Nat)} {size n:Nat} {xs:List Value} {h:Hl} (s:rdP (n9 a) size n xs h) (hn:0<n):∃y,a=some y:=by
 cases a with
 | none=>obtain⟨_,_,_,_,_,e,_⟩:=s.2 hn;cases e
 | some y=>exact⟨y,rfl⟩
theorem a5K (L:List En):∀k,(c9 L).drop (k*19)=c9 (L.drop k):=by
 induction L with
 | nil=>intro k;simp[c9]
 | cons x l ih=>
  intro k;cases k with
  | zero=>simp
  | succ k=>
   have e1:c9 (x::l)=enL x++c9 l:=by simp[c9]
   rw[e1,List.drop_succ_cons,<- ih k,show(k+1)*19=(enL x).length+k*19 from by show _=19+k*19;omega,<- List.drop_drop,List.drop_left' rfl]
theorem a6R {a:Option (Nat×Nat)} {n c h:Nat} {L:List En} {hh:Hl} (s:rdP (n9 a) 19 n (c9 L) hh) (hl:L.length=n) (hn:h<=n) (hc:n<=c):rdP (n9 (N9 a 19 h c)) 19 (L.drop h).length (c9 (L.drop h)) hh:=by
 have:=a3S s hn hc
 rwa [a5K,<- hl,<- List.length_drop]at this
theorem V2 {a:Option (Nat×Nat)} {size h c:Nat} (hz:a=none->c=0):N9 a size h c=none->c-h=0:=by
 cases a with
 | none=>intro _;rw[hz rfl];omega
 | some y=>intro e;unfold N9 at e;simp only at e;split at e<;>cases e
theorem a3Z (n t l p:Nat) (S:Dv) (k mm:Nat) (A:Atom) (a:Option (Nat×Nat)) (m c:Nat) (es:List En) (hA:Rd A (n9 a) 19 m (c9 es)) (hl:es.length=m) (hm:m<=1000000) (hc:m<=c) (ha:a=none->c=0) (hd:∀s∈es,s.data.length=16) (hO:S.Ok (Dv.costT*m+k) mm) (hmm:mm<=1000):
  FP 80 [pp n,pp t,pp l,pp p, .slice (n9 a) m c] (DvP p n t l S++[A])
  (Ps (iI (S.torn es).2) (DvP p n t l (S.torn es).1++[A])):=by
 subst hl;refine FE [3,4,5,2,0] Tryz.func80 λX F hX=>?_;refine J.q λ_=>?_;refine J.l (α:=(Nat×Dv×List En×Option (Nat×Nat)×Nat)) (λz=>z.2.2.1.length<=z.1/\z.2.2.1.length<=z.2.2.2.2/\z.2.2.1.length<=1000000/\(z.2.2.2.1=none->z.2.2.2.2=0)/\Rd A (n9 z.2.2.2.1) 19 z.2.2.1.length (c9 z.2.2.1)/\(∀s∈z.2.2.1,s.data.length=16)/\z.2.1.Ok (Dv.costT*z.1+k) mm/\Dv.tornGo z.1 z.2.1 z.2.2.1=S.torn es) (λz=>[sv 4 (.slice (n9 z.2.2.2.1) z.2.2.1.length z.2.2.2.2),⟨0,pp n,3, .tt⟩,⟨1,pp t,4, .tt⟩,⟨2,pp l,5, .tt⟩,⟨3,pp p,2, .tt⟩]) [1,2,3,4] (λz=>DvP p n t l z.2.1) (λz=>z.1) ((es.length,S,es,a,c)) (⟨Nat.le_refl _,hc,hm,ha,hA,hd,hO,rfl⟩) λz hI=>?_;obtain⟨j,Q,L,a',c'⟩:=z;dsimp only at hI ⊢;obtain⟨hj,hLc,hLm,ha',hAr,hLd,hQ,hw⟩:=hI;refine J.qd (λ_ h1=>?_) λ_ h1=>?_
 ·simp only[decide_eq_true_eq]at h1;have hL0:L.length≠0:=by omega
  obtain⟨j,rfl⟩:∃i,j=i+1:=⟨j-1,by omega⟩;rw[Dv.tornGo,if_neg hL0]at hw;dsimp only at hw;have hQ1:Q.Ok (Dv.costM+(8*Dv.fuel+(Dv.costT*j+k))) mm:=hQ.less (by unfold Dv.costT Dv.cost;rw[Nat.mul_succ];omega);have hr:=Dv.room_keep hQ1;refine J.qp (X1 n t l p Q _ mm hQ1 hmm) [1,2,3,4] λ_=>?_;generalize Q.room=W at hw hr ⊢;obtain⟨P,er⟩:=W;dsimp only at hw hr ⊢;refine J.qd (λ_ h2=>?_) λ_ h2=>?_
  ·simp only[bne_iff_ne,ne_eq]at h2;rw[if_pos h2]at hw;refine J.qr [1,2,3,4,5] λ_=>?_;rw[<- hw];exact⟨rfl,rfl⟩
  simp only[bne_eq_false_iff_eq]at h2;rw[if_neg (by rw[h2];decide)]at hw;have htook:=λh0=>Dv.pen_took hr.1 hLd h0 hL0;have hkeep:=Dv.pen_keep hr.1 hLd;refine J.qp (R6 p n t l P _ mm hr.1 A (n9 a') L.length c' L hAr rfl hLm hLd) [1,2,3,4,5] λ_=>?_;have hpb:0<=(P.pen L).2.1/\(P.pen L).2.1<=7:=W5 _ _ _;generalize P.pen L=W at hw htook hkeep hpb ⊢;obtain⟨P',nn,er2⟩:=W;dsimp only at hw htook hkeep hpb ⊢;refine J.qd (λ_ h3=>?_) λ_ h3=>?_
  ·simp only[bne_iff_ne,ne_eq]at h3;rw[if_pos h3]at hw;refine J.qr [1,2,3,4,5] λ_=>?_;rw[<- hw];exact⟨rfl,rfl⟩
  simp only[bne_eq_false_iff_eq]at h3;rw[if_neg (by rw[h3];decide)]at hw;have htk:=htook h3;obtain⟨v,rfl⟩:=Int.eq_ofNat_of_zero_le hpb.1;have hvL:v<=L.length:=by have:=htk.2.1;omega
  rw[Int.toNat_natCast]at hw;refine J.qn 4 λ_=>?_;refine J.v (.slice (n9 (N9 a' 19 v c')) (L.length-v) (c'-v)) rfl rfl (λhg aa w he hw=>P7 tk rfl rfl rfl he rfl rfl rfl rfl rfl hvL) ?_;rw[show L.length-v=(L.drop v).length from by rw[List.length_drop]];refine J.q λ_=>?_;refine J.n ((j,P',L.drop v,N9 a' 19 v c',c'-v)) (⟨by dsimp only;rw[List.length_drop];omega,by dsimp only;rw[List.length_drop];omega,by dsimp only;rw[List.length_drop];omega,V2 ha',λh s=>a6R (hAr h s) rfl hvL hLc,λs hs=>hLd s (List.mem_of_mem_drop hs),hkeep.1,hw⟩) (by dsimp only;omega) [0,1,2,3,4,5]
 ·simp only[decide_eq_false_iff_not]at h1;have hL0:L.length=0:=by omega
  have hz:Dv.tornGo j Q L=(Q,0):=by
   cases j with
   | zero=>rfl
   | succ j=>rw[Dv.tornGo,if_pos hL0]
  refine J.qr [1,2,3,4,5] λ_=>?_;rw[<- hw,hz];exact⟨rfl,rfl⟩
def U1 (f n t l p d:Nat) (F:Fv):Atom:= .pt f 106 [pp n,pp t,pp l,pp p,pp d,iI F.nx, .bool F.off]
def FvP (f p n t l d:Nat) (F:Fv):List Atom:=[U1 f n t l p d F,J5 p n t l F.S,d8 n F.S.N,TlA t F.S.t,TbA l F.S.T,K8 d F.L]
theorem P4 (f n t l p d:Nat) (Z:Fv) (hN:Z.S.N.Ok):FP 45 [pp f] [U1 f n t l p d Z,d8 n Z.S.N] (Ps (iI Z.lg) [U1 f n t l p d Z,d8 n Z.S.N]):=by
 have hbd:=hN.bd16;have hlg:=b0f Z.S.N.dies Z.S.N.blocks Z.S.N.pages (by omega) (by omega);refine FE [2] Tryz.func45 λX F hX=>?_;refine J.qF λ_=>?_;refine J.qp (M4 n Z.S.N) [2] λ_=>?_;refine J.qp (a0h Z.S.N.dies Z.S.N.blocks Z.S.N.pages hN.geo) [] λ_=>?_;rw[hlg];exact J.qx [1,2]
theorem I8 (f n t l p d:Nat) (Z:Fv):FP 60 [pp f] [U1 f n t l p d Z,d8 n Z.S.N] (Ps (iI (if Z.ask.off=true then 9 else 0)) [U1 f n t l p d Z.ask,d8 n Z.S.N]):=by
 have hask:U1 f n t l p d Z.ask= .pt f 106 [pp n,pp t,pp l,pp p,pp d,iI Z.nx, .bool (Z.off||Z.S.N.off)]:=rfl;have hoa:Z.ask.off=(Z.off||Z.S.N.off):=rfl;rw[hask,hoa];unfold U1;generalize Z.off=o;refine FE [2] Tryz.func60 λX F hX=>?_;refine J.qF λ_=>?_;refine J.q λ_=>?_;refine J.gcase hX rfl rfl rfl trivial (λhb=>?_) (λhb=>?_)
 ·rw[Bool.not_eq_true']at hb;subst hb;refine J.qp (U6 n Z.S.N) [2] λ_=>?_;refine J.qd (λ_ h1=>?_) λ_ h1=>?_
  ·simp only[Bool.false_or,Bool.not_not]at h1;refine J.qr [1,2] λ_=>?_;rw[h1];exact⟨rfl,rfl⟩
  ·simp only[Bool.false_or,Bool.not_not]at h1;refine J.qr [1,2] λ_=>?_;rw[h1];exact⟨rfl,rfl⟩
 ·rw[Bool.not_eq_false']at hb;subst hb;refine J.q λ_=>?_;refine J.v (.bool false) rfl rfl (λhg a w he hw=>by simp[G.on]at hg) ?_;refine J.qT λ_=>?_;exact J.qx [1,2]
theorem a4j (f n t l p d:Nat) (Z:Fv) (e:Int):FP 62 [pp f,iI e] [U1 f n t l p d Z] (Ps (iI e) [U1 f n t l p d (Z.told e)]):=by
 refine FE [2,0] Tryz.func62 λX F hX=>?_;exact J.qx [1]
end Go.Proofs.YtpohajhbfllbbaaGreat
