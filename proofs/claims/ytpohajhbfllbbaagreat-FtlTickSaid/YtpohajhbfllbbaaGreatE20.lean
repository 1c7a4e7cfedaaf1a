/- Helpers. No condition. -/
import Derived.Test.YtpohajhbfllbbaaGreatE04
import Derived.Test.YtpohajhbfllbbaaGreatE06
import Derived.Test.YtpohajhbfllbbaaGreatE10
import Derived.Test.YtpohajhbfllbbaaGreatE11
import Derived.Test.YtpohajhbfllbbaaGreatE12
import Derived.Test.YtpohajhbfllbbaaGreatE13
import Derived.Test.YtpohajhbfllbbaaGreatE14
import Derived.Test.YtpohajhbfllbbaaGreatE15
import Derived.Test.YtpohajhbfllbbaaGreatE16
import Derived.Test.YtpohajhbfllbbaaGreatE18
import Derived.Test.YtpohajhbfllbbaaGreatE19
import Derived.Test.YtpohajhbfllbbaaGreatRows
import Derived.ProofKit
import Derived.OpenShut
import Derived.ChangeOld
import Derived.Below
import Derived.Deep.Slices
import Derived.Deep.Strs
import Derived.Lib.SmallJoins
set_option maxRecDepth 20000
set_option linter.all false
namespace Go.Proofs.YtpohajhbfllbbaaGreat
open Go Go.RowKit
section
variable {X : Cx} {P : Program} {K : List KI} {E : Env} {L : List Atom} {N : Nat} {F : HP} {Post : Value → List Atom → Prop} {rs : List ResultVar} {T : Tab}
theorem Y4 (hT:TabOK P T) {o:Oper} {x y:Operand} {st e size by_ ks tgs ky tgy:Nat} {gs gy:G} {a:Option Nat} {n cap:Nat} {xs:List Value} {s1 b1:Nat} {z1:List Value} {ac:Act} {w:World} {NN:Nat}
  (hop:o.op= .call ⟨.builtin .append,#[x,y],#[st,st]⟩) (hx:ev E x=some ⟨ks,slv a n cap,tgs,gs⟩) (hvx:gs.on=true) (hy:ev E y=some ⟨ky, .slice none 0 0,tgy,gy⟩) (hvy:gy.on=true) (hen:EnvOK NN E ac)
  (hst:T.get st=some ⟨.slice e size,s1,z1,b1⟩) {td:TD} {z:List Value} (he:T.get e=some ⟨td,size,z,by_⟩) (hown:M9 e size a n cap xs (hl w)):
  (execOp ac.eval o).run P w= .ok (.value (slv a n cap)) w:=by
 obtain⟨d,f,zv,ok⟩:=i3 (hT.get hst);obtain⟨fe,rfl,g1,g2⟩:=ok.slice rfl;obtain⟨d',f',zv',ok'⟩:=i3 (hT.get he);have hf:fe=f':=by have:=g1.symm.trans ok'.hf;injection this
 subst hf;have ex:=i6 hen hx;have ey:=i6 hen hy;simp only[Slot.val,hvx,hvy]at ex ey;have hr:=run_append_owned_none (P:=P) w 0 st o.type e fe size ok.hd ok'.hf _ n xs (a3u hown);simp only[execOp,hop,resolve,Sem.run_bind,Sem.run_pure,Result.andThen_ok,invoke,builtin,List.map_toArray,List.map_cons,List.map_nil,ex,ey,hr]
theorem J.appendO (hX:IsCx X P rs N F Post) (hT:TabOK P T) {ops:Array Oper} {C:Cl} {lt:Bool} {i:Nat} {t:PT} {o:Oper} {x y:Operand} {st e size by_:Nat} {ks tgs:Nat} {gs:G} {a:Option Nat} {n cap:Nat} {xs:List Value} {ky tgy:Nat} {gy:G} {ay:Option Nat} {m cy:Nat} {cs:List Value} {s1 b1:Nat} {z1:List Value} {E':Value->Env} (is iy:Nat)
  (ho:n7 ops.toList i=some o) (hg:gd ops.toList E o=some .tt) (hop:o.op= .call ⟨.builtin .append,#[x,y],#[st,st]⟩)
  (hx:ev E x=some ⟨ks,slv a n cap,tgs,gs⟩) (hvx:gs.on=true) (hy:ev E y=some ⟨ky,slv ay m cy,tgy,gy⟩) (hvy:gy.on=true)
  (hLs:n7 L is=some (c9 e size a n cap xs)) (hLy:n7 L iy=some (c9 e size ay m cy cs)) (hst:T.get st=some ⟨.slice e size,s1,z1,b1⟩) {td:TD} {z:List Value} (he:T.get e=some ⟨td,size,z,by_⟩) (hz:Nat.beq z.length size=true)
  (hsz:Nat.blt 0 size=true) (h1:∀u∈cs,u.oneCell'=true) (h63:n+m<=maxLen) (hbytes:(n+m)*by_<=140737488355328)
  (hd:∀v,C6 N o.dst v 0 .tt E=some (E' v))
  (hJ:∀a' cap',∃L',A8 L is (c9 e size a' (n+m) cap' (xs++cs))=some L'/\Conj (q9 lt C L')/\J X (.reg ops C t::K) (E' (slv a' (n+m) cap')) L'):J X (.reg ops C (.alt lt i t .non)::K) E L:=by
 cases ay with
 | some b=>exact J.appendR hX hT (oo:=0) is iy 0 ho hg rfl hop hx hvx hy hvy hLs hLy (C7 _ _ (some b) _ _ _) hst he hz hsz h1 h63 hbytes hd hJ
 | none=>
  rw[m9]at hLs hLy;refine J.know (p:=cs.length=m*size/\m=0/\cy=0) (λh s=>(show M9 e size none m cy cs h from s.get hLy)) λhk=>?_;obtain⟨q1,rfl,rfl⟩:=hk;have hcs:cs=[]:=List.eq_nil_of_length_eq_zero (by rw[q1,Nat.zero_mul]);subst hcs;obtain⟨L',e1,e2,e3⟩:=hJ a cap;rw[Nat.add_zero,List.append_nil]at e1;rw[Nat.add_zero]at e3;have hL:L'=L:=by
   rw[A7 e1];apply List.ext_getElem?;intro j;rw[List.getElem?_set];split
   ·rename_i e;subst e;split
    ·exact hLs.symm
    ·rename_i e4;rw[List.getElem?_eq_none (by omega)]
   ·rfl
  subst hL;exact J.val hX (slv a n cap) 0 ho hg (λ_ ac w hen hs=>Y4 hT hop hx hvx hy hvy hen hst he (show M9 e size a n cap xs (hl w)from hs.get hLs)) (hd _) e2 e3
end
def FOk (m:Nat) (L:List Fnd) (Z:List FSlot):Prop:=Z.map (·.l)=(List.range m).map λk:Nat=>V.of L (k:Int)
theorem FOk.len {m:Nat} {L:List Fnd} {Z:List FSlot} (h:FOk m L Z):Z.length=m:=by have:=congrArg List.length h;simpa using this
theorem FOk.get {m:Nat} {L:List Fnd} {Z:List FSlot} (h:FOk m L Z) {k:Nat} (hk:k<m):∃z,Z[k]? =some z/\z.l=V.of L (k:Int):=by
 have hl:=h.len;refine⟨Z[k],List.getElem?_eq_getElem (by omega),?_⟩;have:=congrArg (λl=>l[k]?) h;simp only[List.getElem?_map,List.getElem?_range hk,List.getElem?_eq_getElem (show k<Z.length by omega),Option.map_some,Option.some.injEq]at this;exact this
theorem FOk.zero (m:Nat):FOk m [] (List.replicate m ⟨none,0,[]⟩):=by
 unfold FOk;apply List.ext_getElem?;intro i;rw[List.getElem?_map,List.getElem?_replicate,List.getElem?_map]
 by_cases h:i<m
 ·rw[if_pos h,List.getElem?_range h];simp[V.of]
 ·rw[if_neg h,List.getElem?_eq_none (by simp;omega)];rfl
theorem FOk.hit {m:Nat} {L:List Fnd} {Z:List FSlot} (h:FOk m L Z) {x:Fnd} {k:Nat} (hx:x.en.lpn=(k:Int)) {z z':FSlot} (hz:Z[k]? =some z) (hz':z'.l=z.l++[x]):FOk m (L++[x]) (Z.set k z'):=by
 have hl:=h.len;have hk:k<Z.length:=(List.getElem?_eq_some_iff.1 hz).1;have hzl:z.l=V.of L (k:Int):=by
  obtain⟨z2,h1,h2⟩:=h.get (k:=k) (by omega);rw[hz]at h1;injection h1 with h1;subst h1;exact h2
 unfold FOk;rw[List.map_set,show Z.map (·.l)=_ from h,hz',hzl];apply List.ext_getElem?;intro i;rw[List.getElem?_set,List.getElem?_map,List.getElem?_map]
 by_cases e:k=i
 ·subst e;rw[if_pos rfl,if_pos (by simp;omega),List.getElem?_range (by omega),Option.map_some,V.of_snoc,if_pos hx]
 ·rw[if_neg e]
  by_cases h2:i<m
  ·rw[List.getElem?_range h2,Option.map_some,Option.map_some,V.of_snoc,if_neg (by omega)]
  ·rw[List.getElem?_eq_none (by simp;omega)];rfl
theorem FOk.miss {m:Nat} {L:List Fnd} {Z:List FSlot} (h:FOk m L Z) {x:Fnd} (hx:(m:Int)<=x.en.lpn):FOk m (L++[x]) Z:=by
 unfold FOk;rw[show Z.map (·.l)=_ from h];apply List.map_congr_left;intro i hi;rw[List.mem_range]at hi;rw[V.of_snoc,if_neg (by omega)]
theorem FOk.le {m:Nat} {L:List Fnd} {Z:List FSlot} (h:FOk m L Z) {k:Nat} {z:FSlot} (hz:Z[k]? =some z):z.l.length<=L.length:=by
 have hl:=h.len;have hk:k<Z.length:=(List.getElem?_eq_some_iff.1 hz).1;obtain⟨z2,h1,h2⟩:=h.get (k:=k) (by omega);rw[hz]at h1;injection h1 with h1;subst h1
 rw[h2];exact V.of_len L k
theorem a0G {α β:Type} (f:α->List β) (c:Nat) (l:List α) (h:∀x∈l,(f x).length<=c):(l.flatMap f).length<=c*l.length:=by
 induction l with
 | nil=>simp
 | cons x l ih=>
  rw[List.flatMap_cons,List.length_append,List.length_cons];have:=h x (List.mem_cons_self ..);have:=ih (λy hy=>h y (List.mem_cons_of_mem _ hy));rw[Nat.mul_add];omega
theorem a0W (N:Nand) (hN:N.Ok) (b r:Int):(R.all N b r).length<=42:=by
 have hbd:=hN.bd;have:=a3x N b r (M.masks N b r).length (by omega);unfold a0Z at this
 rwa [List.take_length]at this
theorem b4r (N:Nand) (hN:N.Ok) (b:Nat) (hb:b<=16):(V.upB N b).length<=5376:=by
 have hbd:=hN.bd;unfold V.upB;have:=a0G (λb:Nat=>(List.range N.pages).flatMap λr=>R.all N (b:Nat) (r:Nat)) 336 (List.range b) (λx _=>by
  have:=a0G (λr:Nat=>R.all N (x:Nat) (r:Nat)) 42 (List.range N.pages) (λr _=>a0W N hN _ _);rw[List.length_range]at this;omega)
 rw[List.length_range]at this;omega
theorem b4p (N:Nand) (hN:N.Ok) (b r:Nat) (hb:b<=16) (hr:r<=8):(V.upR N b r).length<=5712:=by
 have h1:=b4r N hN b hb;have:=a0G (λr:Nat=>R.all N (b:Nat) (r:Nat)) 42 (List.range r) (λr _=>a0W N hN _ _);rw[List.length_range]at this;unfold V.upR;rw[List.length_append];omega
theorem b4q (N:Nand) (hN:N.Ok) (b r i:Nat) (hb:b<=16) (hr:r<=8):(V.upI N b r i).length<=5754:=by
 have h1:=b4p N hN b r hb hr;have:=a0W N hN b r;unfold V.upI;rw[List.length_append,List.length_take];omega
theorem b6m (N:Nand) (b:Nat):∀f∈V.upB N b,a1T f.en:=by
 intro f h;unfold V.upB at h;rw[List.mem_flatMap]at h;obtain⟨_,_,h⟩:=h;rw[List.mem_flatMap]at h;obtain⟨_,_,h⟩:=h;exact(a1K h).2.2
theorem b6k (N:Nand) (b r:Nat):∀f∈V.upR N b r,a1T f.en:=by
 intro f h;unfold V.upR at h;rw[List.mem_append]at h;rcases h with h | h
 ·exact b6m N b f h
 ·rw[List.mem_flatMap]at h;obtain⟨_,_,h⟩:=h;exact(a1K h).2.2
theorem b6l (N:Nand) (b r i:Nat):∀f∈V.upI N b r i,a1T f.en:=by
 intro f h;unfold V.upI at h;rw[List.mem_append]at h;rcases h with h | h
 ·exact b6k N b r f h
 ·exact(a1K (List.mem_of_mem_take h)).2.2
theorem Sep.ofAll {L:List Atom} {h:Hl} (hL:∀A∈L,∀h,A.sat h):Sep L h:=⟨λ_=>0,λi A hA=>hL A (List.mem_of_getElem? hA) _⟩
def svL (q:Nat) (torn:Value) (first:Int) (held:Value) (next pages:Int):List Value:=[pp q,torn,iI first,held,iI next,iI pages]
def svV (q:Nat) (S:Scd) (a1:Option Nat) (c1:Nat) (a2:Option Nat) (c2:Nat):Value:= .agg (svL q (slv a1 S.torn.length c1) S.first (slv a2 S.held.length c2) S.next S.pages).toArray
def sv0 (q:Nat) (L:List Fnd):List Value:=svL q (.slice none 0 0) 0 (.slice none 0 0) (V.nextOf L) L.length
theorem a2j {α:Type} (x:α):∀n:Nat,(List.replicate n [x]).flatten=List.replicate n x
 | 0=>rfl
 | n+1=>by rw[List.replicate_succ,List.replicate_succ,List.flatten_cons,a2j x n];rfl
theorem b1b (m:Nat):(List.replicate m [Value.slice none 0 0]).flatten=a0b (List.replicate m ⟨none,0,[]⟩):=by
 rw[a2j];unfold a0b;rw[List.map_replicate];rfl
theorem b1c {Z:List FSlot} {k:Int} {z:FSlot} (h:Z[k.toNat]? =some z):(a0b Z)[0+k.toNat*1]? =some z.hdr:=by
 rw[show 0+k.toNat*1=k.toNat from by omega,a0b,List.getElem?_map,h];rfl
theorem b6K (a b:Int):(if b>a then b else a)=max a b:=by split<;>omega
theorem a8P (l m:List Int):f9 l++f9 m=f9 (l++m):=by simp[f9]
theorem a8R (l m:List En):d6 l++d6 m=d6 (l++m):=by simp[d6]
theorem a8O (l:List Int):∀u∈f9 l,u.oneCell'=true:=by
 intro u hu;simp only[f9,List.mem_map]at hu;obtain⟨x,_,rfl⟩:=hu;rfl
theorem b1L (p:Nat) (N:Nand) (hN:N.Ok) (hR:N.Room) (hoff:N.off=false) (n:Int):FP 75 [pp p,iI n] [i5 p N]
  (λv As=>∃q a1 c1 a2 c2,v= .tuple #[svV q (V.scan N n) a1 c1 a2 c2,iI 0]/\As=[i5 p N,TbA q (V.scan N n).tb,c9 135 19 a1 (V.scan N n).torn.length c1 (d6 (V.scan N n).torn),c9 3 1 a2 (V.scan N n).held.length c2 (f9 (V.scan N n).held)]):=by
 have hbd:=hN.bd;refine FE [2,0] Tryz.func75 λX F hX=>?_;refine J.q λbr=>?_;refine J.cF ?_;refine J.qp (V6 p N) [1] λ_=>?_;rw[hoff];refine J.qF λ_=>?_;refine J.qc (a8l n) [] λ_=>?_;rintro v As ⟨q,rfl,rfl⟩;refine⟨_,rfl,trivial,?_⟩;refine J.qn 11 λbo=>?_;rw[b1T];obtain⟨m,hm⟩:∃m:Nat,min (max n 0) 65536=(m:Int):=⟨(min (max n 0) 65536).toNat,by omega⟩;have hms:V.size n=m:=by unfold V.size;omega
 have hm1:m<=65536:=by omega
 rw[hm];refine J.mk 6 λg=>?_;rw[b1b];refine J.q λbs=>?_;refine J.turn1 [] rfl (As:=[.hp (HP.of (a1k (List.replicate m ⟨none,0,[]⟩)))]) (λh s=>Sep.hpOf.2 (Sep.ofAll λA hA h=>by
  unfold a1k at hA;rw[List.map_replicate,List.mem_replicate]at hA;rw[hA.2];exact⟨rfl,rfl,rfl⟩)) rfl ?_
 refine J.qp (U0 p N) [1] λ_=>?_;refine J.q λ_=>?_;refine J.l (α:=(Nat×List FSlot)) (λz=>z.1<=N.blocks/\FOk m (V.upB N z.1) z.2) (λz=>[si 38 z.1,si 37 N.blocks,⟨0,pp p,2, .tt⟩,⟨4,pp (br 0),3, .tt⟩,⟨6,pp (bo 0),5, .tt⟩,⟨7,pp (bs 0),7, .tt⟩]) [4,5,7] (λz=>[.pt (bo 0) 123 (sv0 q (V.upB N z.1)), .pt g 187 (a0b z.2), .hp (HP.of (a1k z.2))]) (λz=>N.blocks-z.1) ((0,List.replicate m ⟨none,0,[]⟩)) (⟨Nat.zero_le _,FOk.zero m⟩) λz hI=>?_;obtain⟨b,Z⟩:=z;dsimp only at hI ⊢;obtain⟨hb,hZ⟩:=hI;refine J.qd (λ_ h1=>?_) λ_ h1=>?_
 ·simp only[decide_eq_true_eq,Int.ofNat_lt]at h1;refine J.qp (U0 p N) [1] λ_=>?_;rw[<- V.upR_zero]at hZ;rw[<- V.upR_zero];refine J.q λ_=>?_;refine J.l (α:=(Nat×List FSlot)) (λz=>z.1<=N.pages/\FOk m (V.upR N b z.1) z.2) (λz=>[si 44 z.1,si 43 N.pages,si 8 b,si 38 b,si 37 N.blocks,⟨0,pp p,2, .tt⟩,⟨4,pp (br 0),3, .tt⟩,⟨6,pp (bo 0),5, .tt⟩,⟨7,pp (bs 0),7, .tt⟩]) [4,5,7] (λz=>[.pt (bo 0) 123 (sv0 q (V.upR N b z.1)), .pt g 187 (a0b z.2), .hp (HP.of (a1k z.2))]) (λz=>N.pages-z.1) ((0,Z)) (⟨Nat.zero_le _,hZ⟩) λz hI=>?_;clear hZ Z;obtain⟨r,Z⟩:=z;dsimp only at hI ⊢;obtain⟨hr,hZ⟩:=hI;refine J.qd (λ_ h2=>?_) λ_ h2=>?_
  ·simp only[decide_eq_true_eq,Int.ofNat_lt]at h2;refine J.qc (b5Y p N hN hR b r) [1] λ_=>?_;rintro v As ⟨al,cl,rfl,rfl⟩;refine⟨_,rfl,trivial,?_⟩;rw[<- V.upI_zero]at hZ;rw[<- V.upI_zero];refine J.q λ_=>?_;refine J.l (α:=(Nat×List FSlot)) (λz=>z.1<=(R.all N b r).length/\FOk m (V.upI N b r z.1) z.2) (λz=>[si 52 z.1,⟨51,iI (R.all N b r).length,0, .tt⟩,sv 50 (slv al (R.all N b r).length cl),si 9 r,si 44 r,si 43 N.pages,si 8 b,si 38 b,si 37 N.blocks,⟨0,pp p,2, .tt⟩,⟨4,pp (br 0),3, .tt⟩,⟨6,pp (bo 0),5, .tt⟩,⟨7,pp (bs 0),7, .tt⟩]) [4,5,7] (λz=>[.pt (bo 0) 123 (sv0 q (V.upI N b r z.1)), .pt g 187 (a0b z.2), .hp (HP.of (a1k z.2))]) (λz=>(R.all N b r).length-z.1) ((0,Z)) (⟨Nat.zero_le _,hZ⟩) λz hI=>?_;clear hZ Z;obtain⟨i,Z⟩:=z;dsimp only at hI ⊢;obtain⟨hi,hZ⟩:=hI;refine J.qd (λ_ h3=>?_) λ_ h3=>?_
   ·simp only[decide_eq_true_eq,Int.ofNat_lt]at h3;obtain⟨x,hx⟩:∃x,(R.all N b r)[i]? =some x:=⟨_,List.getElem?_eq_getElem h3⟩;have hup:=V.upI_succ hx;have hrl:=a0W N hN b r;have hxb:=(a1K (List.mem_of_getElem? hx)).2.2;have hul:=b4q N hN b r i (by omega) (by omega);have hnb:=V.nextOf_bd (b6l N b r i);refine J.know (λh' s=>i7 (c:=(al,cl)) (by omega) (s.get (i:=8) rfl)) λhg=>?_;obtain⟨gl,rfl⟩:=hg;refine J.q λ_=>?_;refine J.v (fdV x) rfl rfl (λhg a w he hs=>?_) ?_
    ·exact o0 tk rfl rfl he rfl rfl rfl (hs.get (i:=8) rfl) (by rw[show 0+(i:Int).toNat*25=i*25 from by omega];exact Q9 hx) rfl
    unfold a1T at hxb;refine J.q λbf=>?_;have hn1:V.nextOf (V.upI N b r (i+1))=max (V.nextOf (V.upI N b r i)) (x.en.seq+1):=by rw[hup,V.nextOf_snoc]
    have hn2:((V.upI N b r i).length:Int)+1=((V.upI N b r (i+1)).length:Int):=by rw[hup,List.length_append];rfl
    rw[b6K,<- hn1,hn2];refine J.p (.of [0,4,9,12,16,20,25,28,32]) [] [6,9] λ_=>?_;refine J.qd (λ_ h4=>?_) λ_ h4=>?_
    ·simp only[decide_eq_true_eq]at h4;obtain⟨z,hz,hzl⟩:=hZ.get (k:=x.en.lpn.toNat) (by omega);have hzle:=hZ.le hz;have hZl:=hZ.len;refine J.openAt 7 x.en.lpn.toNat rfl rfl (a1j hz) rfl ?_;refine J.pn 15 (.of [0,4,8,13,16,20,25,28,32,36,41,44,48,53,56,61,65,70,74,76,83]) [19,20] [5,6,9] λ_ _=>?_;refine J.vT z.hdr rfl rfl (λhg a w he hC=>i4 tk rfl rfl he rfl rfl rfl (hC rfl _ (g7 (i:=5) rfl)) (b1c hz)) ?_;refine J.q λ_=>?_;refine J.append hX tk 10 11 0 rfl rfl rfl rfl rfl rfl rfl rfl rfl rfl rfl rfl rfl rfl rfl rfl ?_ ?_ (λ_=>rfl) λa' c'=>⟨_,(congrArg (λy=>A8 _ 10 (c9 _ _ _ _ _ y)) (a0i z.l x).symm).trans rfl,⟨rfl,rfl,rfl,trivial⟩,?_⟩
     ·simp only[maxLen];omega
     ·omega
     rw[show z.l.length+1=(z.l++[x]).length from by simp];refine J.q λ_=>?_;have hhit:=hZ.hit (x:=x) (k:=x.en.lpn.toNat) (by omega) hz (z':=⟨a',c',z.l++[x]⟩) rfl;refine J.s1 5 (a0b (Z.set x.en.lpn.toNat ⟨a',c',z.l++[x]⟩)) ?_ ?_ ?_
     ·rw[show(a0b Z).length=Z.length from by simp[a0b]];omega
     ·rw[show 0+x.en.lpn.toNat*1=x.en.lpn.toNat from by omega];exact b3s Z _ ⟨a',c',z.l++[x]⟩
     refine J.closeAt (A:=(FSlot.mk a' c' (z.l++[x])).atom) 7 10 x.en.lpn.toNat rfl rfl rfl ?_;rw[b3H];refine J.q λ_=>?_;refine J.n ((i+1,Z.set x.en.lpn.toNat ⟨a',c',z.l++[x]⟩)) (⟨by dsimp only;omega,by dsimp only;rw[hup];exact hhit⟩) (by dsimp only;omega) [0,1,2,3,4,5,6,7,8]
    ·simp only[decide_eq_false_iff_not]at h4;have hmiss:=hZ.miss (x:=x) (by omega);refine J.q λ_=>?_;refine J.n ((i+1,Z)) (⟨by dsimp only;omega,by dsimp only;rw[hup];exact hmiss⟩) (by dsimp only;omega) [0,1,2,3,4,5,6,7,8]
   ·simp only[decide_eq_false_iff_not,Int.ofNat_lt]at h3;obtain rfl:i=(R.all N b r).length:=by omega
    rw[<- V.upR_succ]at hZ;rw[<- V.upR_succ];refine J.q λ_=>?_;refine J.n ((r+1,Z)) (⟨by dsimp only;omega,hZ⟩) (by dsimp only;omega) [0,1,2,3,4,5,6,7]
  ·simp only[decide_eq_false_iff_not,Int.ofNat_lt]at h2;obtain rfl:r=N.pages:=by omega
   rw[<- V.upB_succ]at hZ;rw[<- V.upB_succ];refine J.q λ_=>?_;refine J.n ((b+1,Z)) (⟨by dsimp only;omega,hZ⟩) (by dsimp only;omega) [0,1,2,3,4,5,6,7]
 simp only[decide_eq_false_iff_not,Int.ofNat_lt]at h1;obtain rfl:b=N.blocks:=by omega
 rw[V.upB_all]at hZ;rw[V.upB_all];have hZl:=hZ.len;have hLb:∀f∈V.all N,a1T f.en:=λf hf=>(a8X hf).2;have hLl:=a9U N hN;subst hZl;refine J.q λ_=>?_;refine J.turn1 [] rfl (As:=[c9 135 19 none 0 0 (d6 []),c9 3 1 none 0 0 (f9 []),c9 135 19 none 0 0 (d6 [])]) (λh s=>Sep.ofAll λA hA h=>by
  simp only[List.mem_cons,List.not_mem_nil,or_false]at hA;rcases hA with rfl | rfl | rfl<;>exact⟨rfl,rfl,rfl⟩) rfl ?_
 refine J.q λ_=>?_;refine J.l (α:=(Nat×(Option Nat×Nat)×(Option Nat×Nat)×(Option Nat×Nat))) (λz=>z.1<=Z.length) (λz=>[si 105 z.1,si 104 Z.length,⟨12,slv z.2.2.2.1 (V.goS N (V.all N) n z.1).others.length z.2.2.2.2,0, .tt⟩,⟨0,pp p,2, .tt⟩,⟨4,pp (br 0),3, .tt⟩,⟨6,pp (bo 0),5, .tt⟩,⟨7,pp (bs 0),7, .tt⟩]) [3,4,8,9,10] (λz=>[TbA q (V.goS N (V.all N) n z.1).tb, .pt (bo 0) 123 (svL q (slv z.2.1.1 (V.goS N (V.all N) n z.1).torn.length z.2.1.2) 0 (slv z.2.2.1.1 (V.goS N (V.all N) n z.1).held.length z.2.2.1.2) (V.nextOf (V.all N)) (V.all N).length),c9 135 19 z.2.1.1 (V.goS N (V.all N) n z.1).torn.length z.2.1.2 (d6 (V.goS N (V.all N) n z.1).torn),c9 3 1 z.2.2.1.1 (V.goS N (V.all N) n z.1).held.length z.2.2.1.2 (f9 (V.goS N (V.all N) n z.1).held),c9 135 19 z.2.2.2.1 (V.goS N (V.all N) n z.1).others.length z.2.2.2.2 (d6 (V.goS N (V.all N) n z.1).others)]) (λz=>Z.length-z.1) ((0,(none,0),(none,0),(none,0))) (Nat.zero_le _) λz hI=>?_;obtain⟨k,⟨a1,c1⟩,⟨a2,c2⟩,⟨a3,c3⟩⟩:=z;dsimp only at hI ⊢;have hgl:=V.goS_len N (V.all N) n k;have hgh:=V.goS_held N (V.all N) n k;refine J.qd (λ_ h2=>?_) λ_ h2=>?_
 ·simp only[decide_eq_true_eq,Int.ofNat_lt]at h2;obtain⟨z,hz,hzl⟩:=hZ.get (k:=k) h2;have hzle:=hZ.le hz;have hstep:=V.goS_succ N (V.all N) n k;have hok:=V.goS_ok N (V.all N) n k;have hhl:=V.holds_len (V.of (V.all N) k);have hol:=V.of_len (V.all N) k;have hsm:=V.standOf_mem (l:=V.of (V.all N) k);generalize hS:V.goS N (V.all N) n k=S at hgl hgh hstep hok;refine J.qp (b1J (bs 0) p g Z k z hz (by omega) (by omega)) [6,5,7] λ_=>?_;rw[hzl];unfold V.step at hstep;obtain⟨f,is,hs⟩:∃f is,V.standOf (V.of (V.all N) k)=(f,is):=⟨_,_,rfl⟩;rw[hs]at hsm hstep ⊢;dsimp only at hsm hstep ⊢;refine J.q λbf=>?_;refine J.cond rfl (λh3=>?_) (λh3=>?_)
  ·simp only[Bool.not_eq_true']at h3;subst h3;rw[if_neg Bool.false_ne_true]at hstep;rw[<- hstep];refine J.q λ_=>?_;refine J.n ((k+1,(a1,c1),(a2,c2),(a3,c3))) (by dsimp only;omega) (by dsimp only;omega) [0,1,2,3,4,5,6,7,8,9,10]
  simp only[Bool.not_eq_false']at h3;subst h3;rw[if_pos rfl]at hstep;have hfm:f∈V.all N:=by have:=hsm rfl;unfold V.of at this;exact(List.mem_filter.1 this).1
  obtain⟨⟨r0,hr0,hr1⟩,hfb⟩:=a8X hfm;unfold a1T at hfb;refine J.qp (a2Y q S.tb f.en f.block f.row f.slot f.mask (by omega) hok.bd) [3] λ_=>?_;refine J.qd (λ_ h4=>?_) λ_ h4=>?_
  ·rw[if_pos h4]at hstep;have e1:=congrArg Sst.tb hstep;have e2:=congrArg Sst.torn hstep;have e3:=congrArg Sst.held hstep;have e4:=congrArg Sst.others hstep;dsimp only at e1 e2 e3 e4;rw[<- e1,<- e2,<- e3,<- e4];refine J.q λ_=>?_;refine J.n ((k+1,(a1,c1),(a2,c2),(a3,c3))) (by dsimp only;omega) (by dsimp only;omega) [0,1,2,3,4,5,6,7,8,9,10]
  rw[if_neg (by rw[h4];exact Bool.false_ne_true)]at hstep;refine J.qp (b6j p N hN hR (bs 0) (.slice (some ⟨g,0,none⟩) Z.length Z.length) f r0 hr0 (by omega)) [1,6] λ_=>?_;refine J.qd (λ_ h5=>?_) λ_ h5=>?_
  ·rw[if_pos h5]at hstep;have e1:=congrArg Sst.tb hstep;have e2:=congrArg Sst.torn hstep;have e3:=congrArg Sst.held hstep;have e4:=congrArg Sst.others hstep;dsimp only at e1 e2 e3 e4;refine J.q λ_=>?_;refine J.ap 8 12 0 (J0 S.torn f.en) λa4 c4=>?_;rw[show S.torn.length+1=(S.torn++[f.en]).length from by simp];refine J.p (.of [0,5,8,12,18,23,24,31]) [5,6,7] [4] λ_=>?_;refine J.qc (b4n (bs 0) p g Z k z hz (by omega) (by omega)) [6,5,7] λ_=>?_;rintro v As ⟨a5,c5,rfl,rfl⟩;refine⟨_,rfl,stq,?_⟩;rw[hzl];refine J.q λ_=>?_;refine J.appendO hX tk 9 13 rfl rfl rfl rfl rfl rfl rfl rfl rfl rfl rfl rfl rfl (a8O _) ?_ ?_ (λ_=>rfl) λa6 c6=>⟨_,(congrArg (λy=>A8 _ 9 (c9 _ _ _ _ _ y)) (a8P S.held (V.holds (V.of (V.all N) k)))).trans rfl,stq,?_⟩
   ·simp only[maxLen];omega
   ·omega
   rw[show S.held.length+(V.holds (V.of (V.all N) k)).length=(S.held++V.holds (V.of (V.all N) k)).length from by simp];rw[<- e1,<- e2,<- e3,<- e4];refine J.q λ_=>?_;refine J.n ((k+1,(a4,c4),(a6,c6),(a3,c3))) (by dsimp only;omega) (by dsimp only;omega) [0,1,2,3,4,5,6,7,8,9,10]
  ·rw[if_neg (by rw[h5];exact Bool.false_ne_true)]at hstep;have e1:=congrArg Sst.tb hstep;have e2:=congrArg Sst.torn hstep;have e3:=congrArg Sst.held hstep;have e4:=congrArg Sst.others hstep;dsimp only at e1 e2 e3 e4;refine J.q λ_=>?_;refine J.ap 10 12 0 (J0 S.others f.en) λa4 c4=>?_;rw[show S.others.length+1=(S.others++[f.en]).length from by simp];rw[<- e1,<- e2,<- e3,<- e4];refine J.q λ_=>?_;refine J.n ((k+1,(a1,c1),(a2,c2),(a4,c4))) (by dsimp only;omega) (by dsimp only;omega) [0,1,2,3,4,5,6,7,8,9,10]
 simp only[decide_eq_false_iff_not,Int.ofNat_lt]at h2;obtain rfl:k=Z.length:=by omega
 have hsc:V.scan N n=⟨(V.goS N (V.all N) n Z.length).tb,(V.goS N (V.all N) n Z.length).torn++(V.goS N (V.all N) n Z.length).others,(V.goS N (V.all N) n Z.length).torn.length,n8 (J2 (V.goS N (V.all N) n Z.length).held),V.nextOf (V.all N),(V.all N).length⟩:=by
  unfold V.scan V.scanOf;rw[hms]
 generalize V.goS N (V.all N) n Z.length=S at hgl hgh hsc;refine J.q λ_=>?_;refine J.appendO hX tk 8 10 rfl rfl rfl rfl rfl rfl rfl rfl rfl rfl rfl rfl rfl (a4g _) ?_ ?_ (λ_=>rfl) λa6 c6=>⟨_,(congrArg (λy=>A8 _ 8 (c9 _ _ _ _ _ y)) (a8R S.torn S.others)).trans rfl,stq,?_⟩
 ·simp only[maxLen];omega
 ·omega
 rw[show S.torn.length+S.others.length=(S.torn++S.others).length from by simp];refine J.qp (b4h a2 S.held.length c2 S.held rfl (by omega)) [9] λ_=>?_;refine J.q λ_=>?_;refine J.ca hX (by kernel_rfl) (a4F a2 S.held.length c2 (J2 S.held) (T7 _) (by omega)) [9] 0 rfl rfl rfl rfl rfl rfl (λ_=>rfl) ?_;rintro v As ⟨l',hl',rfl,rfl⟩;refine⟨_,rfl,trivial,?_⟩;refine J.qr [1,3,8,9] λ_=>?_;rw[hsc,<- hl'];exact⟨q,a6,c6,a2,c2,rfl,rfl⟩
end Go.Proofs.YtpohajhbfllbbaaGreat
namespace Go.Proofs.YtpohajhbfllbbaaGreat
def a3A (l:List Int):List Int:=n8 (J2 l)
theorem W8:∀(l:List Int) (p:Int),(p::l).Pairwise (· <= ·)->(p6 p l).Pairwise (· < ·)/\(∀c∈p6 p l,p<c)/\∀c,c∈p6 p l\/c=p↔c∈l\/c=p
 | [],p,_=>by simp[p6]
 | x::l,p,h=>by
  have h1:=List.pairwise_cons.1 h;simp only[p6]
  by_cases e:x=p
  ·subst e;obtain⟨a,b,c⟩:=W8 l x h1.2;rw[if_pos rfl];refine⟨a,b,λd=>?_⟩;rw[c d,List.mem_cons];constructor
   ·rintro(h | h)<;>simp[h]
   ·rintro((h | h) | h)<;>simp[h]
  ·obtain⟨a,b,c⟩:=W8 l x h1.2;have hx:p<x:=by have:=h1.1 x (List.mem_cons_self ..);omega
   rw[if_neg e];refine⟨List.pairwise_cons.2 ⟨b,a⟩,λd hd=>?_,λd=>?_⟩
   ·rcases List.mem_cons.1 hd with rfl | hd
    ·exact hx
    ·have:=b d hd;omega
   ·have:=c d;rw[List.mem_cons,List.mem_cons];constructor
    ·rintro((h | h) | h)
     ·simp[h]
     ·rcases this.1 (.inl h)with h | h<;>simp[h]
     ·simp[h]
    ·rintro((h | h) | h)
     ·simp[h]
     ·rcases this.2 (.inl h)with h | h<;>simp[h]
     ·simp[h]
theorem a5O (l:List Int):(J2 l).Pairwise (· <= ·):=by
 have:=List.pairwise_mergeSort (le:=leI) (λa b c h1 h2=>by simp only[leI,decide_eq_true_eq]at*;omega) (λa b=>by simp only[leI,Bool.or_eq_true,decide_eq_true_eq];omega) l;exact this.imp (λh=>by simpa[leI]using h)
theorem b0k (l:List Int) (c:Int):c∈J2 l↔c∈l:=List.mem_mergeSort
theorem a8v (l:List Int):(a3A l).Pairwise (· < ·)/\∀c,c∈a3A l↔c∈l:=by
 have hs:=a5O l;have hm:=b0k l;unfold a3A
 revert hs hm
 cases J2 l with
 | nil=>intro _ hm;exact⟨by simp[n8],λc=>by rw[<- hm c];simp[n8]⟩
 | cons x m=>
  intro hs hm;obtain⟨a,b,c⟩:=W8 m x hs;refine⟨List.pairwise_cons.2 ⟨b,a⟩,λd=>?_⟩;rw[<- hm d];show d∈x::p6 x m↔_;rw[List.mem_cons,List.mem_cons];have:=c d;constructor
  ·rintro(h | h)
   ·simp[h]
   ·rcases this.1 (.inl h)with h | h<;>simp[h]
  ·rintro(h | h)
   ·simp[h]
   ·rcases this.2 (.inl h)with h | h<;>simp[h]
theorem a1B:a3A []=[]:=by have:=(a8v []).2;exact List.eq_nil_iff_forall_not_mem.2 (λc hc=>by simpa using(this c).1 hc)
theorem b0C (l:List Int):(a3A l).length<=l.length:=by
 have h:∀(l:List Int),(n8 l).length<=l.length:=λl=>by
  have:∀(l:List Int) (p:Int),(p6 p l).length<=l.length:=λl=>by
   induction l with
   | nil=>intro p;simp[p6]
   | cons x l ih=>intro p;simp only[p6];split<;>simp only[List.length_cons]<;>have:=ih x<;>have:=ih p<;>omega
  cases l with
  | nil=>simp[n8]
  | cons x l=>have:=this l x;simp only[n8,List.length_cons];omega
 have:=h (J2 l);rw[T7]at this;exact this
namespace V
theorem standOf_nil:standOf []=(Fnd.zero,false):=rfl
theorem tops_snoc (l:List Fnd) (x:Fnd):tops (l++[x])=topsStep (tops l) x:=by unfold tops;rw[List.foldl_append];rfl
theorem standOf_snoc (l:List Fnd) (x:Fnd):standOf (l++[x])=if(standOf l).2=false\/behind (standOf l).1 x=true then(x,true)else standOf l:=by
 unfold standOf;rw[tops_snoc];cases tops l with
 | nil=>simp[topsStep]
 | cons h t=>
  simp only[topsStep,Bool.true_eq_false,false_or]
  by_cases hb:behind h x=true
  ·rw[if_pos hb,if_pos hb]
  ·rw[if_neg hb,if_neg hb]
   by_cases hb2:behind x h=true
   ·rw[if_pos hb2]
   ·rw[if_neg hb2];rfl
end V
end Go.Proofs.YtpohajhbfllbbaaGreat
namespace Go.Proofs.YtpohajhbfllbbaaGreat
open Go Go.RowKit
namespace B16
def e1:En:=⟨2,5,1,1::List.replicate 15 0⟩
def e2:En:=⟨2,4,1,2::List.replicate 15 0⟩
def e3:En:=⟨1,8,2,zeros16⟩
def w1:En:=⟨4,1,0,zeros16⟩
def w2:En:=⟨5,2,0,zeros16⟩
def w3:En:=⟨4,3,0,zeros16⟩
def N0:Nand:=Nand.new 3 8 2
def N1:Nand:=(R.write N0 1 0 7 [e1,B9.pad]).1
def N2:Nand:=(R.write N1 2 0 7 [e2,e3]).1
theorem G0:N0.Gd 100 0:=Nand.Gd.new 3 8 2 rfl 100 (by decide)
theorem G1:N1.Gd 92 0:=a0M (by decide) G0
theorem G2:N2.Gd 84 0:=a0M (by decide) G1
theorem off2:N2.off=false:=by kernel_rfl
def L:List Fnd:=[⟨e1,1,0,0,7,true,false⟩,⟨e2,2,0,0,7,true,false⟩,⟨e3,2,0,1,7,true,false⟩]
def T:Tb:=⟨3,[(1,⟨2,0,1,7,8,2⟩),(2,⟨1,0,0,7,5,1⟩)],[(2,1),(1,1)],9⟩
theorem h_all:V.all N2=L:=by kernel_rfl
theorem h_go:V.goS N2 L 3 3=⟨T,[],[],[]⟩:=by kernel_rfl
theorem h_size:V.size 3=3:=by kernel_rfl
theorem h_next:V.nextOf L=9:=by kernel_rfl
theorem h_scan:V.scan N2 3=⟨T,[],0,[],9,3⟩:=by
 unfold V.scan;rw[h_all];unfold V.scanOf;rw[h_size,h_go,h_next];have:n8 (J2 [])=[]:=a1B;dsimp only;rw[this];rfl
end B16
end Go.Proofs.YtpohajhbfllbbaaGreat
namespace Go.Proofs.YtpohajhbfllbbaaGreat
open Go Go.RowKit
theorem b0P:FP 235 [] [] (Ps (.bool true) []):=by
 refine FE [] Tryz.func235 λX F hX=>?_;refine J.qp (b0O) [] λ_=>?_;exact J.qx []
open B16
theorem b0K:FP 198 [] [] (Ps (.bool true) []):=by
 refine FE [] Tryz.func198 λX F hX=>?_;refine J.qc (a4Z 3 8 2 rfl) [] λ_=>?_;rintro v As ⟨q,rfl,rfl⟩;refine⟨_,rfl,trivial,?_⟩;refine J.qF λ_=>?_;refine J.q λbx=>?_;refine J.ca hX (by kernel_rfl) (a2G q N0 (.pt (bx 0) 135 (d6 [e1,B9.pad])) 1 0 7 (some ⟨bx 0,0,none⟩) 2 2 0 [e1,B9.pad] (X7 _ _ _ _ _ rfl) rfl (by decide) (G0.less (by decide) (Nat.le_refl _))) [1,2] 0 rfl rfl rfl rfl rfl rfl (λ_=>rfl) ?_;refine cpq ⟨_,rfl,trivial,?_⟩;refine J.q λby_=>?_;refine J.ca hX (by kernel_rfl) (a2G q N1 (.pt (by_ 0) 135 (d6 [e2,e3])) 2 0 7 (some ⟨by_ 0,0,none⟩) 2 2 0 [e2,e3] (X7 _ _ _ _ _ rfl) rfl (by decide) (G1.less (by decide) (Nat.le_refl _))) [1,3] 0 rfl rfl rfl rfl rfl rfl (λ_=>rfl) ?_;refine cpq ⟨_,rfl,trivial,?_⟩;refine J.qc (b1L q N2 G2.ok G2.room off2 3) [1] λ_=>?_;rintro v As ⟨r,a1,c1,a2,c2,rfl,rfl⟩;refine⟨_,rfl,trivial,?_⟩;rw[h_scan];refine J.qF λ_=>?_;refine J.qp (a1w r T 2) [4] λ_=>?_;rw[show Tb.look T.at_ 2=some ⟨1,0,0,7,5,1⟩from rfl,Option.getD_some,Option.isSome_some];refine J.qc (b6e) [] λ_=>?_;rintro v As ⟨d,rfl,rfl⟩;refine⟨_,rfl,trivial,?_⟩;refine J.qp (a9M d [] (by decide) w1) [9] λ_=>?_;rw[show I8 [] w1=[w1]from rfl];refine J.qp (a9M d [w1] (by decide) w2) [9] λ_=>?_;rw[show I8 [w1] w2=[w1,w2]from rfl];refine J.qp (a9M d [w1,w2] (by decide) w3) [9] λ_=>?_;rw[show I8 [w1,w2] w3=[w2,w3]from rfl];refine J.qc (a9O d [w2,w3] (by decide) 5) [9] λ_=>?_;rintro v As ⟨a3,c3,rfl,rfl⟩;refine⟨_,rfl,trivial,?_⟩;rw[show dkN [w2,w3] 5=2 from rfl,show[w2,w3].take 2=[w2,w3]from rfl];refine J.know (λh' s=>i7 (c:=(a3,c3)) (by decide) (s.get (i:=10) rfl)) λhg=>?_;obtain⟨ga,rfl⟩:=hg;refine J.know (λh' s=>J4 (show M9 _ _ (some ga) 2 c3 _ _ from s.get (i:=10) rfl)) λhcap=>?_;refine J.qp (b6f d [w2,w3] (by decide) 4) [9] λ_=>?_;rw[show U8 [w2,w3] 4=(w3,true)from rfl];refine J.qp (b0P) [] λ_=>?_;refine J.qp (b0N) [] λ_=>?_;refine J.qp (b1U r T) [4] λ_=>?_;refine J.q λ_=>?_;refine J.v (iI 5) rfl rfl (λhg a w he hw=>j9 tk rfl rfl he hg rfl rfl (hw.get (i:=10) rfl) rfl) ?_;refine J.q λ_=>?_;have hRd:Rd (c9 135 19 (some ga) 2 c3 (d6 [w2,w3])) (some ⟨ga,0,none⟩) 19 1 (d6 [w2]):=(C7 135 19 (some ga) 2 c3 (d6 [w2,w3])).take 1 (by decide);refine J.qp (b3M d [w2,w3] (by decide) (c9 135 19 (some ga) 2 c3 (d6 [w2,w3])) (some ⟨ga,0,none⟩) 1 c3 [w2] hRd rfl (by decide)) [9,10] λ_=>?_;rw[show J8 [w2,w3] [w2]=[w3]from rfl];refine J.qp (a9N d [w3]) [9] λ_=>?_;exact J.qx []
end Go.Proofs.YtpohajhbfllbbaaGreat
namespace Go.Proofs.YtpohajhbfllbbaaGreat
end Go.Proofs.YtpohajhbfllbbaaGreat
namespace Go.Proofs.YtpohajhbfllbbaaGreat
open Go Go.RowKit
namespace K
theorem xor_cancel {a b c:Nat} (h:a ^^^ c=b ^^^ c):a=b:=by
 have:=congrArg (· ^^^ c) h;simpa[Nat.xor_assoc]using this
theorem round_inj {s t:Nat} (hs:s<4294967296) (ht:t<4294967296) (h:round s=round t):s=t:=by
 have odd:∀a:Nat,a % 2=0->(a ^^^ 1947962583) % 2=1:=λa ha=>by
  have h0:(a ^^^ 1947962583).testBit 0=true:=by
   rw[Nat.testBit_xor,Nat.testBit_zero,Nat.testBit_zero,decide_eq_false (by omega)];rfl
  rw[Nat.testBit_zero]at h0;exact of_decide_eq_true h0
 unfold round at h;split at h
 ·split at h
  ·omega
  ·have:=odd (t*2 % 4294967296) (by omega);omega
 ·split at h
  ·have:=odd (s*2 % 4294967296) (by omega);omega
  ·have:=xor_cancel h;omega
theorem rounds_inj:∀(n:Nat) {s t:Nat},s<4294967296->t<4294967296->rounds n s=rounds n t->s=t
 | 0,_,_,_,_,h=>h
 | n+1,s,t,hs,ht,h=>rounds_inj n hs ht (round_inj (rounds_lt n s hs) (rounds_lt n t ht) h)
theorem step_lt0 {s x:Nat} (hs:s<4294967296) (hx:x<256):s ^^^ (x*16777216)<4294967296:=Nat.xor_lt_two_pow (n:=32) (by omega) (by omega)
theorem step_inj {s t x:Nat} (hs:s<4294967296) (ht:t<4294967296) (hx:x<256) (h:step s x=step t x):s=t:=
 xor_cancel (rounds_inj 8 (step_lt0 hs hx) (step_lt0 ht hx) h)
theorem step_inj2 {s x y:Nat} (hs:s<4294967296) (hx:x<256) (hy:y<256) (h:step s x=step s y):x=y:=by
 have h1:=rounds_inj 8 (step_lt0 hs hx) (step_lt0 hs hy) h;rw[Nat.xor_comm s,Nat.xor_comm s]at h1;have:=xor_cancel h1;omega
theorem fold_inj (l:List UInt8):∀s t:Nat,s<4294967296->t<4294967296->l.foldl (λs x=>step s x.toNat) s=l.foldl (λs x=>step s x.toNat) t->s=t:=by
 induction l with
 | nil=>intro s t _ _ h;exact h
 | cons x l ih=>
  intro s t hs ht h;have hx:x.toNat<256:=x.toNat_lt;rw[List.foldl_cons,List.foldl_cons]at h;exact step_inj hs ht hx (ih _ _ (step_lt _ _ hs hx) (step_lt _ _ ht hx) h)
theorem sum_one (a b:List UInt8) (x y:UInt8) (h:sum (a++x::b)=sum (a++y::b)):x=y:=by
 unfold sum at h;rw[List.foldl_append,List.foldl_append,List.foldl_cons,List.foldl_cons]at h;have hs:=foldl_lt a 4294967295 (by omega);have hx:x.toNat<256:=x.toNat_lt;have hy:y.toNat<256:=y.toNat_lt;have:=step_inj2 hs hx hy (fold_inj b _ _ (step_lt _ _ hs hx) (step_lt _ _ hs hy) h);exact UInt8.toNat_inj.1 this
end K
namespace Bt
theorem byteAt_congr {a b:List Bool} {i j:Nat} (h:∀k,k<8->a.getD (i+k) false=b.getD (j+k) false):byteAt a i=byteAt b j:=by
 have h0:=h 0 (by omega);rw[Nat.add_zero,Nat.add_zero]at h0;unfold byteAt;rw[h0,h 1 (by omega),h 2 (by omega),h 3 (by omega),h 4 (by omega),h 5 (by omega),h 6 (by omega),h 7 (by omega)]
theorem pack_append (A C:List Bool) (q:Nat) (hA:A.length=8*q):pack (A++C)=pack A++pack C:=by
 apply List.ext_getElem?;intro j;have hl:(pack A).length=q:=by rw[length_pack,hA];omega
 rw[List.getElem?_append,hl]
 by_cases hj:j<(A.length+C.length+7)/8
 ·rw[pack_get _ _ (by rw[List.length_append];exact hj)];split
  ·rename_i h;rw[pack_get _ _ (by rw[hA];omega)];congr 2;refine byteAt_congr λk hk=>?_;simp only[List.getD_eq_getElem?_getD];rw[List.getElem?_append_left (by omega)]
  ·rename_i h;rw[pack_get _ _ (by omega)];congr 2;refine byteAt_congr λk hk=>?_;simp only[List.getD_eq_getElem?_getD];rw[List.getElem?_append_right (by omega)];congr 2;omega
 ·rw[List.getElem?_eq_none (by rw[length_pack,List.length_append];omega),if_neg (by omega),List.getElem?_eq_none (by rw[length_pack];omega)]
theorem bits_inj {u v:Nat} (hu:u<4294967296) (hv:v<4294967296) (h:pack (bits u 32)=pack (bits v 32)):u=v:=by
 have h1:=numAt_pack [] [] u 32 0 rfl;have h2:=numAt_pack [] [] v 32 0 rfl;simp only[List.nil_append,List.append_nil]at h1 h2;rw[h,h2]at h1;omega
end Bt
namespace S
theorem put_tail (s:Sh) (hs:s.data.length=16):put s=(put s).take 28++Bt.pack (Bt.bits (K.sum ((put s).take 28)) 32):=by
 have hl:(Bt.pack (head s)).length=12:=by rw[Bt.length_pack,length_head]
 have h1:put s=(s.data++Bt.pack (head s))++Bt.pack (Bt.bits (K.sum (s.data++Bt.pack (head s))) 32):=by
  unfold put;rw[Bt.pack_append _ _ 12 (length_head s),List.append_assoc]
 have h2:(put s).take 28=s.data++Bt.pack (head s):=by
  rw[h1];exact List.take_left' (by rw[List.length_append,hs,hl])
 rw[h2];exact h1
theorem turned_none (s:Sh) (hs:s.data.length=16) (N:Nat) (hN:N<32) (y:UInt8) (hy:y≠(put s).getD N 0):get ((put s).set N y)=none:=by
 have hpl:=length_put s hs;unfold get;rw[if_neg];rintro⟨_,h2⟩;have hx:(fields ((put s).set N y)).data.length=16:=by
  show(((put s).set N y).take 16).length=16;rw[List.length_take,List.length_set,hpl];rfl
 have t1:=put_tail s hs;have t2:=put_tail (fields ((put s).set N y)) hx;rw[h2]at t2;have hd:∀l:List UInt8,l.length=32->∀t,l=l.take 28++t->l.drop 28=t:=λl hl t h=>by
  have:=congrArg (List.drop 28) h
  rwa [List.drop_left' (by rw[List.length_take,hl];rfl)]at this
 have d1:=hd _ hpl _ t1;have d2:=hd _ (by rw[List.length_set];exact hpl) _ t2;have hg:(put s).getD N 0=(put s)[N]'(by omega):=by rw[List.getD_eq_getElem?_getD,List.getElem?_eq_getElem (by omega),Option.getD_some]
 rcases Nat.lt_or_ge N 28 with h | h
 ·have e1:((put s).set N y).drop 28=(put s).drop 28:=by rw[List.drop_set,if_pos h]
  rw[e1,d1]at d2;have hsum:=Bt.bits_inj (K.sum_lt _) (K.sum_lt _) d2;have hl28:((put s).take 28).length=28:=by rw[List.length_take,hpl];rfl
  have hN28:N<((put s).take 28).length:=by omega
  have hel:((put s).take 28)[N]=(put s)[N]'(by omega):=List.getElem_take;have ha:(put s).take 28=((put s).take 28).take N++(put s)[N]'(by omega)::((put s).take 28).drop (N+1):=by
   rw[<- hel,<- List.drop_eq_getElem_cons hN28,List.take_append_drop]
  have hb:((put s).set N y).take 28=((put s).take 28).take N++y::((put s).take 28).drop (N+1):=by
   rw[List.take_set,List.set_eq_take_append_cons_drop,if_pos (by omega)]
  rw[hb]at hsum;have hsum:=(congrArg K.sum ha).symm.trans hsum;exact hy ((K.sum_one _ _ _ _ hsum).symm.trans hg.symm)
 ·have e1:((put s).set N y).take 28=(put s).take 28:=by rw[List.take_set,List.set_eq_of_length_le (by rw[List.length_take,hpl];omega)]
  rw[e1]at t2;have e2:(put s).set N y=put s:=t2.trans t1.symm;have:=congrArg (λl:List UInt8=>l.getD N 0) e2;simp only[List.getD_eq_getElem?_getD,List.getElem?_set,hpl,if_pos hN,if_true,Option.getD_some]at this;rw[List.getD_eq_getElem?_getD]at hy;exact hy this
end S
namespace Bt
end Bt
namespace K
end K
namespace S
end S
section
variable {P : Program} {T : Tab} {E : Env} {n : Nat} {ac : Act} {w : World}
end
namespace F9
end F9
theorem gD {l:List Int} {i:Nat} (h:i<l.length):l[i]? =some (l.getD i 0):=by rw[List.getD_eq_getElem?_getD,List.getElem?_eq_getElem h,Option.getD_some]
theorem a0R (l:List Int) {j:Nat} (h1:1<=j) (h:j<l.length) (i:Nat):(a2Z l j).getD i 0=if i=j-1 then l.getD j 0 else if i=j then l.getD (j-1) 0 else l.getD i 0:=by
 unfold a2Z;rw[List.getD_eq_getElem?_getD,List.getElem?_set,List.length_set]
 by_cases e:j-1=i
 ·rw[if_pos e,if_pos (by omega),if_pos e.symm,Option.getD_some]
 ·rw[if_neg e,if_neg (by omega),List.getElem?_set]
  by_cases e2:j=i
  ·rw[if_pos e2,if_pos (by omega),if_pos e2.symm,Option.getD_some]
  ·rw[if_neg e2,if_neg (by omega),<- List.getD_eq_getElem?_getD]
theorem b2L {l:List Int} {x:Int}:x∈l↔∃i,i<l.length/\l.getD i 0=x:=by
 constructor
 ·intro h;obtain⟨i,hi,e⟩:=List.getElem_of_mem h;exact⟨i,hi,by rw[List.getD_eq_getElem?_getD,List.getElem?_eq_getElem hi,Option.getD_some];exact e⟩
 ·rintro⟨i,hi,e⟩;exact List.mem_of_getElem? (by rw[gD hi,e])
theorem b4A (l:List Int) {j:Nat} (h1:1<=j) (h:j<l.length) (x:Int):x∈a2Z l j↔x∈l:=by
 rw[b2L,b2L,T6];constructor
 ·rintro⟨i,hi,e⟩;rw[a0R l h1 h]at e;split at e
  ·exact⟨j,h,e⟩
  ·split at e
   ·exact⟨j-1,by omega,e⟩
   ·exact⟨i,hi,e⟩
 ·rintro⟨i,hi,e⟩
  by_cases e1:i=j
  ·exact⟨j-1,by omega,by rw[a0R l h1 h,if_pos rfl,<- e1,e]⟩
  ·by_cases e2:i=j-1
   ·exact⟨j,h,by rw[a0R l h1 h,if_neg (by omega),if_pos rfl,<- e2,e]⟩
   ·exact⟨i,hi,by rw[a0R l h1 h,if_neg e2,if_neg e1,e]⟩
theorem a6U:∀(j:Nat) (l:List Int) (x:Int),j<l.length->(x∈Y9 j l↔x∈l)
 | 0,_,_,_=>Iff.rfl
 | j+1,l,x,h=>by
  unfold Y9;split
  ·rw[a6U j _ x (by rw[T6];omega),b4A l (by omega) h]
  ·exact Iff.rfl
theorem a4K:∀(j n:Nat) (l:List Int),j<=n->n<l.length->(∀a b,a<b->b<=n->a≠j->b≠j->l.getD a 0<=l.getD b 0)->(∀b,j<b->b<=n->l.getD j 0<=l.getD b 0)->∀a b,a<b->b<=n->(Y9 j l).getD a 0<=(Y9 j l).getD b 0
 | 0,n,l,_,_,hs,hu=>λa b hab hb=>by
  unfold Y9
  by_cases e:a=0
  ·subst e;exact hu b hab hb
  ·exact hs a b hab hb e (by omega)
 | j+1,n,l,hj,hn,hs,hu=>by
  unfold Y9;split
  ·rename_i hlt;have g:=a0R l (j:=j+1) (by omega) (by omega);simp only[Nat.add_sub_cancel]at g;refine a4K j n (a2Z l (j+1)) (by omega) (by rw[T6];exact hn) (λa b hab hb ha hbj=>?_) (λb hjb hb=>?_)
   ·rw[g,g,if_neg ha,if_neg hbj]
    by_cases e1:a=j+1
    ·rw[if_pos e1,if_neg (by omega)];exact hs j b (by omega) hb (by omega) (by omega)
    ·rw[if_neg e1]
     by_cases e2:b=j+1
     ·rw[if_pos e2];exact hs a j (by omega) (by omega) e1 (by omega)
     ·rw[if_neg e2];exact hs a b hab hb e1 e2
   ·rw[g,g,if_pos rfl,if_neg (by omega)]
    by_cases e2:b=j+1
    ·rw[if_pos e2];omega
    ·rw[if_neg e2];exact hu b (by omega) hb
  ·rename_i hge;intro a b hab hb
   by_cases e1:a=j+1
   ·subst e1;exact hu b hab hb
   ·by_cases e2:b=j+1
    ·subst e2
     by_cases e3:a=j
     ·subst e3;omega
     ·have:=hs a j (by omega) (by omega) e1 (by omega);omega
    ·exact hs a b hab hb e1 e2
theorem a5l (l:List Int) (x:Int):∀k,k<l.length->(x∈H1 l k↔x∈l)
 | 0,_=>Iff.rfl
 | k+1,h=>by
  unfold H1;rw[a6U _ _ x (by rw[Q3];exact h)];exact a5l l x k (by omega)
theorem a3P (l:List Int):∀k,k<l.length->∀a b,a<b->b<=k->(H1 l k).getD a 0<=(H1 l k).getD b 0
 | 0,_=>λa b hab hb=>by omega
 | k+1,h=>by
  unfold H1;have ih:=a3P l k (by omega);exact a4K (k+1) (k+1) (H1 l k) (Nat.le_refl _) (by rw[Q3];exact h) (λa b hab hb ha hbk=>ih a b hab (by omega)) (λb hb1 hb2=>by omega)
theorem a8H (l:List Int) (x:Int):x∈H0 l↔x∈l:=by
 unfold H0;cases l with
 | nil=>exact Iff.rfl
 | cons y l=>exact a5l (y::l) x _ (by simp)
theorem a7C (l:List Int):(H0 l).Pairwise (· <= ·):=by
 rw[List.pairwise_iff_getElem];intro i j hi hj hij;have hl:(H0 l).length=l.length:=K6 l;have h:=a3P l (l.length-1) (by omega) i j hij (by omega);have h1:(H0 l).getD i 0<=(H0 l).getD j 0:=h
 rwa [List.getD_eq_getElem?_getD,List.getD_eq_getElem?_getD,List.getElem?_eq_getElem hi,List.getElem?_eq_getElem hj]at h1
theorem a0I:∀(l:List Int) (p:Int),(p::l).Pairwise (· <= ·)->(p::p6 p l).Pairwise (· < ·)/\∀y,y∈p::p6 p l↔y∈p::l
 | [],p,_=>⟨by simp[p6],λy=>by simp[p6]⟩
 | x::l,p,h=>by
  have hpx:=List.pairwise_cons.1 h;have hx:=List.pairwise_cons.1 hpx.2;unfold p6
  by_cases e:x=p
  ·rw[if_pos e,e];obtain⟨s1,s2⟩:=a0I l p (List.pairwise_cons.2 ⟨λy hy=>hpx.1 y (by simp[hy]),hx.2⟩);refine⟨s1,λy=>?_⟩;rw[s2 y];simp
  ·rw[if_neg e];obtain⟨s1,s2⟩:=a0I l x hpx.2;have hlt:p<x:=by have:=hpx.1 x (by simp);omega
   refine⟨List.pairwise_cons.2 ⟨λy hy=>?_,s1⟩,λy=>?_⟩
   ·have hy2:=(s2 y).1 hy;rcases List.mem_cons.1 hy2 with e2 | e2
    ·omega
    ·have:=hx.1 y e2;omega
   ·have:=s2 y;simp only[List.mem_cons]at this ⊢;constructor
    ·rintro(h1 | h1)
     ·exact .inl h1
     ·exact .inr (this.1 h1)
    ·rintro(h1 | h1)
     ·exact .inl h1
     ·exact .inr (this.2 h1)
theorem a4a (l:List Int) (h:l.Pairwise (· <= ·)):(n8 l).Pairwise (· < ·)/\∀y,y∈n8 l↔y∈l:=by
 cases l with
 | nil=>exact⟨List.Pairwise.nil,λy=>Iff.rfl⟩
 | cons p l=>exact a0I l p h
namespace T2
end T2
structure Nand.Lit (N:Nand):Prop where
 off:N.off=false
 cuts:N.cuts=false
namespace Nand
theorem Lit.cutB {N:Nand} (h:N.Lit):N.cutB=false:=by unfold Nand.cutB;rw[h.cuts];rfl
theorem Lit.cutN {N:Nand} (h:N.Lit):N.cutN.Lit:=by
 constructor
 ·show(if N.cutB then true else N.off)=false;rw[h.cutB];exact h.off
 ·show(if N.cutB then false else N.cuts)=false;rw[h.cutB];exact h.cuts
theorem Lit.new (d b p:Nat):(Nand.new d b p).Lit:=⟨rfl,rfl⟩
theorem Lit.prog {N:Nand} (h:N.Lit) (x y z:Int) (pg:List UInt8):(N.progN x y z pg).Lit:=by
 unfold Nand.progN;split
 ·exact h
 ·split
  ·exact⟨h.off,h.cuts⟩
  ·rw[h.cutB];exact⟨h.cutN.off,h.cutN.cuts⟩
theorem Lit.erase {N:Nand} (h:N.Lit) (x y:Int):(N.eraseN x y).Lit:=by
 unfold Nand.eraseN;dsimp only;rw[h.cutB];split
 ·exact h
 ·rw[if_neg (by decide)];split
  ·exact⟨h.cutN.off,h.cutN.cuts⟩
  ·exact⟨h.cutN.off,h.cutN.cuts⟩
end Nand
theorem J6 {α:Type} (f:α->List Value) (w:Nat) (hw:∀x,(f x).length=w):∀(l:List α) (k:Nat) (x:α),l[k]? =some x->((l.flatMap f).drop (k*w)).take w=f x
 | [],k,x,h=>by simp at h
 | y::l,0,x,h=>by
  simp at h;subst h;rw[List.flatMap_cons,Nat.zero_mul,List.drop_zero,List.take_left' (hw y)]
 | y::l,k+1,x,h=>by
  have ih:=J6 f w hw l k x (by simpa using h);rw[List.flatMap_cons,show(k+1)*w=(f y).length+k*w from by rw[hw y,Nat.add_mul,Nat.one_mul,Nat.add_comm],<- List.drop_drop,List.drop_left' rfl];exact ih
end Go.Proofs.YtpohajhbfllbbaaGreat
namespace Go.Proofs.YtpohajhbfllbbaaGreat
open Go Go.RowKit
open Go.ChangeShapes Go.WideShapes
def frz (W:World):Atom:= .hp ⟨Hle (hl W),λ_ _ l s=>s.trans l⟩
theorem b6T {W:World} {a:Option Addr} {size n:Nat} {xs:List Value} (h:rdP a size n xs (hl W)):Rd (frz W) a size n xs:=λ_ s=>h.up s
theorem Fn.whole {P:Program} {f:FuncId} {args:List Value} {r:Value} {W:World} (h:Fn P f args [frz W] (λv As=>v=r/\As=[frz W])):Calls P f args.toArray W λe w'=>e= .returned r/\Below W.heap.size W w':=by
 have hs:Sep (.hp ⟨λ_=>True,λ_ _ _ s=>s⟩::[frz W]) (hl W):=by
  refine⟨λ_=>1,λi A hA=>?_⟩
  match i,hA with
  | 0,hA=>simp at hA;subst hA;trivial
  | 1,hA=>
   simp at hA;subst hA;intro b o hb;exact res_some.2 ⟨rfl,hb⟩
  | i+2,hA=>simp at hA
 refine(h _ W hs).mono λe w' ⟨v,As,e1,⟨e2,e3⟩,s,x⟩=>?_;subst e2 e3;have hle:Hle (hl W) (hl w'):=s.get (i:=1) rfl;refine⟨e1,x.os,x.tape,x.output,x.size,λk hk=>?_⟩;have:W.heap[k]? =some W.heap[k]:=Array.getElem?_eq_getElem hk;rw[this];exact hle k _ this
theorem b4L {size:Nat} {h:Hl}:rdP none size 0 [] h:=⟨by simp,λh=>absurd h (by omega)⟩
theorem b4K {α:Type} {W:World} {base size n:Nat} {a:Addr} (f:α->List Value) (hsz:0<size)
  (h:∀i,i<n->∃x,W.cells? base (a.add (i*size)) size=some (f x)):∃l:List α,l.length=n/\rdP (some a) size n (l.flatMap f) (hl W):=by
 have h1:∀m,m<=n->∃l:List α,l.length=m/\(l.flatMap f).length=m*size/\∀i,i<m*size->W.cell? (a.add i)=(l.flatMap f)[i]?:=by
  intro m
  induction m with
  | zero=>exactλ_=>⟨[],rfl,by simp,λi hi=>by omega⟩
  | succ m ih=>
   intro hm;obtain⟨l,e1,e2,e3⟩:=ih (by omega);obtain⟨x,hx⟩:=h m (by omega);obtain⟨_,q1,q2⟩:=World.cells?_some hx;have hlen:((l++[x]).flatMap f).length=(m+1)*size:=by simp[List.flatMap_append,e2,q1,Nat.succ_mul]
   refine⟨l++[x],by simp[e1],hlen,λi hi=>?_⟩;rw[List.flatMap_append,List.getElem?_append,e2];split
   ·exact e3 i (by assumption)
   ·rename_i hge;have:=q2 (i-m*size) (by rw[Nat.succ_mul]at hi;omega);rw[Deep.add_add,show m*size+(i-m*size)=i by omega]at this;rw[this];simp
 obtain⟨l,e1,e2,e3⟩:=h1 n (Nat.le_refl n);refine⟨l,e1,e2,λhn=>?_⟩;obtain⟨b,o,sp⟩:=a;have hpos:0<n*size:=Nat.mul_pos hn hsz;have h0:=e3 0 hpos;have hv:(l.flatMap f)[0]? =some ((l.flatMap f)[0]'(by omega)):=List.getElem?_eq_getElem _;rw[hv]at h0;have hsp:sp=none:=by simpa[Addr.add]using World.cell?_spot h0
 subst hsp;have hcell:∀i,W.cell? ⟨b,o+i,none⟩=W.cell? ((⟨b,o,none⟩:Addr).add i):=λi=>by rw[Addr.add_none]
 have hblk:∃cs ty fr,W.heap[b]? =some (.cells cs ty fr):=by
  unfold World.cell? at h0;cases hh:W.heap[b]? with
  | none=>simp[Addr.add,hh]at h0
  | some ob=>
   cases ob with
   | cells cs ty fr=>exact⟨cs,ty,fr,rfl⟩
   | _=>simp[Addr.add,hh]at h0
 obtain⟨cs,ty,fr,hh⟩:=hblk;refine⟨b,o,cs,ty,fr,rfl,hh,?_⟩;apply List.ext_getElem?;intro i;rw[List.getElem?_take];split
 ·rename_i hi;rw[<- e3 i hi,<- hcell,cell_of_row W b (o+i) cs ty fr hh];simp
 ·rename_i hi;exact(List.getElem?_eq_none (by omega)).symm
section
variable {H : Type} {enc : TypeId × Value → H} {w : World} {base : Nat} {spare : Nat → Bool} {held : Bool}
theorem b2D {fuel:Nat} {cs:List Value} {y:DataW H×List MemPlace} (h:DataW.trod enc Tryz.prog w base spare held fuel 5 cs=some y):∃b:UInt8,cs=[bv b]:=by
 obtain⟨n,rfl,_,hw⟩:=DataW.trod_int Tryz.underlying5 h;have:0<=n/\n<=255:=by simpa[Lit.wf,IntKind.min,IntKind.max,IntKind.signed,IntKind.bits]using hw
 refine⟨UInt8.ofNat n.toNat,?_⟩;simp only[bv,List.cons.injEq,and_true];congr 1;have:n.toNat<256:=by omega
 have h2:(UInt8.ofNat n.toNat).toNat=n.toNat:=by simp;omega
 rw[h2];omega
theorem b3Q {m:Nat} {fuel:Nat}:∀{cs:List Value},cs.length=m->(∀i,i<m->∃y,DataW.trod enc Tryz.prog w base spare held fuel 5 ((cs.drop i).take 1)=some y)->∃l:List UInt8,l.length=m/\cs=l.map bv:=by
 induction m with
 | zero=>intro cs h _;exact⟨[],rfl,List.eq_nil_of_length_eq_zero h⟩
 | succ m ih=>
  intro cs h hx
  match cs,h with
  | c::r,h=>
   obtain⟨y,hy⟩:=hx 0 (by omega);obtain⟨b,hb⟩:=b2D hy;obtain⟨l,e1,e2⟩:=ih (cs:=r) (by simpa using h) (λi hi=>by simpa using hx (i+1) (by omega));refine⟨b::l,by simp[e1],?_⟩;simp at hb;simp[hb,e2]
theorem D2 {t:TypeId} (ht:Tryz.prog.underlying t=some (.int .i64)) {fuel:Nat} {cs:List Value} {y:DataW H×List MemPlace} (h:DataW.trod enc Tryz.prog w base spare held fuel t cs=some y):∃n,cs=[.int .i64 n]:=by
 obtain⟨n,rfl,_,_⟩:=DataW.trod_int ht h;exact⟨n,rfl⟩
theorem b5J {fuel:Nat} {cs:List Value} {y:DataW H×List MemPlace} (h:DataW.trod enc Tryz.prog w base spare held fuel 31 cs=some y):∃l:List UInt8,l.length=16/\cs=j3 l:=by
 obtain⟨xs,m,_,_,hl,hlen,hx⟩:=DataW.trod_array Tryz.underlying31 h;have h1:Tryz.prog.cellsOf 5=1:=by kernel_rfl
 have h16:Tryz.prog.cellsOf 31=16:=by kernel_rfl
 obtain⟨l,e1,e2⟩:=b3Q (m:=16) (hl.trans h16) (λi hi=>by
  have:=hx i hi;rw[h1,Nat.mul_one,List.getElem?_eq_getElem (by omega)]at this;exact⟨_,this⟩)
 refine⟨l,e1,?_⟩
 match l,e1 with
 | [_,_,_,_,_,_,_,_,_,_,_,_,_,_,_,_],_=>subst e2;rfl
end
end Go.Proofs.YtpohajhbfllbbaaGreat
