/- Helpers, proved here. No condition. -/
import Derived.Test.YtdocmcapegcoeaaGreatC06
import Derived.Test.YtdocmcapegcoeaaGreatC15
import Derived.Test.YtdocmcapegcoeaaGreatC16
import Derived.Test.YtdocmcapegcoeaaGreatC18
import Derived.Test.YtdocmcapegcoeaaGreatC19
import Derived.Test.YtdocmcapegcoeaaGreatC21
import Derived.Test.YtdocmcapegcoeaaGreatC22
import Derived.Test.YtdocmcapegcoeaaGreatC23
import Derived.Test.YtdocmcapegcoeaaGreatC24
set_option maxRecDepth 20000
set_option linter.all false
namespace Go.Proofs.YtdocmcapegcoeaaGreat
open Go Go.RowKit
def rdA (a:Option Addr) (size n:Nat) (xs:List Value):Atom:= .hp ⟨rdP a size n xs,λ_ _ l s=>s.up l⟩
theorem rdA_rd (a:Option Addr) (size n:Nat) (xs:List Value):Rd (rdA a size n xs) a size n xs:=λ_ s=>s
def oad2:Option (Nat×Nat)->Option Addr
 | some x=>some ⟨x.1,x.2,none⟩
 | none=>none
def cutA (a:Option (Nat×Nat)) (size h c:Nat):Option (Nat×Nat):=match a with
 | some y=>if c=h then some y else some (y.1,y.2+h*size)
 | none=>none
section
variable {P : Program} {T : Tab} {E : Env} {n : Nat} {ac : Act} {w : World}
theorem cutlo2_run (hT:TabOK P T) {o:Oper} {t e size:Nat} {x y:Operand} {k1 k2 t1 t2:Nat} {g1 g2:G} {a:Option (Nat×Nat)} {m c h:Nat} {kk:IntKind} {hI:Int} {s1 b1 b2:Nat} {z1 z2:List Value} {td:TD} (hop:o.op= .slice t x (some y) none none) (hx:ev E x=some ⟨k1, .slice (oad2 a) m c,t1,g1⟩) (hy:ev E y=some ⟨k2, .int kk hI,t2,g2⟩) (he:EnvOK n E ac) (v1:g1.on=true) (v2:g2.on=true)
  (ht:T.get t=some ⟨.slice e size,s1,z1,b1⟩) (hte:T.get e=some ⟨td,size,z2,b2⟩) (hhI:hI=(h:Int)) (hh:h<=m):
  (execOp ac.eval o).run P w= .ok (.value (.slice (oad2 (cutA a size h c)) (m-h) (c-h))) w:=by
 subst hhI;have e1:=ev_spec he hx;have e2:=ev_spec he hy;simp only[Slot.val,v1,v2]at e1 e2;obtain⟨d,f,zv,ok⟩:=tiOf_spec (hT.get ht);obtain⟨fe,rfl,g1,g2⟩:=ok.slice rfl;cases a with
 | none=>
  simp only[execOp,hop,Option.map_some,Option.map_none,e1,e2,Instr.sliceAt,Instr.slice,Instr.sliceBounds,Instr.sliceBound,asIntOf,Sem.run_bind,Sem.run_pure,Result.andThen_ok,underlying_run ok.hd,sizeOf_run g1,g2];simp[hh,oad2,cutA]
 | some ad=>
  by_cases hne:c=h
  ·simp only[execOp,hop,Option.map_some,Option.map_none,e1,e2,Instr.sliceAt,Instr.slice,Instr.sliceBounds,Instr.sliceBound,asIntOf,Sem.run_bind,Sem.run_pure,Result.andThen_ok,underlying_run ok.hd,sizeOf_run g1,g2];simp[hh,hne,Addr.add_none,oad2,cutA]
  ·simp only[execOp,hop,Option.map_some,Option.map_none,e1,e2,Instr.sliceAt,Instr.slice,Instr.sliceBounds,Instr.sliceBound,asIntOf,Sem.run_bind,Sem.run_pure,Result.andThen_ok,underlying_run ok.hd,sizeOf_run g1,g2];simp[hh,hne,Addr.add_none,oad2,cutA]
end
section
variable {X : Cx} {P : Program} {K : List KI} {E : Env} {L : List Atom} {N : Nat} {F : HP} {Post : Value → List Atom → Prop} {rs : List ResultVar} {T : Tab}
theorem J.appendRO (hX:IsCx X P rs N F Post) (hT:TabOK P T) {ops:Array Oper} {C:Cl} {lt:Bool} {i:Nat} {t:PT} {o:Oper} {x y:Operand} {st e size by_:Nat} {ks tgs:Nat} {gs:G} {a:Option Nat} {n cap:Nat} {xs:List Value} {ky tgy:Nat} {gy:G} {ay:Option (Nat×Nat)} {m cy:Nat} {cs:List Value} {s1 b1:Nat} {z1:List Value} {E':Value->Env} {Ay:Atom} (is iy:Nat) (hc0:ay=none->cy=0)
  (ho:lget ops.toList i=some o) (hg:gd ops.toList E o=some .tt) (hop:o.op= .call ⟨.builtin .append,#[x,y],#[st,st]⟩)
  (hx:ev E x=some ⟨ks,slv a n cap,tgs,gs⟩) (hvx:gs.on=true) (hy:ev E y=some ⟨ky, .slice (oad2 ay) m cy,tgy,gy⟩) (hvy:gy.on=true)
  (hLs:lget L is=some (ownA e size a n cap xs)) (hLy:lget L iy=some Ay) (hrd:Rd Ay (oad2 ay) size m cs) (hst:T.get st=some ⟨.slice e size,s1,z1,b1⟩) {td:TD} {z:List Value} (he:T.get e=some ⟨td,size,z,by_⟩) (hz:Nat.beq z.length size=true)
  (hsz:Nat.blt 0 size=true) (h1:∀u∈cs,u.oneCell'=true) (h63:n+m<=maxLen) (hbytes:(n+m)*by_<=140737488355328)
  (hd:∀v,putE N o.dst v 0 .tt E=some (E' v))
  (hJ:∀a' cap',∃L',lset L is (ownA e size a' (n+m) cap' (xs++cs))=some L'/\Conj (staysL lt C L')/\J X (.reg ops C t::K) (E' (slv a' (n+m) cap')) L'):J X (.reg ops C (.alt lt i t .non)::K) E L:=by
 cases ay with
 | some b=>exact J.appendR hX hT (oo:=b.2) is iy 0 ho hg rfl hop hx hvx hy hvy hLs hLy hrd hst he hz hsz h1 h63 hbytes hd hJ
 | none=>
  obtain rfl:=hc0 rfl;rw[lget_eq]at hLs hLy;refine J.know (p:=cs.length=m*size/\m=0) (λh s=>⟨(hrd _ (s.get hLy)).1,by
   rcases Nat.eq_zero_or_pos m with h0 | h0
   ·exact h0
   ·obtain⟨_,_,_,_,_,e,_⟩:=(hrd _ (s.get hLy)).2 h0;cases e⟩) λhk=>?_
  obtain⟨q1,rfl⟩:=hk;have hcs:cs=[]:=List.eq_nil_of_length_eq_zero (by rw[q1,Nat.zero_mul]);subst hcs;obtain⟨L',e1,e2,e3⟩:=hJ a cap;rw[Nat.add_zero,List.append_nil]at e1;rw[Nat.add_zero]at e3;have hL:L'=L:=by
   rw[lset_eq e1];apply List.ext_getElem?;intro j;rw[List.getElem?_set];split
   ·rename_i e;subst e;split
    ·exact hLs.symm
    ·rename_i e4;rw[List.getElem?_eq_none (by omega)]
   ·rfl
  subst hL;exact J.val hX (slv a n cap) 0 ho hg (λ_ ac w hen hs=>append_none_run hT hop hx hvx hy hvy hen hst he (show ownP e size a n cap xs (hl w)from hs.get hLs)) (hd _) e2 e3
end
theorem rd_cutA {a:Option (Nat×Nat)} {size n c h:Nat} {xs:List Value} {hh:Hl} (s:rdP (oad2 a) size n xs hh) (hn:h<=n) (hc:n<=c):rdP (oad2 (cutA a size h c)) size (n-h) (xs.drop (h*size)) hh:=by
 cases a with
 | none=>
  refine⟨by rw[List.length_drop,s.1,Nat.sub_mul],λh0=>?_⟩;obtain⟨b,o,_,_,_,e,_⟩:=s.2 (by omega);cases e
 | some y=>
  by_cases e:c=h
  ·refine⟨by rw[List.length_drop,s.1,Nat.sub_mul],λh0=>by omega⟩
  ·unfold cutA;simp only[if_neg e];exact(rdA_rd (some ⟨y.1,y.2,none⟩) size n xs).drop h hn _ s
theorem ne_selfI (z:Int):(z !=z)=false:=by simp
theorem cellsE_drop (L:List En):∀k,(cellsE L).drop (k*19)=cellsE (L.drop k):=by
 induction L with
 | nil=>intro k;simp[cellsE]
 | cons x l ih=>
  intro k;cases k with
  | zero=>simp
  | succ k=>
   have e1:cellsE (x::l)=enL x++cellsE l:=by simp[cellsE]
   rw[e1,List.drop_succ_cons,<- ih k,show(k+1)*19=(enL x).length+k*19 from by show _=19+k*19;omega,<- List.drop_drop,List.drop_left' rfl]
theorem rd_drop {a:Option (Nat×Nat)} {n c h:Nat} {L:List En} {hh:Hl} (s:rdP (oad2 a) 19 n (cellsE L) hh) (hl:L.length=n) (hn:h<=n) (hc:n<=c):rdP (oad2 (cutA a 19 h c)) 19 (L.drop h).length (cellsE (L.drop h)) hh:=by
 have:=rd_cutA s hn hc
 rwa [cellsE_drop,<- hl,<- List.length_drop]at this
theorem cutA_none {a:Option (Nat×Nat)} {size h c:Nat} (hz:a=none->c=0):cutA a size h c=none->c-h=0:=by
 cases a with
 | none=>intro _;rw[hz rfl];omega
 | some y=>intro e;unfold cutA at e;simp only at e;split at e<;>cases e
theorem mn_Torn (n t l p:Nat) (S:Dv) (k mm:Nat) (A:Atom) (a:Option (Nat×Nat)) (m c:Nat) (es:List En) (hA:Rd A (oad2 a) 19 m (cellsE es)) (hl:es.length=m) (hm:m<=1000000) (hc:m<=c) (ha:a=none->c=0) (hd:∀s∈es,s.data.length=16) (hO:S.Ok (Dv.costT*m+k) mm) (hmm:mm<=12):
  Fn Tryz.prog 50 [.pointer (some ⟨n,0,none⟩), .pointer (some ⟨t,0,none⟩), .pointer (some ⟨l,0,none⟩), .pointer (some ⟨p,0,none⟩), .slice (oad2 a) m c] (DvP p n t l S++[A])
  (λv As=>v= .int .i64 (S.torn es).2/\As=DvP p n t l (S.torn es).1++[A]):=by
 subst hl;refine Fn.enter [3,4,5,2,0] Tryz.func50 rfl rfl rfl λX F hX=>?_;refine J.q hX λ_=>?_;refine J.lo (α:=(Nat×Dv×List En×Option (Nat×Nat)×Nat)) (λz=>z.2.2.1.length<=z.1/\z.2.2.1.length<=z.2.2.2.2/\z.2.2.1.length<=1000000/\(z.2.2.2.1=none->z.2.2.2.2=0)/\Rd A (oad2 z.2.2.2.1) 19 z.2.2.1.length (cellsE z.2.2.1)/\(∀s∈z.2.2.1,s.data.length=16)/\z.2.1.Ok (Dv.costT*z.1+k) mm/\Dv.tornGo z.1 z.2.1 z.2.2.1=S.torn es) (λz=>[⟨4, .slice (oad2 z.2.2.2.1) z.2.2.1.length z.2.2.2.2,0, .tt⟩,⟨0, .pointer (some ⟨n,0,none⟩),3, .tt⟩,⟨1, .pointer (some ⟨t,0,none⟩),4, .tt⟩,⟨2, .pointer (some ⟨l,0,none⟩),5, .tt⟩,⟨3, .pointer (some ⟨p,0,none⟩),2, .tt⟩]) [1,2,3,4] (λz=>DvP p n t l z.2.1) (λz=>z.1) ((es.length,S,es,a,c)) (⟨Nat.le_refl _,hc,hm,ha,hA,hd,hO,rfl⟩) rfl ?_ (λ_=>rfl) λz hI=>?_
 ·rfl
 obtain⟨j,Q,L,a',c'⟩:=z;dsimp only at hI ⊢;obtain⟨hj,hLc,hLm,ha',hAr,hLd,hQ,hw⟩:=hI;refine J.q hX λ_=>?_;refine J.cond rfl (λh1=>?_) (λh1=>?_)
 ·simp only[decide_eq_true_eq]at h1;have hL0:L.length≠0:=by omega
  obtain⟨j,rfl⟩:∃i,j=i+1:=⟨j-1,by omega⟩;rw[Dv.tornGo,if_neg hL0]at hw;dsimp only at hw;have hQ1:Q.Ok (Dv.costM+(8*Dv.fuel+(Dv.costT*j+k))) mm:=hQ.less (by unfold Dv.costT Dv.cost;rw[Nat.mul_succ];omega);have hr:=Dv.room_keep hQ1;refine J.q hX λ_=>?_;refine J.cb hX (sw_Room n t l p Q _ mm hQ1 hmm) [1,2,3,4] ?_;refine cpq ⟨_,rfl,trivial,?_⟩;generalize Q.room=W at hw hr ⊢;obtain⟨P,er⟩:=W;dsimp only at hw hr ⊢;refine J.q hX λ_=>?_;refine J.cond rfl (λh2=>?_) (λh2=>?_)
  ·simp only[bne_iff_ne,ne_eq]at h2;rw[if_pos h2]at hw;refine J.q hX λ_=>?_;refine J.ru hX [1,2,3,4,5] ?_;rw[<- hw];exact⟨rfl,rfl⟩
  simp only[bne_eq_false_iff_eq]at h2;rw[if_neg (by rw[h2];decide)]at hw;have htook:=λh0=>Dv.pen_took hr.1 hLd h0 hL0;have hkeep:=Dv.pen_keep hr.1 hLd;refine J.q hX λ_=>?_;refine J.cb hX (pn_Write p n t l P _ mm hr.1 A (oad2 a') L.length c' L hAr rfl hLm hLd) [1,2,3,4,5] ?_;refine cpq ⟨_,rfl,trivial,?_⟩;have hpb:0<=(P.pen L).2.1/\(P.pen L).2.1<=7:=write_bd _ _ _;generalize P.pen L=W at hw htook hkeep hpb ⊢;obtain⟨P',nn,er2⟩:=W;dsimp only at hw htook hkeep hpb ⊢;refine J.q hX λ_=>?_;refine J.cond rfl (λh3=>?_) (λh3=>?_)
  ·simp only[bne_iff_ne,ne_eq]at h3;rw[if_pos h3]at hw;refine J.q hX λ_=>?_;refine J.ru hX [1,2,3,4,5] ?_;rw[<- hw];exact⟨rfl,rfl⟩
  simp only[bne_eq_false_iff_eq]at h3;rw[if_neg (by rw[h3];decide)]at hw;have htk:=htook h3;obtain⟨v,rfl⟩:=Int.eq_ofNat_of_zero_le hpb.1;have hvL:v<=L.length:=by have:=htk.2.1;omega
  rw[Int.toNat_natCast]at hw;refine J.qn hX 4 λ_=>?_;refine J.val hX (.slice (oad2 (cutA a' 19 v c')) (L.length-v) (c'-v)) 0 rfl rfl (λhg aa w he hw=>cutlo2_run tk rfl rfl rfl he rfl rfl rfl rfl rfl hvL) rfl trivial ?_;rw[show L.length-v=(L.drop v).length from by rw[List.length_drop]];refine J.q hX λ_=>?_;refine J.nS ((j,P',L.drop v,cutA a' 19 v c',c'-v)) (⟨by dsimp only;rw[List.length_drop];omega,by dsimp only;rw[List.length_drop];omega,by dsimp only;rw[List.length_drop];omega,cutA_none ha',λh s=>rd_drop (hAr h s) rfl hvL hLc,λs hs=>hLd s (List.mem_of_mem_drop hs),hkeep.1,hw⟩) (by dsimp only;omega) [0,1,2,3,4,5] rfl rfl
 ·simp only[decide_eq_false_iff_not]at h1;have hL0:L.length=0:=by omega
  have hz:Dv.tornGo j Q L=(Q,0):=by
   cases j with
   | zero=>rfl
   | succ j=>rw[Dv.tornGo,if_pos hL0]
  refine J.q hX λ_=>?_;refine J.ru hX [1,2,3,4,5] ?_;rw[<- hw,hz];exact⟨rfl,rfl⟩
end Go.Proofs.YtdocmcapegcoeaaGreat
namespace Go.Proofs.YtdocmcapegcoeaaGreat
open Go
theorem Bt.numAt_congr {a b:List UInt8} {k:Nat}:∀w,(∀i,i<w->Bt.bitAt a (k+i)=Bt.bitAt b (k+i))->Bt.numAt a k w=Bt.numAt b k w
 | 0,_=>rfl
 | w+1,h=>by rw[Bt.numAt,Bt.numAt,Bt.numAt_congr w (λi hi=>h i (by omega)),h w (by omega)]
theorem fill_get (K:Nat) (p:List UInt8) (hp:p.length=32) (hK:K<=32) (i:Nat):(Nand.fillP K p).getD i 0=if i<K then p.getD i 0 else if i<32 then 255 else 0:=by
 unfold Nand.fillP;simp only[List.getD_eq_getElem?_getD];rw[List.getElem?_append,List.length_take,hp]
 by_cases h:i<K
 ·rw[if_pos (by omega),if_pos h,List.getElem?_take,if_pos h]
 ·rw[if_neg (by omega),if_neg h]
  by_cases h2:i<32
  ·rw[if_pos h2,List.getElem?_replicate,if_pos (by omega)];rfl
  ·rw[if_neg h2,List.getElem?_replicate,if_neg (by omega)];rfl
theorem drop_getD (p:List UInt8) (k i:Nat):(p.drop k).getD i 0=p.getD (k+i) 0:=by
 simp[List.getD_eq_getElem?_getD]
theorem torn_kind (K:Nat) (p:List UInt8) (hp:p.length=32) (hK:K<28):(S.fields (Nand.fillP K p)).kind=255:=by
 show((Bt.numAt ((Nand.fillP K p).drop 16) 88 8:Nat):Int)=255;rw[Bt.numAt_eq _ 88 8 255 (λi hi=>?_) 8 (Nat.le_refl 8)]
 ·rfl
 ·unfold Bt.bitAt;rw[show(88+i)/8=11 from by omega,drop_getD,fill_get K p hp (by omega),if_neg (by omega),if_pos (by omega),show 7-(88+i) % 8=8-1-i from by omega];rfl
theorem torn_fields (K:Nat) (p:List UInt8) (hp:p.length=32) (hK:28<=K) (hK2:K<=32):S.fields (Nand.fillP K p)=S.fields p:=by
 have hb:∀j,j<96->Bt.bitAt ((Nand.fillP K p).drop 16) j=Bt.bitAt (p.drop 16) j:=λj hj=>by
  unfold Bt.bitAt;rw[drop_getD,drop_getD,fill_get K p hp hK2,if_pos (by omega)]
 have h16:(Nand.fillP K p).take 16=p.take 16:=by
  unfold Nand.fillP;rw[List.take_append_of_le_length (by rw[List.length_take,hp];omega),List.take_take,Nat.min_eq_left (by omega)]
 unfold S.fields;simp only[h16,Bt.numAt_congr (a:=(Nand.fillP K p).drop 16) (b:=p.drop 16) (k:=0) 64 (λi hi=>hb _ (by omega)),Bt.numAt_congr (a:=(Nand.fillP K p).drop 16) (b:=p.drop 16) (k:=88) 8 (λi hi=>hb _ (by omega)),
  Bt.numAt_congr (a:=(Nand.fillP K p).drop 16) (b:=p.drop 16) (k:=64) 8 (λi hi=>hb _ (by omega)),Bt.numAt_congr (a:=(Nand.fillP K p).drop 16) (b:=p.drop 16) (k:=72) 8 (λi hi=>hb _ (by omega)),Bt.numAt_congr (a:=(Nand.fillP K p).drop 16) (b:=p.drop 16) (k:=80) 8 (λi hi=>hb _ (by omega))]
namespace Nand
variable {N : Nand} {n : Nat}
end Nand
theorem same_getD {l:List Int} {m:Int} (h:∀x∈l,x=m) {i:Nat} (hi:i<l.length):l.getD i 0=m:=by
 rw[List.getD_eq_getElem?_getD,List.getElem?_eq_getElem hi,Option.getD_some];exact h _ (List.getElem_mem hi)
theorem sinkI_same {m:Int}:∀(j:Nat) (l:List Int),j<l.length->(∀x∈l,x=m)->sinkI j l=l
 | 0,l,_,_=>rfl
 | j+1,l,hj,h=>by
  unfold sinkI;rw[same_getD h hj,same_getD h (show j<l.length by omega),if_neg (by omega)]
theorem isortI_same {m:Int} (l:List Int) (h:∀x∈l,x=m):∀k,k<=l.length-1->isortI l k=l
 | 0,_=>rfl
 | k+1,hk=>by unfold isortI;rw[isortI_same l h k (by omega),sinkI_same _ l (by omega) h]
theorem ded_same {m:Int}:∀(l:List Int),(∀x∈l,x=m)->dedFrom m l=[]
 | [],_=>rfl
 | x::l,h=>by
  unfold dedFrom;rw[h x (by simp),if_pos rfl,ded_same l (λy hy=>h y (by simp[hy]))]
theorem masks_same {m:Int} (l:List Int) (h:∀x∈l,x=m):compactI (isortL l)=if l=[]then[]else[m]:=by
 unfold isortL;rw[isortI_same l h _ (Nat.le_refl _)];cases l with
 | nil=>rfl
 | cons x l=>
  rw[if_neg (by simp)];rw[h x (by simp)];show m::dedFrom m l=[m];rw[ded_same l (λy hy=>h y (by simp[hy]))]
namespace Nand
variable {N N' N'' : Nand} {b : Nat}
end Nand
theorem all_blank {N:Nand} {b r:Int} (h:∀d:Nat,(M.look N (d:Nat) b r).2≠1):R.all N b r=[]:=by
 have:(M.rowN N b r N.dies).filterMap M.maskOf=[]:=by
  refine List.filterMap_eq_nil_iff.2 λx hx=>?_;unfold M.rowN at hx;obtain⟨d,_,rfl⟩:=List.mem_map.1 hx;unfold M.maskOf;rw[if_neg (h d)]
 unfold R.all M.masks;rw[this];rfl
namespace V
end V
def u8 (x:Int):UInt8:=UInt8.ofNat (x % 256).toNat
end Go.Proofs.YtdocmcapegcoeaaGreat
namespace Go.Proofs.YtdocmcapegcoeaaGreat
open Go Go.RowKit
theorem u8_val (x:Int):Value.int .u8 (IntKind.u8.wrap x)=bv (u8 x):=by
 have h:IntKind.u8.wrap x=x % 256:=by simp[IntKind.wrap,IntKind.bits,IntKind.signed]
 rw[h,bv,u8];congr 1;have h1:0<=x % 256/\x % 256<256:=⟨Int.emod_nonneg _ (by decide),Int.emod_lt_of_pos _ (by decide)⟩;have h2:(UInt8.ofNat (x % 256).toNat).toNat=(x % 256).toNat:=by
  rw[UInt8.toNat_ofNat'];omega
 rw[h2];omega
def e18 (k s:Int):En:=⟨k,s,1,[u8 k,u8 s,u8 (s/256),7,0,0,0,0,0,0,0,0,0,0,0,0]⟩
theorem l18_entry (k s:Int):Fn Tryz.prog 20 [.int .i64 k, .int .i64 s] [] (λv As=>v=enV (e18 k s)/\As=[]):=by
 refine Fn.enter [0,0] Tryz.func20 rfl rfl rfl λX F hX=>?_;refine J.qn hX 9 λ_=>?_;refine J.val hX (bv (u8 k)) 0 rfl rfl (λhg a w he hs=>by rw[<- u8_val k];exact convert_run tk rfl rfl he rfl rfl rfl) rfl trivial ?_;refine J.qn hX 1 λ_=>?_;refine J.val hX (bv (u8 s)) 0 rfl rfl (λhg a w he hs=>by rw[<- u8_val s];exact convert_run tk rfl rfl he rfl rfl rfl) rfl trivial ?_;refine J.qn hX 2 λ_=>?_;rw[show s.fdiv (2^min (Int.toNat 8) IntKind.i64.bits)=s/256 from Int.fdiv_eq_ediv_of_nonneg s (by decide:(0:Int)<=256)];refine J.val hX (bv (u8 (s/256))) 0 rfl rfl (λhg a w he hs=>by rw[<- u8_val (s/256)];exact convert_run tk rfl rfl he rfl rfl rfl) rfl trivial ?_;refine J.q hX λ_=>?_;exact J.ru hX [] ⟨rfl,rfl⟩
def Dv.new (d b p:Nat) (lg:Int):Dv:=⟨Nand.new d b p,Tl.new d b p,Tb.new lg,-1,0,0,1⟩
theorem gd_new (d b p:Nat) (h:geoMay d b p=true) (k:Nat) (hk:k<=1000000000000000):(Nand.new d b p).Gd k 0:=by
 have h0:=Nand.Gd.new d b p h 0 (by omega);refine⟨h0.ok,?_,?_,h0.nodup,h0.few⟩
 ·show(0:Int)+(k:Int)<_;omega
 ·show(0:Int)+(k:Int)<_;omega
theorem Dv.Ok.new (d b p:Nat) (lg:Int) (h:geoMay d b p=true) (k:Nat) (hk:k<=1000000000000000):(Dv.new d b p lg).Ok k 0:=
 ⟨gd_new d b p h k hk,⟨rfl,rfl,rfl,by show(List.replicate b Sb.zero).length=b;simp⟩,Tb.Ok.new lg,λx hx=>by simp[Dv.new,Tb.new]at hx,by show(0:Int)<=0/\(0:Int)<=8;omega,by show(1:Int)<=1/\(1:Int)<=1099511627776;omega⟩
theorem l18_bench (d b p:Nat) (h:geoMay d b p=true) (lg:Int):Fn Tryz.prog 17 [.agg #[.int .i64 d, .int .i64 b, .int .i64 p], .int .i64 lg] []
  (λv As=>∃n t l q,v= .tuple #[.pointer (some ⟨n,0,none⟩), .pointer (some ⟨t,0,none⟩), .pointer (some ⟨l,0,none⟩), .pointer (some ⟨q,0,none⟩)]/\As=DvP q n t l (Dv.new d b p lg)):=by
 refine Fn.enter [0,0] Tryz.func17 rfl rfl rfl λX F hX=>?_;refine J.q hX λ_=>?_;refine J.cb hX (n_New d b p h) [] ?_;rintro v As ⟨n,rfl,rfl⟩;refine⟨_,rfl,trivial,?_⟩;refine J.q hX λ_=>?_;refine J.cb hX (tl_New d b p h) [] ?_;rintro v As ⟨t,rfl,rfl⟩;refine⟨_,rfl,trivial,?_⟩;refine J.q hX λ_=>?_;refine J.cb hX (tb_New lg) [] ?_;rintro v As ⟨l,rfl,rfl⟩;refine⟨_,rfl,trivial,?_⟩;refine J.q hX λ_=>?_;refine J.cb hX (pn_New n t l 1 (by decide) (Nand.new d b p) (Tl.new d b p) (Tb.new lg)) [] ?_;rintro v As ⟨q,rfl,rfl⟩;refine⟨_,rfl,trivial,?_⟩;refine J.q hX λ_=>?_;refine J.ru hX [5,2,3,4] ?_;exact⟨n,t,l,q,rfl,rfl⟩
theorem at_lt8 (m i:Int):L.at_ m i<8:=by
 unfold L.at_;split
 ·cases h:(L.dies m)[i.toNat]? with
  | none=>decide
  | some d=>
   have hm:=List.mem_of_getElem? h;unfold L.dies at hm;split at hm
   ·have:=List.mem_range.1 (List.mem_filter.1 hm).1;show((d:Nat):Int)<8;omega
   ·simp at hm
 ·decide
theorem oth_dec:∀m,m<256->∀p,p<8->(dI ((m:Nat):Int)).filter (λd=>d !=((p:Nat):Int))=dI (L.without ((m:Nat):Int) ((p:Nat):Int)):=by decide+kernel
def othI (m b r:Int):List Int:=if 0<=G.parity m b r then(dI m).filter (λd=>d !=G.parity m b r)else[]
theorem oth_eq {m b r:Int} (h:0<=G.parity m b r):othI m b r=dI (L.without m (G.parity m b r)):=by
 have h8:G.parity m b r<8:=by
  unfold G.parity at h ⊢;split
  ·decide
  ·exact at_lt8 _ _
 have hm:0<=m/\m<256:=by
  by_cases hh:0<=m/\m<256
  ·exact hh
  ·have hc:=L.count_no m hh;unfold G.parity at h;rw[if_pos (by omega)]at h;omega
 unfold othI;rw[if_pos h];obtain⟨p,hp⟩:=Int.eq_ofNat_of_zero_le h;obtain⟨M,rfl⟩:=Int.eq_ofNat_of_zero_le hm.1;rw[hp];exact oth_dec M (by omega) p (by omega)
theorem oth_die (m b r s:Int):(s<0\/((othI m b r).length:Int)<=s->G.die m b r s= -1)/\(∀k:Nat,s=k->k<(othI m b r).length->(othI m b r)[k]? =some (G.die m b r s)):=by
 by_cases h:0<=G.parity m b r
 ·have he:=oth_eq h;have hd:G.die m b r s=L.at_ (L.without m (G.parity m b r)) s:=by unfold G.die;rw[if_neg (by omega)]
  rw[he,hd,dI_count];refine⟨λhs=>L.at_ge _ _ hs,λk hk hlt=>?_⟩;subst hk;exact dI_at _ _ hlt
 ·have he:othI m b r=[]:=by unfold othI;rw[if_neg h]
  have hd:G.die m b r s= -1:=by unfold G.die;rw[if_pos (by omega)]
  rw[he,hd];exact⟨λ_=>rfl,λk _ hlt=>by simp at hlt⟩
theorem f6_Others (m b r:Int):Fn Tryz.prog 121 [.int .i64 m, .int .i64 b, .int .i64 r] [] (λv As=>∃a c,v=slv a (othI m b r).length c/\As=[ownA 3 1 a (othI m b r).length c (cellsI (othI m b r))]):=by
 have hlen:=dI_len m;refine Fn.enter [0,0,0] Tryz.func121 rfl rfl rfl λX F hX=>?_;refine J.turn1 [] rfl (As:=[ownA 3 1 none 0 0 (cellsI (((dI m).take 0).filter λd=>d !=G.parity m b r))]) (λh s=>Sep.one ⟨rfl,rfl,rfl⟩) rfl ?_;refine J.q hX λ_=>?_;refine J.cb hX (f1_Dies m) [] ?_;rintro v As ⟨a,c,rfl,rfl⟩;refine⟨_,rfl,trivial,?_⟩;refine J.q hX λ_=>?_;refine J.cb hX (f6_Parity m b r) [] ?_;refine cpq ⟨_,rfl,trivial,?_⟩;have hoth:othI m b r=if 0<=G.parity m b r then(dI m).filter (λd=>d !=G.parity m b r)else[]:=rfl
 generalize hpp:G.parity m b r=p at hoth;refine J.q hX λ_=>?_;refine J.lo (α:=(Nat×Option Nat×Nat)) (λz=>z.1<=(dI m).length/\(z.1=0\/0<=p)) (λz=>[⟨10, .int .i64 z.1,0, .tt⟩,⟨9, .int .i64 p,0, .tt⟩,⟨8,slv a (dI m).length c,0, .tt⟩,⟨7,slv z.2.1 (((dI m).take z.1).filter λd=>d !=p).length z.2.2,0, .tt⟩]) [1] (λz=>[ownA 3 1 z.2.1 (((dI m).take z.1).filter λd=>d !=p).length z.2.2 (cellsI (((dI m).take z.1).filter λd=>d !=p))]) (λz=>(dI m).length-z.1) ((0,none,0)) (⟨Nat.zero_le _, .inl rfl⟩) rfl ?_ (λ_=>rfl) λz hI=>?_
 ·rfl
 obtain⟨k,o,oc⟩:=z;dsimp only at hI ⊢;obtain⟨hk,hp⟩:=hI;have hfl:=List.length_filter_le (λd=>d !=p) ((dI m).take k);have htl:((dI m).take k).length<=k:=by rw[List.length_take];omega
 refine J.q hX λ_=>?_;refine J.cond rfl (λh1=>?_) (λh1=>?_)
 ·simp only[Bool.and_eq_true,decide_eq_true_eq,Int.ofNat_lt]at h1;obtain⟨h1,h2⟩:=h1;obtain⟨x,hx⟩:∃x,(dI m)[k]? =some x:=⟨_,List.getElem?_eq_getElem h1⟩;have hs:((dI m).take (k+1)).filter (λd=>d !=p)=((dI m).take k).filter (λd=>d !=p)++(if x !=p then[x]else[]):=by
   rw[List.take_add_one,hx,Option.toList_some,List.filter_append];congr 1;cases hxp:x !=p<;>simp[hxp]
  refine J.know (λh' s=>own_some (c:=(a,c)) (by omega) (s.get (i:=2) rfl)) λhg=>?_;obtain⟨g,rfl⟩:=hg;refine J.q hX λ_=>?_;refine J.val hX (.int .i64 x) 0 rfl rfl (λhg a w he hs=>own1_run tk rfl rfl he rfl rfl rfl (hs.get (i:=2) rfl) (by rw[show 0+(k:Int).toNat*1=k from by omega];exact cellsI_get hx)) rfl trivial ?_;refine J.q hX λ_=>?_;refine J.cond rfl (λh3=>?_) (λh3=>?_)
  ·rw[if_pos h3]at hs;have hl:(((dI m).take k).filter λd=>d !=p).length+1=(((dI m).take (k+1)).filter λd=>d !=p).length:=by rw[hs];simp
   refine J.q hX λ_=>?_;refine J.val hX (.int .i64 x) 0 rfl rfl (λhg a w he hs=>own1_run tk rfl rfl he rfl rfl rfl (hs.get (i:=2) rfl) (by rw[show 0+(k:Int).toNat*1=k from by omega];exact cellsI_get hx)) rfl trivial ?_;refine J.q hX λ_=>?_;refine J.append hX tk 1 3 0 rfl rfl rfl rfl rfl rfl rfl rfl rfl rfl rfl rfl rfl rfl rfl rfl ?_ ?_ (λ_=>rfl) λa4 c4=>⟨_,(congrArg (λz=>lset _ 1 (ownA _ _ _ _ _ z)) ((cellsI_snoc _ _).symm.trans (congrArg cellsI hs.symm))).trans rfl,trivial,?_⟩
   ·simp only[maxLen];omega
   ·omega
   rw[hl];refine J.q hX λ_=>?_;refine J.nS ((k+1,a4,c4)) (⟨by dsimp only;omega, .inr h2⟩) (by dsimp only;omega) [0,1,2] rfl rfl
  ·rw[if_neg (by rw[h3];simp),List.append_nil]at hs;rw[<- hs];refine J.q hX λ_=>?_;refine J.nS ((k+1,o,oc)) (⟨by dsimp only;omega, .inr h2⟩) (by dsimp only;omega) [0,1,2] rfl rfl
 ·have he:((dI m).take k).filter (λd=>d !=p)=othI m b r:=by
   rw[hoth]
   by_cases h0:0<=p
   ·rw[if_pos h0];have hkl:(dI m).length<=k:=by
     rcases Nat.lt_or_ge k (dI m).length with h | h
     ·rw[decide_eq_true (by omega),decide_eq_true (by omega)]at h1;cases h1
     ·exact h
    rw[List.take_of_length_le hkl]
   ·rw[if_neg h0];obtain rfl:k=0:=by omega
    simp
  rw[he];refine J.q hX λ_=>?_;refine J.ru hX [1] ?_;exact⟨o,oc,rfl,rfl⟩
theorem f6_Die (m b r s:Int):Fn Tryz.prog 76 [.int .i64 m, .int .i64 b, .int .i64 r, .int .i64 s] [] (λv As=>v= .int .i64 (G.die m b r s)/\As=[]):=by
 obtain⟨d1,d2⟩:=oth_die m b r s;refine Fn.enter [0,0,0,0] Tryz.func76 rfl rfl rfl λX F hX=>?_;refine J.q hX λ_=>?_;refine J.cb hX (f6_Others m b r) [] ?_;rintro v As ⟨a,c,rfl,rfl⟩;refine⟨_,rfl,trivial,?_⟩;refine J.q hX λ_=>?_;refine J.cond rfl (λh1=>?_) (λh1=>?_)
 ·simp only[Bool.or_eq_true,decide_eq_true_eq]at h1;refine J.q hX λ_=>?_;refine J.ru hX [] ?_;rw[d1 h1];exact⟨rfl,rfl⟩
 ·simp only[Bool.or_eq_false_iff,decide_eq_false_iff_not]at h1;obtain⟨k,rfl⟩:=Int.eq_ofNat_of_zero_le (show 0<=s by omega);have hk:k<(othI m b r).length:=by omega
  have hx:=d2 k rfl hk;refine J.know (λh' s=>own_some (c:=(a,c)) (by omega) (s.get (i:=1) rfl)) λhg=>?_;obtain⟨g,rfl⟩:=hg;refine J.q hX λ_=>?_;refine J.val hX (.int .i64 (G.die m b r k)) 0 rfl rfl (λhg a w he hs=>own1_run tk rfl rfl he rfl rfl rfl (hs.get (i:=1) rfl) (by rw[show 0+(k:Int).toNat*1=k from by omega];exact cellsI_get hx)) rfl trivial ?_;refine J.q hX λ_=>?_;exact J.ru hX [] ⟨rfl,rfl⟩
theorem f6_In (d b p x y z:Int):Fn Tryz.prog 77 [.agg #[.int .i64 d, .int .i64 b, .int .i64 p], .agg #[.int .i64 x, .int .i64 y, .int .i64 z]] [] (λv As=>v= .bool (geoIn d b p x y z)/\As=[]):=by
 refine Fn.enter [0,0] Tryz.func77 rfl rfl rfl λX F hX=>?_;refine J.q hX λ_=>?_;refine J.ru hX [] ?_;refine⟨congrArg Value.bool ?_,rfl⟩;unfold geoIn;rw[Bool.eq_iff_iff];simp only[Bool.and_eq_true,decide_eq_true_eq];omega
end Go.Proofs.YtdocmcapegcoeaaGreat
namespace Go.Proofs.YtdocmcapegcoeaaGreat
open Go
namespace Xo
def op (a b:List UInt8×Nat):List UInt8×Nat:=(List.zipWith (· ^^^ ·) a.1 b.1,a.2 ^^^ b.2)
def z:List UInt8×Nat:=(zeros16,0)
def Ok (a:List UInt8×Nat):Prop:=a.1.length=16
def all (l:List (List UInt8×Nat)):List UInt8×Nat:=l.foldl op z
theorem op_ok {a b} (ha:Ok a) (hb:Ok b):Ok (op a b):=by unfold Ok op at*;simp[ha,hb]
theorem z_ok:Ok z:=rfl
theorem op_comm (a b):op a b=op b a:=by
 unfold op;refine Prod.ext ?_ (Nat.xor_comm _ _);apply List.ext_getElem?;intro i;simp only[List.getElem?_zipWith];cases a.1[i]? <;>cases b.1[i]? <;>simp[UInt8.xor_comm]
theorem op_assoc (a b c):op (op a b) c=op a (op b c):=by
 unfold op;refine Prod.ext ?_ (Nat.xor_assoc _ _ _);apply List.ext_getElem?;intro i;simp only[List.getElem?_zipWith];cases a.1[i]? <;>cases b.1[i]? <;>cases c.1[i]? <;>simp[UInt8.xor_assoc]
theorem z_op {a} (ha:Ok a):op z a=a:=by
 obtain⟨d,n⟩:=a;unfold op z;refine Prod.ext ?_ (Nat.zero_xor n);apply List.ext_getElem?;intro i;have hd:d.length=16:=ha;simp only[List.getElem?_zipWith,zeros16,List.getElem?_replicate]
 by_cases hi:i<16
 ·rw[if_pos hi];cases d[i]? <;>simp
 ·rw[if_neg hi,List.getElem?_eq_none (by omega)]
theorem op_self {a} (ha:Ok a):op a a=z:=by
 obtain⟨d,n⟩:=a;unfold op z;refine Prod.ext ?_ (Nat.xor_self n);apply List.ext_getElem?;intro i;have hd:d.length=16:=ha;simp only[List.getElem?_zipWith,zeros16,List.getElem?_replicate]
 by_cases hi:i<16
 ·rw[if_pos hi,List.getElem?_eq_getElem (by omega)];simp
 ·rw[if_neg hi,List.getElem?_eq_none (by omega)]
theorem fold_ok:∀(l:List (List UInt8×Nat)),(∀x∈l,Ok x)->∀a,Ok a->Ok (l.foldl op a)
 | [],_,_,h=>h
 | x::l,hl,a,h=>fold_ok l (λy hy=>hl y (by simp[hy])) _ (op_ok h (hl x (by simp)))
theorem fold_from:∀(l:List (List UInt8×Nat)),(∀x∈l,Ok x)->∀a,Ok a->l.foldl op a=op a (all l)
 | [],_,a,h=>by unfold all;rw[List.foldl_nil,List.foldl_nil,op_comm,z_op h]
 | x::l,hl,a,h=>by
  have hx:=hl x (by simp);have hl':∀y∈l,Ok y:=λy hy=>hl y (by simp[hy]);unfold all;rw[List.foldl_cons,List.foldl_cons,fold_from l hl' _ (op_ok h hx),z_op hx,fold_from l hl' _ hx,op_assoc]
theorem all_erase:∀(l:List (List UInt8×Nat)) (k:Nat) (x:List UInt8×Nat),(∀x∈l,Ok x)->l[k]? =some x->op (all (l.eraseIdx k)) x=all l
 | [],_,_,_,h=>by simp at h
 | y::l,0,x,hl,h=>by
  simp at h;subst h;have hl':∀z∈l,Ok z:=λz hz=>hl z (by simp[hz]);have hy:=hl y (by simp);rw[List.eraseIdx_cons_zero];show _=(y::l).foldl op z;rw[List.foldl_cons,z_op hy,fold_from l hl' _ hy,op_comm]
 | y::l,k+1,x,hl,h=>by
  have hl':∀z∈l,Ok z:=λz hz=>hl z (by simp[hz]);have hy:=hl y (by simp);have he:∀z∈l.eraseIdx k,Ok z:=λz hz=>hl' z (List.mem_of_mem_eraseIdx hz);rw[List.eraseIdx_cons_succ];show op ((y::l.eraseIdx k).foldl op z) x=(y::l).foldl op z;rw[List.foldl_cons,List.foldl_cons,z_op hy,fold_from _ he _ hy,fold_from l hl' _ hy,op_assoc,all_erase l k x hl' (by simpa using h)]
theorem all_back (l:List (List UInt8×Nat)) (k:Nat) (x:List UInt8×Nat) (hl:∀x∈l,Ok x) (h:l[k]? =some x):all (l.eraseIdx k++[all l])=x:=by
 have he:∀z∈l.eraseIdx k,Ok z:=λz hz=>hl z (List.mem_of_mem_eraseIdx hz);have hx:=hl x (List.mem_of_getElem? h);have e:all (l.eraseIdx k++[all l])=op (all (l.eraseIdx k)) (all l):=by unfold all;rw[List.foldl_append];rfl
 have hok:Ok (all (l.eraseIdx k)):=fold_ok _ he _ z_ok;rw[e,<- all_erase l k x hl h,<- op_assoc,op_self hok,z_op hx]
theorem ovM_nat {a b:Nat} (ha:a<18446744073709551616) (hb:b<18446744073709551616):W.ovM a b=((a ^^^ b:Nat):Int):=by
 unfold W.ovM;have h1:(BitVec.ofInt 64 (a:Int) ^^^ BitVec.ofInt 64 (b:Int)).toNat=a ^^^ b:=by
  rw[BitVec.toNat_xor,BitVec.ofInt_natCast,BitVec.ofInt_natCast,BitVec.toNat_ofNat,BitVec.toNat_ofNat,Nat.mod_eq_of_lt ha,Nat.mod_eq_of_lt hb]
 rw[h1];have h2:a ^^^ b<18446744073709551616:=Nat.xor_lt_two_pow (n:=64) ha hb;simp[IntKind.wrap,IntKind.bits,IntKind.signed];omega
def toX (s:Sh):List UInt8×Nat:=(s.data,S.meta_ s.role s.lpn s.seq)
theorem mix_all {x s:List UInt8} (hx:x.length=16) (hs:s.length=16):W.mix x s 16=List.zipWith (· ^^^ ·) x s:=by
 unfold W.mix;rw[List.take_of_length_le (by simp[hx,hs]),List.drop_of_length_le (by omega),List.append_nil]
theorem over_all:∀(l:List Sh) (a:List UInt8×Nat),(∀s∈l,s.data.length=16)->Ok a->a.2<18446744073709551616->l.foldl W.over1 (a.1,(a.2:Int))=(((l.map toX).foldl op a).1,((((l.map toX).foldl op a).2:Nat):Int))/\((l.map toX).foldl op a).2<18446744073709551616
 | [],a,_,_,h=>⟨rfl,h⟩
 | s::l,a,hl,ha,h=>by
  have hs:=hl s (by simp);have hm:=S.meta_lt s.role s.lpn s.seq;have hlt:a.2 ^^^ S.meta_ s.role s.lpn s.seq<18446744073709551616:=Nat.xor_lt_two_pow (n:=64) h hm;have e:W.over1 (a.1,(a.2:Int)) s=((op a (toX s)).1,(((op a (toX s)).2:Nat):Int)):=by
   unfold W.over1;rw[ovM_nat h hm,mix_all ha hs];rfl
  rw[List.foldl_cons,List.map_cons,List.foldl_cons,e];exact over_all l (op a (toX s)) (λt ht=>hl t (by simp[ht])) (op_ok ha hs) hlt
end Xo
theorem xor_mul_add (k:Nat) {a b c d:Nat} (hb:b<2^k) (hd:d<2^k):(2^k*a+b) ^^^ (2^k*c+d)=2^k*(a ^^^ c)+(b ^^^ d):=by
 apply Nat.eq_of_testBit_eq;intro j;have hbd:b ^^^ d<2^k:=Nat.xor_lt_two_pow hb hd;rw[Nat.testBit_xor,Nat.testBit_two_pow_mul_add _ hb,Nat.testBit_two_pow_mul_add _ hd,Nat.testBit_two_pow_mul_add _ hbd];split
 ·rw[Nat.testBit_xor]
 ·rw[Nat.testBit_xor]
theorem xo_nat {a b:Nat} (ha:a<4611686018427387904) (hb:b<4611686018427387904):F9.xo a b=((a ^^^ b:Nat):Int):=by
 have h1:(BitVec.ofInt 64 (a:Int) ^^^ BitVec.ofInt 64 (b:Int)).toNat=a ^^^ b:=by
  rw[BitVec.toNat_xor,BitVec.ofInt_natCast,BitVec.ofInt_natCast,BitVec.toNat_ofNat,BitVec.toNat_ofNat,Nat.mod_eq_of_lt (by omega),Nat.mod_eq_of_lt (by omega)]
 have h2:a ^^^ b<4611686018427387904:=Nat.xor_lt_two_pow (n:=62) ha hb;unfold F9.xo;show IntKind.i64.wrap ((BitVec.ofInt 64 (a:Int) ^^^ BitVec.ofInt 64 (b:Int)).toNat:Int)=_;rw[h1];simp[IntKind.wrap,IntKind.bits,IntKind.signed];omega
structure Num9 (s:Sh):Prop where
 role:0<=s.role/\s.role<=255
 lpn:0<=s.lpn/\s.lpn<=65535
 seq:0<=s.seq/\s.seq<=1099511627775
 data:s.data.length=16
theorem may_num9 {s:Sh} (h:S.may s=true) (hd:s.data.length=16):Num9 s:=by
 simp only[S.may,S.numbers,S.inB,Bool.and_eq_true,decide_eq_true_eq]at h;exact⟨by omega,by omega,by omega,hd⟩
theorem over_num9 {a b:Sh} (ha:Num9 a) (hb:Num9 b):Num9 (F9.over a b)/\Xo.toX (F9.over a b)=Xo.op (Xo.toX a) (Xo.toX b):=by
 obtain⟨r1,e1⟩:=Int.eq_ofNat_of_zero_le ha.role.1;obtain⟨r2,e2⟩:=Int.eq_ofNat_of_zero_le hb.role.1;obtain⟨l1,e3⟩:=Int.eq_ofNat_of_zero_le ha.lpn.1;obtain⟨l2,e4⟩:=Int.eq_ofNat_of_zero_le hb.lpn.1;obtain⟨s1,e5⟩:=Int.eq_ofNat_of_zero_le ha.seq.1;obtain⟨s2,e6⟩:=Int.eq_ofNat_of_zero_le hb.seq.1;have i1:=ha.role;have i2:=hb.role;have i3:=ha.lpn;have i4:=hb.lpn;have i5:=ha.seq;have i6:=hb.seq;have x1:F9.xo a.role b.role=((r1 ^^^ r2:Nat):Int):=by rw[e1,e2];exact xo_nat (by omega) (by omega)
 have x2:F9.xo a.lpn b.lpn=((l1 ^^^ l2:Nat):Int):=by rw[e3,e4];exact xo_nat (by omega) (by omega)
 have x3:F9.xo a.seq b.seq=((s1 ^^^ s2:Nat):Int):=by rw[e5,e6];exact xo_nat (by omega) (by omega)
 have b1:r1 ^^^ r2<256:=Nat.xor_lt_two_pow (n:=8) (by omega) (by omega);have b2:l1 ^^^ l2<65536:=Nat.xor_lt_two_pow (n:=16) (by omega) (by omega);have b3:s1 ^^^ s2<1099511627776:=Nat.xor_lt_two_pow (n:=40) (by omega) (by omega);refine⟨⟨?_,?_,?_,?_⟩,?_⟩
 ·show 0<=F9.xo a.role b.role/\F9.xo a.role b.role<=255;rw[x1];omega
 ·show 0<=F9.xo a.lpn b.lpn/\F9.xo a.lpn b.lpn<=65535;rw[x2];omega
 ·show 0<=F9.xo a.seq b.seq/\F9.xo a.seq b.seq<=1099511627775;rw[x3];omega
 ·exact mix_len ha.data hb.data 16 (by omega)
 ·unfold Xo.toX Xo.op;refine Prod.ext ?_ ?_
  ·exact Xo.mix_all ha.data hb.data
  ·show S.meta_ (F9.xo a.role b.role) (F9.xo a.lpn b.lpn) (F9.xo a.seq b.seq)=S.meta_ a.role a.lpn a.seq ^^^ S.meta_ b.role b.lpn b.seq;rw[x1,x2,x3,e1,e2,e3,e4,e5,e6];have hm:∀r l s:Nat,r<256->l<65536->s<1099511627776->S.meta_ (r:Nat) (l:Nat) (s:Nat)=2^40*(2^16*r+l)+s:=λr l s h1 h2 h3=>by
    unfold S.meta_;omega
   rw[hm _ _ _ b1 b2 b3,hm r1 l1 s1 (by omega) (by omega) (by omega),hm r2 l2 s2 (by omega) (by omega) (by omega),xor_mul_add 40 (by omega) (by omega),xor_mul_add 16 (by omega) (by omega)]
theorem fold_num9:∀(l:List Sh) (p:Sh),Num9 p->(∀s∈l,Num9 s)->Num9 (l.foldl F9.over p)/\Xo.toX (l.foldl F9.over p)=(l.map Xo.toX).foldl Xo.op (Xo.toX p)
 | [],p,h,_=>⟨h,rfl⟩
 | s::l,p,h,hl=>by
  obtain⟨h1,h2⟩:=over_num9 h (hl s (by simp));obtain⟨h3,h4⟩:=fold_num9 l (F9.over p s) h1 (λt ht=>hl t (by simp[ht]));rw[List.foldl_cons,List.map_cons,List.foldl_cons,<- h2];exact⟨h3,h4⟩
theorem fold_back (p:Sh) (l:List Sh) (hp:Num9 p) (hl:∀s∈l,Num9 s):(l.foldl F9.over p).en=W.backS p l:=by
 obtain⟨h1,h2⟩:=fold_num9 l p hp hl;generalize l.foldl F9.over p=S9 at h1 h2;have hd:∀s∈l++[p],s.data.length=16:=λs hs=>by
  rcases List.mem_append.1 hs with h | h
  ·exact(hl s h).data
  ·rw[List.mem_singleton.1 h];exact hp.data
 obtain⟨o1,o2⟩:=Xo.over_all (l++[p]) Xo.z hd Xo.z_ok (by decide);have hok:∀x∈l.map Xo.toX,Xo.Ok x:=λx hx=>by
  obtain⟨s,hs,rfl⟩:=List.mem_map.1 hx;exact(hl s hs).data
 have hpx:Xo.Ok (Xo.toX p):=hp.data;have e:((l++[p]).map Xo.toX).foldl Xo.op Xo.z=Xo.toX S9:=by
  rw[h2,List.map_append,List.foldl_append,Xo.fold_from (l.map Xo.toX) hok _ hpx];exact Xo.op_comm _ _
 rw[e]at o1 o2;obtain⟨m1,m2,m3⟩:=S.meta_back S9.role S9.lpn S9.seq h1.role h1.lpn h1.seq;have ho:W.over (l++[p])=((Xo.toX S9).1,(((Xo.toX S9).2:Nat):Int)):=o1;unfold W.backS;simp only[ho,Int.toNat_natCast];show(⟨S9.lpn,S9.seq,S9.role,S9.data⟩:En)=⟨((S.meta_ S9.role S9.lpn S9.seq/1099511627776 % 65536:Nat):Int),((S.meta_ S9.role S9.lpn S9.seq % 1099511627776:Nat):Int),((S.meta_ S9.role S9.lpn S9.seq/72057594037927936:Nat):Int),S9.data⟩;rw[m1,m2,m3]
end Go.Proofs.YtdocmcapegcoeaaGreat
namespace Go.Proofs.YtdocmcapegcoeaaGreat
open Go Go.RowKit
theorem f6_SlotsG (m:Int):Fn Tryz.prog 124 [.int .i64 m] [] (λv As=>v= .int .i64 (G.slots m)/\As=[]):=by
 rw[<- slots_dI m];exact f6_Slots m
def b9out (p:Sh) (n:Nat):Bool:=(!S.may p||p.kind !=2)||((n:Int) !=G.slots p.mask-1)
theorem b9out_back {p:Sh} {l:List Sh} {n:Nat} (hl:l.length=n) (h:b9out p n=true):W.backB p l=false:=by
 unfold W.backB;simp only[b9out,Bool.or_eq_true,Bool.not_eq_true',bne_iff_ne,ne_eq]at h;rcases h with(h | h) | h
 ·rw[h];simp
 ·rw[beq_eq_false_iff_ne.2 h];simp
 ·rw[decide_eq_false (by rw[hl];exact h)];simp
def alien9 (p o:Sh):Bool:=(((!S.may o||o.kind !=1)||o.block !=p.block)||o.row !=p.row)||o.mask !=p.mask
theorem alien9_eq (p o:Sh):alien9 p o=W.alien p o:=by
 unfold alien9 W.alien;cases S.may o<;>cases o.kind !=1<;>simp
theorem back_no {p:Sh} {l:List Sh} (h:W.backB p l=false):W.back p l=En.zero:=by unfold W.back;rw[h];rfl
theorem f9_Back (p:Sh) (hp:p.data.length=16) (a:Option Nat) (n c:Nat) (l:List Sh) (hl:l.length=n) (hd:∀s∈l,s.data.length=16):Fn Tryz.prog 125 [shV p,slv a n c] [ownA 132 23 a n c (cellsS l)]
  (λv As=>v= .tuple #[enV (W.back p l), .bool (W.backB p l)]/\As=[ownA 132 23 a n c (cellsS l)]):=by
 refine Fn.enter [0,0] Tryz.func125 rfl rfl rfl λX F hX=>?_;refine J.q hX λbb=>?_;refine J.cb hX (f9_May p hp) [] ?_;refine cpq ⟨_,rfl,trivial,?_⟩;have hG:=gslots_bd p.mask;refine J.q hX λ_=>?_;refine J.join (α:=Unit) (λ_=>[⟨28, .bool (b9out p n),0, .tt⟩,⟨1,slv a n c,0, .tt⟩,⟨2, .pointer (some ⟨bb 0,0,none⟩),3, .tt⟩,⟨4, .pointer (some ⟨bb (0+1),0,none⟩),4, .tt⟩]) (λ_=>[.hp F,ownA 132 23 a n c (cellsS l), .pt (bb 0) 132 (shL p), .pt (bb (0+1)) 38 (enL En.zero)]) (λhj=>?_) (λ_=>?_)
 ·refine J.gcase hX rfl rfl rfl trivial (λhb=>?_) (λhb=>?_)
  ·have hb2:(!S.may p||p.kind !=2)=false:=by rwa [Bool.not_eq_true']at hb
   have hC:b9out p n=(false||((n:Int) !=G.slots p.mask-1)):=by unfold b9out;rw[hb2]
   rw[hb2];refine J.q hX λ_=>?_;refine J.cb hX (f6_SlotsG p.mask) [] ?_;refine cpq ⟨_,rfl,trivial,?_⟩;refine J.q hX λ_=>?_;exact J.goto [0,1,2,3] (hj ()) ⟨congrArg (λb=>some (Value.bool b)) hC.symm,rfl,rfl,rfl,trivial⟩ rfl rfl
  ·have hb2:(!S.may p||p.kind !=2)=true:=by rwa [Bool.not_eq_false']at hb
   have hC:b9out p n=true:=by unfold b9out;rw[hb2];rfl
   rw[hb2];refine J.q hX λb5=>?_;refine J.val hX (.int .i64 0) 0 rfl rfl (λhg a w he hw=>by simp[G.on]at hg) rfl trivial ?_;refine J.q hX λ_=>?_;exact J.goto [0,1,2,3] (hj ()) ⟨congrArg (λb=>some (Value.bool b)) (show _=b9out p n from by rw[hC];rfl),rfl,rfl,rfl,trivial⟩ rfl rfl
 refine J.q hX λ_=>?_;refine J.cond rfl (λh1=>?_) (λh1=>?_)
 ·have hB:=b9out_back hl h1;refine J.q hX λ_=>?_;refine J.ru hX [1] ?_;rw[back_no hB,hB];exact⟨rfl,rfl⟩
 simp only[b9out,Bool.or_eq_false_iff,Bool.not_eq_false',bne_eq_false_iff_eq]at h1;obtain⟨⟨hmp,hkp⟩,hln⟩:=h1;refine J.q hX λb5=>?_;refine J.lo (α:=Nat) (λk=>k<=n/\∀o∈l.take k,alien9 p o=false) (λk=>[⟨7, .int .i64 k,0, .tt⟩,⟨6, .pointer (some ⟨b5 0,0,none⟩),5, .tt⟩,⟨1,slv a n c,0, .tt⟩,⟨2, .pointer (some ⟨bb 0,0,none⟩),3, .tt⟩,⟨4, .pointer (some ⟨bb (0+1),0,none⟩),4, .tt⟩]) [4] (λk=>[.pt (b5 0) 132 (shL ((l.take k).foldl F9.over p))]) (λk=>n-k) (0) (⟨Nat.zero_le _,by simp⟩) rfl ?_ (λ_=>rfl) λk hI=>?_
 ·rfl
 obtain⟨hk,hal⟩:=hI;refine J.q hX λ_=>?_;refine J.cond rfl (λh2=>?_) (λh2=>?_)
 ·simp only[decide_eq_true_eq,Int.ofNat_lt]at h2;obtain⟨o,ho⟩:∃o,l[k]? =some o:=⟨_,List.getElem?_eq_getElem (by omega)⟩;have hod:=hd o (List.mem_of_getElem? ho);refine J.know (λh' s=>own_some (c:=(a,c)) (by omega) (s.get (i:=1) rfl)) λhg=>?_;obtain⟨g,rfl⟩:=hg;have hts:l.take (k+1)=l.take k++[o]:=by rw[List.take_add_one,ho];rfl
  have hfold:(l.take (k+1)).foldl F9.over p=F9.over ((l.take k).foldl F9.over p) o:=by rw[hts,List.foldl_append];rfl
  have hfl:((l.take k).foldl F9.over p).data.length=16:=by
   have:∀(l:List Sh) (q:Sh),(∀s∈l,s.data.length=16)->q.data.length=16->(l.foldl F9.over q).data.length=16:=by
    intro l
    induction l with
    | nil=>intro q _ h;exact h
    | cons x l ih=>intro q hd h;exact ih _ (λt ht=>hd t (by simp[ht])) (mix_len h (hd x (by simp)) 16 (by omega))
   exact this _ _ (λs hs=>hd s (List.mem_of_mem_take hs)) hp
  generalize(l.take k).foldl F9.over p=q at hfold hfl;refine J.q hX λ_=>?_;refine J.val hX (shV o) 0 rfl rfl (λhg a w he hw=>?_) rfl trivial ?_
  ·exact ownN_run tk rfl rfl he rfl rfl rfl (hw.get (i:=1) rfl) (by rw[show 0+(k:Int).toNat*23=k*23 from by omega];exact cellsS_get ho) rfl
  refine J.q hX λ_=>?_;refine J.cb hX (f9_May o hod) [] ?_;refine cpq ⟨_,rfl,trivial,?_⟩;refine J.q hX λ_=>?_;refine J.cond rfl (λh3=>?_) (λh3=>?_)
  ·have hB:W.backB p l=false:=by
    have ha:W.alien p o=true:=by rw[<- alien9_eq];exact h3
    unfold W.backB;rw[List.any_eq_true.2 ⟨o,List.mem_of_getElem? ho,ha⟩];simp
   refine J.q hX λ_=>?_;refine J.ru hX [1] ?_;rw[back_no hB,hB];exact⟨rfl,rfl⟩
  ·have h3:alien9 p o=false:=h3;refine J.q hX λ_=>?_;refine J.cb hX (f9_over q o hfl hod) [] ?_;refine cpq ⟨_,rfl,trivial,?_⟩;rw[<- hfold];refine J.q hX λ_=>?_;refine J.nS (k+1) (⟨by omega,λt ht=>by
    rw[hts]at ht;rcases List.mem_append.1 ht with h | h
    ·exact hal t h
    ·rw[List.mem_singleton.1 h];exact h3⟩) (by omega) [0,1,2,3,4] rfl rfl
 simp only[decide_eq_false_iff_not,Int.ofNat_lt]at h2;have htk:l.take k=l:=List.take_of_length_le (by omega);rw[htk]at hal ⊢;have hnum:∀s∈l,Num9 s:=λs hs=>may_num9 (by
  have h:=hal s hs;simp only[alien9,Bool.or_eq_false_iff,Bool.not_eq_false']at h;exact h.1.1.1.1) (hd s hs)
 have hq:=fold_back p l (may_num9 hmp hp) hnum;have hqd:=(fold_num9 l p (may_num9 hmp hp) hnum).1.data;have hany:l.any (W.alien p)=false:=by
  rw[List.any_eq_false];intro o ho;rw[<- alien9_eq,hal o ho];decide
 have hB:W.backB p l=W.ok p.block p.row p.mask (l.foldl F9.over p).en:=by
  unfold W.backB;rw[hkp,hmp,hany,decide_eq_true (by rw[hl];exact hln),hq];simp
 generalize l.foldl F9.over p=q at hq hqd hB;refine J.q hX λ_=>?_;refine J.cb hX (f9_Own p.block p.row p.mask q.en hqd) [] ?_;refine cpq ⟨_,rfl,trivial,?_⟩;rw[<- hB];refine J.q hX λ_=>?_;refine J.cond rfl (λh4=>?_) (λh4=>?_)
 ·have h4:W.backB p l=false:=by simpa using h4
  refine J.q hX λ_=>?_;refine J.ru hX [1] ?_;rw[back_no h4,h4];exact⟨rfl,rfl⟩
 ·have h4:W.backB p l=true:=by simpa using h4
  have hbk:W.back p l=q.en:=by unfold W.back;rw[if_pos h4,hq]
  refine J.q hX λ_=>?_;refine J.ru hX [1] ?_;rw[hbk,h4];exact⟨rfl,rfl⟩
theorem look_slot (N:Nand) (b r m:Int) {i:Nat} (h:i<(G.slots m).toNat):(R.look N b r m).slots[i]? =some (R.one N b r m (G.die m b r i)).1/\(R.look N b r m).good.getD i false=(R.one N b r m (G.die m b r i)).2:=by
 unfold R.look R.ones;simp[List.getD_eq_getElem?_getD,h]
theorem f9_mended (p:Nat) (N:Nand) (hN:N.Ok) (hR:N.Room) (b r m:Int) (k:Nat) (hk:k<1000000):Fn Tryz.prog 80 [.pointer (some ⟨p,0,none⟩), .int .i64 b, .int .i64 r, .int .i64 m, .int .i64 k] [NandA p N]
  (λv As=>v= .tuple #[enV (R.mend (R.look N b r m) k), .bool (R.mendB (R.look N b r m) k)]/\As=[NandA p N]):=by
 have hG:=gslots_bd m;obtain⟨hsl,hgl⟩:=look_len N b r m;obtain⟨hsd,hpd⟩:=look_data hN b r m;have hslot:=λi (h:i<(G.slots m).toNat)=>look_slot N b r m h;have hwh:(R.one N b r m (G.parity m b r))=((R.look N b r m).parity,(R.look N b r m).whole):=rfl;obtain⟨f,hf⟩:∃f,R.look N b r m=f:=⟨_,rfl⟩;rw[hf]at hsl hgl hsd hpd hslot hwh ⊢;obtain⟨n,hn⟩:=Int.eq_ofNat_of_zero_le hG.1;have hnt:(G.slots m).toNat=n:=by omega
 rw[hnt]at hsl hgl hslot;refine Fn.enter [2,0,0,0,0] Tryz.func80 rfl rfl rfl λX F hX=>?_;refine J.turn1 [] rfl (As:=[ownA 132 23 none 0 0 (cellsS (othN f.slots k 0))]) (λh s=>Sep.one ⟨rfl,rfl,rfl⟩) rfl ?_;refine J.q hX λbb=>?_;refine J.cb hX (f6_Parity m b r) [] ?_;refine cpq ⟨_,rfl,trivial,?_⟩;refine J.q hX λ_=>?_;refine J.cb hX (f9_one p N hN hR b r m (G.parity m b r)) [1] ?_;refine cpq ⟨_,rfl,trivial,?_⟩;rw[hwh];refine J.q hX λb12=>?_;refine J.lo (α:=(Nat×Bool×Option Nat×Nat)) (λz=>z.1<=n/\z.2.1=(f.whole&&(List.range z.1).all λi=>i==k||f.good.getD i false)) (λz=>[⟨15, .int .i64 z.1,0, .tt⟩,⟨14,slv z.2.2.1 (othN f.slots k z.1).length z.2.2.2,0, .tt⟩,⟨13, .bool z.2.1,0, .tt⟩,⟨12, .pointer (some ⟨b12 0,0,none⟩),5, .tt⟩,⟨10, .pointer (some ⟨bb 0,0,none⟩),4, .tt⟩,⟨11, .bool false,0, .tt⟩,⟨0, .pointer (some ⟨p,0,none⟩),2, .tt⟩,⟨1, .int .i64 b,0, .tt⟩,⟨2, .int .i64 r,0, .tt⟩,⟨3, .int .i64 m,0, .tt⟩,⟨4, .int .i64 k,0, .tt⟩]) [2] (λz=>[ownA 132 23 z.2.2.1 (othN f.slots k z.1).length z.2.2.2 (cellsS (othN f.slots k z.1))]) (λz=>n-z.1) ((0,f.whole,none,0)) (⟨Nat.zero_le _,by simp⟩) rfl ?_ (λ_=>rfl) λz hI=>?_
 ·rfl
 obtain⟨i,ob,a,c⟩:=z;dsimp only at hI ⊢;obtain⟨hi,hob⟩:=hI;have hol:=othN_len f.slots k i;refine J.q hX λ_=>?_;refine J.cb hX (f6_SlotsG m) [] ?_;refine cpq ⟨_,rfl,trivial,?_⟩;rw[hn];refine J.q hX λ_=>?_;refine J.cond rfl (λh1=>?_) (λh1=>?_)
 ·simp only[decide_eq_true_eq,Int.ofNat_lt]at h1;obtain⟨q1,q2⟩:=hslot i h1;refine J.q hX λ_=>?_;refine J.cb hX (f6_Die m b r i) [] ?_;refine cpq ⟨_,rfl,trivial,?_⟩;refine J.q hX λ_=>?_;refine J.cb hX (f9_one p N hN hR b r m (G.die m b r i)) [1] ?_;refine cpq ⟨_,rfl,trivial,?_⟩;generalize R.one N b r m (G.die m b r i)=x at q1 q2;obtain⟨s,g⟩:=x;refine J.q hX λb12=>?_;refine J.cond rfl (λh2=>?_) (λh2=>?_)
  ·simp only[bne_iff_ne,ne_eq,Int.natCast_inj]at h2;have hsn:=othN_ne f.slots k i s q1 h2;have hob2:(ob&&g)=(f.whole&&(List.range (i+1)).all λi=>i==k||f.good.getD i false):=by
    rw[List.range_succ,List.all_append,<- Bool.and_assoc,<- hob];congr 1;rw[List.all_cons,List.all_nil,Bool.and_true,beq_eq_false_iff_ne.2 h2,Bool.false_or,q2]
   refine J.q hX λ_=>?_;refine J.append hX tk 2 6 0 rfl rfl rfl rfl rfl rfl rfl rfl rfl rfl rfl rfl rfl rfl rfl rfl ?_ ?_ (λ_=>rfl) λa4 c4=>⟨_,(congrArg (λz=>lset _ 2 (ownA _ _ _ _ _ z)) ((cellsS_snoc _ _).symm.trans (congrArg cellsS hsn.symm))).trans rfl,trivial,?_⟩
   ·simp only[maxLen];omega
   ·omega
   rw[show(othN f.slots k i).length+1=(othN f.slots k (i+1)).length from by rw[hsn];simp];refine J.q hX λ_=>?_;refine J.nS ((i+1,ob&&g,a4,c4)) (⟨by dsimp only;omega,hob2⟩) (by dsimp only;omega) [0,1,2,3,4] rfl rfl
  ·simp only[bne_eq_false_iff_eq,Int.natCast_inj]at h2;have hsn:othN f.slots k (i+1)=othN f.slots k i:=by rw[<- h2];exact othN_eq f.slots i (by omega)
   have hob2:ob=(f.whole&&(List.range (i+1)).all λi=>i==k||f.good.getD i false):=by
    rw[List.range_succ,List.all_append,<- Bool.and_assoc,<- hob,List.all_cons,List.all_nil,Bool.and_true,h2];simp
   rw[<- hsn];refine J.q hX λ_=>?_;refine J.nS ((i+1,ob,a,c)) (⟨by dsimp only;omega,hob2⟩) (by dsimp only;omega) [0,1,2,3,4] rfl rfl
 simp only[decide_eq_false_iff_not,Int.ofNat_lt]at h1;obtain rfl:i=n:=by omega
 have hoe:othN f.slots k i=f.slots.eraseIdx k:=by unfold othN;rw[List.take_of_length_le (by omega)]
 have hrest:ob=(R.rest f k&&f.whole):=by rw[hob,Bool.and_comm];unfold R.rest;rw[hsl]
 rw[hoe];refine J.q hX λ_=>?_;refine J.cond rfl (λh3=>?_) (λh3=>?_)
 ·have h3:ob=false:=by simpa using h3
  rw[h3]at hrest;have m1:R.mendB f k=false:=by unfold R.mendB;rw[<- hrest];rfl
  have m2:R.mend f k=En.zero:=by unfold R.mend;rw[<- hrest];rfl
  refine J.q hX λ_=>?_;refine J.ru hX [1] ?_;rw[m1,m2];exact⟨rfl,rfl⟩
 ·have h3:ob=true:=by simpa using h3
  rw[h3]at hrest;have m1:R.mendB f k=W.backB f.parity (f.slots.eraseIdx k):=by unfold R.mendB;rw[<- hrest];rfl
  have m2:R.mend f k=W.back f.parity (f.slots.eraseIdx k):=by unfold R.mend;rw[<- hrest];rfl
  refine J.q hX λ_=>?_;refine J.cb hX (f9_Back f.parity hpd a (f.slots.eraseIdx k).length c (f.slots.eraseIdx k) rfl (λs hs=>hsd s (List.mem_of_mem_eraseIdx hs))) [2] ?_;refine cpq ⟨_,rfl,trivial,?_⟩;rw[<- m1,<- m2];refine J.q hX λ_=>?_;exact J.ru hX [1] ⟨rfl,rfl⟩
theorem f9_Read (p:Nat) (N:Nand) (hN:N.Ok) (hR:N.Room) (hoff:N.off=false) (b r s m:Int):Fn Tryz.prog 34 [.pointer (some ⟨p,0,none⟩), .agg #[.int .i64 b, .int .i64 r, .int .i64 s], .int .i64 m] [NandA p N]
  (λv As=>v= .tuple #[enV (R.read N b r s m).1, .int .i64 (R.read N b r s m).2]/\As=[NandA p N]):=by
 refine Fn.enter [2,0,0] Tryz.func34 rfl rfl rfl λX F hX=>?_;refine J.q hX λ_=>?_;refine J.cb hX (f6_Die m b r s) [] ?_;refine cpq ⟨_,rfl,trivial,?_⟩;refine J.q hX λ_=>?_;refine J.plan (.of [0,4,8,12,20,25,28,33,36,18,42,44,48]) [] [2] (by rw[hX.hP];kernel_rfl) (by kernel_rfl) ?_;refine J.q hX λ_=>?_;refine J.gcase hX rfl rfl rfl ⟨rfl,trivial⟩ (λhb=>?_) (λhb=>?_)
 ·have hb2:decide (G.die m b r s<0)=false:=by rwa [Bool.not_eq_true']at hb
  rw[hb2];refine J.q hX λ_=>?_;refine J.cb hX (n_Geo p N) [1] ?_;refine cpq ⟨_,rfl,⟨rfl,trivial⟩,?_⟩;refine J.q hX λ_=>?_;refine J.cb hX (f6_In N.dies N.blocks N.pages 0 b r) [] ?_;refine cpq ⟨_,rfl,⟨rfl,trivial⟩,?_⟩;refine J.q hX λ_=>?_;refine J.cond rfl (λh2=>?_) (λh2=>?_)
  ·refine J.q hX λ_=>?_;refine J.ru hX [1] ?_;have:G.die m b r s<0\/geoIn N.dies N.blocks N.pages 0 b r=false:= .inr (by simpa using h2);rw[R.read,if_pos this];exact⟨rfl,rfl⟩
  have hd0:¬G.die m b r s<0:=of_decide_eq_false hb2;have hc:¬(G.die m b r s<0\/geoIn N.dies N.blocks N.pages 0 b r=false):=by
   rintro(h | h)
   ·exact hd0 h
   ·rw[h]at h2;simp at h2
  have hd:=die_lt (m:=m) (b:=b) (r:=r) (s:=s) (by omega);have hsb:=gslots_bd m;obtain⟨k,rfl⟩:=Int.eq_ofNat_of_zero_le hd.1;have hk:k<(G.slots m).toNat:=by omega
  obtain⟨q1,q2⟩:=look_slot N b r m hk;have hsl:(R.look N b r m).slots.getD k Sh.zero=(R.one N b r m (G.die m b r k)).1:=by rw[List.getD_eq_getElem?_getD,q1];rfl
  have hrd:R.read N b r k m=if(R.one N b r m (G.die m b r k)).2 then((R.one N b r m (G.die m b r k)).1.en,0)else if R.mendB (R.look N b r m) k then(R.mend (R.look N b r m) k,0)else(En.zero,10):=by
   unfold R.read;rw[if_neg hc,hoff,if_neg (by decide),Int.toNat_natCast,q2,hsl]
  refine J.q hX λ_=>?_;refine J.cb hX (f9_one p N hN hR b r m (G.die m b r k)) [1] ?_;refine cpq ⟨_,rfl,trivial,?_⟩;generalize R.one N b r m (G.die m b r k)=x at hrd;obtain⟨sx,gx⟩:=x;refine J.q hX λ_=>?_;refine J.cond rfl (λh3=>?_) (λh3=>?_)
  ·have h3:gx=true:=h3;refine J.q hX λ_=>?_;refine J.cb hX (f9_entry sx) [] ?_;refine cpq ⟨_,rfl,trivial,?_⟩;refine J.q hX λ_=>?_;refine J.ru hX [1] ?_;rw[hrd,h3];exact⟨rfl,rfl⟩
  have h3:gx=false:=h3;subst h3;rw[if_neg (by simp)]at hrd;refine J.q hX λ_=>?_;refine J.cb hX (f9_mended p N hN hR b r m k (by omega)) [1] ?_;refine cpq ⟨_,rfl,trivial,?_⟩;generalize R.mendB (R.look N b r m) k=mb at hrd;generalize R.mend (R.look N b r m) k=me at hrd;refine J.q hX λ_=>?_;refine J.cond rfl (λh4=>?_) (λh4=>?_)
  ·have h4:mb=false:=by simpa using h4
   subst h4;refine J.q hX λ_=>?_;refine J.ru hX [1] ?_;rw[hrd];exact⟨rfl,rfl⟩
  ·have h4:mb=true:=by simpa using h4
   subst h4;refine J.q hX λ_=>?_;refine J.ru hX [1] ?_;rw[hrd];exact⟨rfl,rfl⟩
 ·have hb2:decide (G.die m b r s<0)=true:=by rwa [Bool.not_eq_false']at hb
  rw[hb2];refine J.q hX λ_=>?_;refine J.gcase hX rfl rfl rfl ⟨rfl,trivial⟩ (λhb=>by simp at hb) (λhb=>?_);refine J.q hX λ_=>?_;refine J.valT hX (.bool false) 0 rfl rfl (λhg a w he hw=>by simp[G.on]at hg) rfl ?_;refine J.q hX λ_=>?_;refine J.cond rfl (λh2=>?_) (λh2=>?_)
  ·refine J.q hX λ_=>?_;refine J.ru hX [1] ?_;have:G.die m b r s<0\/geoIn N.dies N.blocks N.pages 0 b r=false:= .inl (of_decide_eq_true hb2);rw[R.read,if_pos this];exact⟨rfl,rfl⟩
  ·simp at h2
end Go.Proofs.YtdocmcapegcoeaaGreat
