/- Helpers, proved here. No condition. -/
import Derived.Test.YtkdlnfdjjifedaaGreatD06
import Derived.Test.YtkdlnfdjjifedaaGreatD19
import Derived.Test.YtkdlnfdjjifedaaGreatD20
import Derived.Test.YtkdlnfdjjifedaaGreatD21
import Derived.Test.YtkdlnfdjjifedaaGreatD23
set_option maxRecDepth 20000
set_option linter.all false
namespace Go.Proofs.YtkdlnfdjjifedaaGreat
open Go Go.RowKit
def rdA (a:Option Addr) (size n:Nat) (xs:List Value):Atom:= .hp ⟨rdP a size n xs,λ_ _ l s=>s.up l⟩
theorem rdA_rd (a:Option Addr) (size n:Nat) (xs:List Value):Rd (rdA a size n xs) a size n xs:=λ_ s=>s
def oad2:Option (Nat×Nat)->Option Addr
 | some x=>some ⟨x.1,x.2,none⟩
 | none=>none
def cutA (a:Option (Nat×Nat)) (size h c:Nat):Option (Nat×Nat):=match a with
 | some y=>if c=h then some y else some (y.1,y.2+h*size)
 | none=>none
section
variable {P : Program} {T : Tab} {E : Env} {n : Nat} {ac : Act} {w : World}
theorem cutlo2_run (hT:TabOK P T) {o:Oper} {t e size:Nat} {x y:Operand} {k1 k2 t1 t2:Nat} {g1 g2:G} {a:Option (Nat×Nat)} {m c h:Nat} {kk:IntKind} {hI:Int} {s1 b1 b2:Nat} {z1 z2:List Value} {td:TD} (hop:o.op= .slice t x (some y) none none) (hx:ev E x=some ⟨k1, .slice (oad2 a) m c,t1,g1⟩) (hy:ev E y=some ⟨k2, .int kk hI,t2,g2⟩) (he:EnvOK n E ac) (v1:g1.on=true) (v2:g2.on=true)
  (ht:T.get t=some ⟨.slice e size,s1,z1,b1⟩) (hte:T.get e=some ⟨td,size,z2,b2⟩) (hhI:hI=(h:Int)) (hh:h<=m):
  (execOp ac.eval o).run P w= .ok (.value (.slice (oad2 (cutA a size h c)) (m-h) (c-h))) w:=by
 subst hhI;have e1:=ev_spec he hx;have e2:=ev_spec he hy;simp only[Slot.val,v1,v2]at e1 e2;obtain⟨d,f,zv,ok⟩:=tiOf_spec (hT.get ht);obtain⟨fe,rfl,g1,g2⟩:=ok.slice rfl;cases a with
 | none=>
  simp only[execOp,hop,Option.map_some,Option.map_none,e1,e2,Instr.sliceAt,Instr.slice,Instr.sliceBounds,Instr.sliceBound,asIntOf,Sem.run_bind,Sem.run_pure,Result.andThen_ok,underlying_run ok.hd,sizeOf_run g1,g2];simp[hh,oad2,cutA]
 | some ad=>
  by_cases hne:c=h
  ·simp only[execOp,hop,Option.map_some,Option.map_none,e1,e2,Instr.sliceAt,Instr.slice,Instr.sliceBounds,Instr.sliceBound,asIntOf,Sem.run_bind,Sem.run_pure,Result.andThen_ok,underlying_run ok.hd,sizeOf_run g1,g2];simp[hh,hne,Addr.add_none,oad2,cutA]
  ·simp only[execOp,hop,Option.map_some,Option.map_none,e1,e2,Instr.sliceAt,Instr.slice,Instr.sliceBounds,Instr.sliceBound,asIntOf,Sem.run_bind,Sem.run_pure,Result.andThen_ok,underlying_run ok.hd,sizeOf_run g1,g2];simp[hh,hne,Addr.add_none,oad2,cutA]
end
section
variable {X : Cx} {P : Program} {K : List KI} {E : Env} {L : List Atom} {N : Nat} {F : HP} {Post : Value → List Atom → Prop} {rs : List ResultVar} {T : Tab}
theorem J.appendRO (hX:IsCx X P rs N F Post) (hT:TabOK P T) {ops:Array Oper} {C:Cl} {lt:Bool} {i:Nat} {t:PT} {o:Oper} {x y:Operand} {st e size by_:Nat} {ks tgs:Nat} {gs:G} {a:Option Nat} {n cap:Nat} {xs:List Value} {ky tgy:Nat} {gy:G} {ay:Option (Nat×Nat)} {m cy:Nat} {cs:List Value} {s1 b1:Nat} {z1:List Value} {E':Value->Env} {Ay:Atom} (is iy:Nat) (hc0:ay=none->cy=0)
  (ho:lget ops.toList i=some o) (hg:gd ops.toList E o=some .tt) (hop:o.op= .call ⟨.builtin .append,#[x,y],#[st,st]⟩)
  (hx:ev E x=some ⟨ks,slv a n cap,tgs,gs⟩) (hvx:gs.on=true) (hy:ev E y=some ⟨ky, .slice (oad2 ay) m cy,tgy,gy⟩) (hvy:gy.on=true)
  (hLs:lget L is=some (ownA e size a n cap xs)) (hLy:lget L iy=some Ay) (hrd:Rd Ay (oad2 ay) size m cs) (hst:T.get st=some ⟨.slice e size,s1,z1,b1⟩) {td:TD} {z:List Value} (he:T.get e=some ⟨td,size,z,by_⟩) (hz:Nat.beq z.length size=true)
  (hsz:Nat.blt 0 size=true) (h1:∀u∈cs,u.oneCell'=true) (h63:n+m<=maxLen) (hbytes:(n+m)*by_<=140737488355328)
  (hd:∀v,putE N o.dst v 0 .tt E=some (E' v))
  (hJ:∀a' cap',∃L',lset L is (ownA e size a' (n+m) cap' (xs++cs))=some L'/\Conj (staysL lt C L')/\J X (.reg ops C t::K) (E' (slv a' (n+m) cap')) L'):J X (.reg ops C (.alt lt i t .non)::K) E L:=by
 cases ay with
 | some b=>exact J.appendR hX hT (oo:=b.2) is iy 0 ho hg rfl hop hx hvx hy hvy hLs hLy hrd hst he hz hsz h1 h63 hbytes hd hJ
 | none=>
  obtain rfl:=hc0 rfl;rw[lget_eq]at hLs hLy;refine J.know (p:=cs.length=m*size/\m=0) (λh s=>⟨(hrd _ (s.get hLy)).1,by
   rcases Nat.eq_zero_or_pos m with h0 | h0
   ·exact h0
   ·obtain⟨_,_,_,_,_,e,_⟩:=(hrd _ (s.get hLy)).2 h0;cases e⟩) λhk=>?_
  obtain⟨q1,rfl⟩:=hk;have hcs:cs=[]:=List.eq_nil_of_length_eq_zero (by rw[q1,Nat.zero_mul]);subst hcs;obtain⟨L',e1,e2,e3⟩:=hJ a cap;rw[Nat.add_zero,List.append_nil]at e1;rw[Nat.add_zero]at e3;have hL:L'=L:=by
   rw[lset_eq e1];apply List.ext_getElem?;intro j;rw[List.getElem?_set];split
   ·rename_i e;subst e;split
    ·exact hLs.symm
    ·rename_i e4;rw[List.getElem?_eq_none (by omega)]
   ·rfl
  subst hL;exact J.val hX (slv a n cap) 0 ho hg (λ_ ac w hen hs=>append_none_run hT hop hx hvx hy hvy hen hst he (show ownP e size a n cap xs (hl w)from hs.get hLs)) (hd _) e2 e3
end
theorem ownP_nil {e size:Nat} {a:Option Nat} {n cap:Nat} {xs:List Value} {h:Hl} (s:ownP e size a n cap xs h):a=none->cap=0:=λe=>by subst e;exact s.2.2
theorem rd_cutA {a:Option (Nat×Nat)} {size n c h:Nat} {xs:List Value} {hh:Hl} (s:rdP (oad2 a) size n xs hh) (hn:h<=n) (hc:n<=c):rdP (oad2 (cutA a size h c)) size (n-h) (xs.drop (h*size)) hh:=by
 cases a with
 | none=>
  refine⟨by rw[List.length_drop,s.1,Nat.sub_mul],λh0=>?_⟩;obtain⟨b,o,_,_,_,e,_⟩:=s.2 (by omega);cases e
 | some y=>
  by_cases e:c=h
  ·refine⟨by rw[List.length_drop,s.1,Nat.sub_mul],λh0=>by omega⟩
  ·unfold cutA;simp only[if_neg e];exact(rdA_rd (some ⟨y.1,y.2,none⟩) size n xs).drop h hn _ s
theorem oad2_some {a:Option (Nat×Nat)} {size n:Nat} {xs:List Value} {h:Hl} (s:rdP (oad2 a) size n xs h) (hn:0<n):∃y,a=some y:=by
 cases a with
 | none=>obtain⟨_,_,_,_,_,e,_⟩:=s.2 hn;cases e
 | some y=>exact⟨y,rfl⟩
theorem cellsE_drop (L:List En):∀k,(cellsE L).drop (k*19)=cellsE (L.drop k):=by
 induction L with
 | nil=>intro k;simp[cellsE]
 | cons x l ih=>
  intro k;cases k with
  | zero=>simp
  | succ k=>
   have e1:cellsE (x::l)=enL x++cellsE l:=by simp[cellsE]
   rw[e1,List.drop_succ_cons,<- ih k,show(k+1)*19=(enL x).length+k*19 from by show _=19+k*19;omega,<- List.drop_drop,List.drop_left' rfl]
theorem rd_drop {a:Option (Nat×Nat)} {n c h:Nat} {L:List En} {hh:Hl} (s:rdP (oad2 a) 19 n (cellsE L) hh) (hl:L.length=n) (hn:h<=n) (hc:n<=c):rdP (oad2 (cutA a 19 h c)) 19 (L.drop h).length (cellsE (L.drop h)) hh:=by
 have:=rd_cutA s hn hc
 rwa [cellsE_drop,<- hl,<- List.length_drop]at this
theorem cutA_none {a:Option (Nat×Nat)} {size h c:Nat} (hz:a=none->c=0):cutA a size h c=none->c-h=0:=by
 cases a with
 | none=>intro _;rw[hz rfl];omega
 | some y=>intro e;unfold cutA at e;simp only at e;split at e<;>cases e
theorem mn_Torn (n t l p:Nat) (S:Dv) (k mm:Nat) (A:Atom) (a:Option (Nat×Nat)) (m c:Nat) (es:List En) (hA:Rd A (oad2 a) 19 m (cellsE es)) (hl:es.length=m) (hm:m<=1000000) (hc:m<=c) (ha:a=none->c=0) (hd:∀s∈es,s.data.length=16) (hO:S.Ok (Dv.costT*m+k) mm) (hmm:mm<=12):
  Fn Tryz.prog 81 [.pointer (some ⟨n,0,none⟩), .pointer (some ⟨t,0,none⟩), .pointer (some ⟨l,0,none⟩), .pointer (some ⟨p,0,none⟩), .slice (oad2 a) m c] (DvP p n t l S++[A])
  (λv As=>v= .int .i64 (S.torn es).2/\As=DvP p n t l (S.torn es).1++[A]):=by
 subst hl;refine Fn.enter [3,4,5,2,0] Tryz.func81 rfl rfl rfl λX F hX=>?_;refine J.q hX λ_=>?_;refine J.lo (α:=(Nat×Dv×List En×Option (Nat×Nat)×Nat)) (λz=>z.2.2.1.length<=z.1/\z.2.2.1.length<=z.2.2.2.2/\z.2.2.1.length<=1000000/\(z.2.2.2.1=none->z.2.2.2.2=0)/\Rd A (oad2 z.2.2.2.1) 19 z.2.2.1.length (cellsE z.2.2.1)/\(∀s∈z.2.2.1,s.data.length=16)/\z.2.1.Ok (Dv.costT*z.1+k) mm/\Dv.tornGo z.1 z.2.1 z.2.2.1=S.torn es) (λz=>[⟨4, .slice (oad2 z.2.2.2.1) z.2.2.1.length z.2.2.2.2,0, .tt⟩,⟨0, .pointer (some ⟨n,0,none⟩),3, .tt⟩,⟨1, .pointer (some ⟨t,0,none⟩),4, .tt⟩,⟨2, .pointer (some ⟨l,0,none⟩),5, .tt⟩,⟨3, .pointer (some ⟨p,0,none⟩),2, .tt⟩]) [1,2,3,4] (λz=>DvP p n t l z.2.1) (λz=>z.1) ((es.length,S,es,a,c)) (⟨Nat.le_refl _,hc,hm,ha,hA,hd,hO,rfl⟩) rfl ?_ (λ_=>rfl) λz hI=>?_
 ·rfl
 obtain⟨j,Q,L,a',c'⟩:=z;dsimp only at hI ⊢;obtain⟨hj,hLc,hLm,ha',hAr,hLd,hQ,hw⟩:=hI;refine J.q hX λ_=>?_;refine J.cond rfl (λh1=>?_) (λh1=>?_)
 ·simp only[decide_eq_true_eq]at h1;have hL0:L.length≠0:=by omega
  obtain⟨j,rfl⟩:∃i,j=i+1:=⟨j-1,by omega⟩;rw[Dv.tornGo,if_neg hL0]at hw;dsimp only at hw;have hQ1:Q.Ok (Dv.costM+(8*Dv.fuel+(Dv.costT*j+k))) mm:=hQ.less (by unfold Dv.costT Dv.cost;rw[Nat.mul_succ];omega);have hr:=Dv.room_keep hQ1;refine J.q hX λ_=>?_;refine J.cb hX (sw_Room n t l p Q _ mm hQ1 hmm) [1,2,3,4] ?_;refine cpq ⟨_,rfl,trivial,?_⟩;generalize Q.room=W at hw hr ⊢;obtain⟨P,er⟩:=W;dsimp only at hw hr ⊢;refine J.q hX λ_=>?_;refine J.cond rfl (λh2=>?_) (λh2=>?_)
  ·simp only[bne_iff_ne,ne_eq]at h2;rw[if_pos h2]at hw;refine J.q hX λ_=>?_;refine J.ru hX [1,2,3,4,5] ?_;rw[<- hw];exact⟨rfl,rfl⟩
  simp only[bne_eq_false_iff_eq]at h2;rw[if_neg (by rw[h2];decide)]at hw;have htook:=λh0=>Dv.pen_took hr.1 hLd h0 hL0;have hkeep:=Dv.pen_keep hr.1 hLd;refine J.q hX λ_=>?_;refine J.cb hX (pn_Write p n t l P _ mm hr.1 A (oad2 a') L.length c' L hAr rfl hLm hLd) [1,2,3,4,5] ?_;refine cpq ⟨_,rfl,trivial,?_⟩;have hpb:0<=(P.pen L).2.1/\(P.pen L).2.1<=7:=write_bd _ _ _;generalize P.pen L=W at hw htook hkeep hpb ⊢;obtain⟨P',nn,er2⟩:=W;dsimp only at hw htook hkeep hpb ⊢;refine J.q hX λ_=>?_;refine J.cond rfl (λh3=>?_) (λh3=>?_)
  ·simp only[bne_iff_ne,ne_eq]at h3;rw[if_pos h3]at hw;refine J.q hX λ_=>?_;refine J.ru hX [1,2,3,4,5] ?_;rw[<- hw];exact⟨rfl,rfl⟩
  simp only[bne_eq_false_iff_eq]at h3;rw[if_neg (by rw[h3];decide)]at hw;have htk:=htook h3;obtain⟨v,rfl⟩:=Int.eq_ofNat_of_zero_le hpb.1;have hvL:v<=L.length:=by have:=htk.2.1;omega
  rw[Int.toNat_natCast]at hw;refine J.qn hX 4 λ_=>?_;refine J.val hX (.slice (oad2 (cutA a' 19 v c')) (L.length-v) (c'-v)) 0 rfl rfl (λhg aa w he hw=>cutlo2_run tk rfl rfl rfl he rfl rfl rfl rfl rfl hvL) rfl trivial ?_;rw[show L.length-v=(L.drop v).length from by rw[List.length_drop]];refine J.q hX λ_=>?_;refine J.nS ((j,P',L.drop v,cutA a' 19 v c',c'-v)) (⟨by dsimp only;rw[List.length_drop];omega,by dsimp only;rw[List.length_drop];omega,by dsimp only;rw[List.length_drop];omega,cutA_none ha',λh s=>rd_drop (hAr h s) rfl hvL hLc,λs hs=>hLd s (List.mem_of_mem_drop hs),hkeep.1,hw⟩) (by dsimp only;omega) [0,1,2,3,4,5] rfl rfl
 ·simp only[decide_eq_false_iff_not]at h1;have hL0:L.length=0:=by omega
  have hz:Dv.tornGo j Q L=(Q,0):=by
   cases j with
   | zero=>rfl
   | succ j=>rw[Dv.tornGo,if_pos hL0]
  refine J.q hX λ_=>?_;refine J.ru hX [1,2,3,4,5] ?_;rw[<- hw,hz];exact⟨rfl,rfl⟩
def FtlA (f n t l p d:Nat) (F:Fv):Atom:= .pt f 126 [.pointer (some ⟨n,0,none⟩), .pointer (some ⟨t,0,none⟩), .pointer (some ⟨l,0,none⟩), .pointer (some ⟨p,0,none⟩), .pointer (some ⟨d,0,none⟩), .int .i64 F.nx, .bool F.off]
def FvP (f p n t l d:Nat) (F:Fv):List Atom:=[FtlA f n t l p d F,PenA p n t l F.S,NandA n F.S.N,TlA t F.S.t,TbA l F.S.T,DeskA d F.L]
theorem ft_Logical (f n t l p d:Nat) (Z:Fv) (hN:Z.S.N.Ok):Fn Tryz.prog 28 [.pointer (some ⟨f,0,none⟩)] [FtlA f n t l p d Z,NandA n Z.S.N] (λv As=>v= .int .i64 Z.lg/\As=[FtlA f n t l p d Z,NandA n Z.S.N]):=by
 have hbd:=hN.bd16;have hlg:=lgN_eq Z.S.N.dies Z.S.N.blocks Z.S.N.pages (by omega) (by omega);refine Fn.enter [2] Tryz.func28 rfl rfl rfl λX F hX=>?_;refine J.q hX λ_=>?_;refine J.cF ?_;refine J.q hX λ_=>?_;refine J.cb hX (n_Geo n Z.S.N) [2] ?_;refine cpq ⟨_,rfl,trivial,?_⟩;refine J.q hX λ_=>?_;refine J.cb hX (g_Logical Z.S.N.dies Z.S.N.blocks Z.S.N.pages hN.geo) [] ?_;refine cpq ⟨_,rfl,trivial,?_⟩;rw[hlg];refine J.q hX λ_=>?_;exact J.ru hX [1,2] ⟨rfl,rfl⟩
theorem ft_Waiting (f n t l p d:Nat) (Z:Fv):Fn Tryz.prog 60 [.pointer (some ⟨f,0,none⟩)] [FtlA f n t l p d Z,DeskA d Z.L] (λv As=>v= .int .i64 Z.L.length/\As=[FtlA f n t l p d Z,DeskA d Z.L]):=by
 refine Fn.enter [2] Tryz.func60 rfl rfl rfl λX F hX=>?_;refine J.q hX λ_=>?_;refine J.cF ?_;refine J.q hX λ_=>?_;refine J.cb hX (d_Len d Z.L) [2] ?_;refine cpq ⟨_,rfl,trivial,?_⟩;refine J.q hX λ_=>?_;exact J.ru hX [1,2] ⟨rfl,rfl⟩
theorem ft_refuses (f n t l p d:Nat) (Z:Fv):Fn Tryz.prog 85 [.pointer (some ⟨f,0,none⟩)] [FtlA f n t l p d Z,NandA n Z.S.N] (λv As=>v= .int .i64 (if Z.ask.off=true then 9 else 0)/\As=[FtlA f n t l p d Z.ask,NandA n Z.S.N]):=by
 have hask:FtlA f n t l p d Z.ask= .pt f 126 [.pointer (some ⟨n,0,none⟩), .pointer (some ⟨t,0,none⟩), .pointer (some ⟨l,0,none⟩), .pointer (some ⟨p,0,none⟩), .pointer (some ⟨d,0,none⟩), .int .i64 Z.nx, .bool (Z.off||Z.S.N.off)]:=rfl;have hoa:Z.ask.off=(Z.off||Z.S.N.off):=rfl;rw[hask,hoa];unfold FtlA;generalize Z.off=o;refine Fn.enter [2] Tryz.func85 rfl rfl rfl λX F hX=>?_;refine J.q hX λ_=>?_;refine J.cF ?_;refine J.q hX λ_=>?_;refine J.gcase hX rfl rfl rfl trivial (λhb=>?_) (λhb=>?_)
 ·rw[Bool.not_eq_true']at hb;subst hb;refine J.q hX λ_=>?_;refine J.cb hX (n_Power n Z.S.N) [2] ?_;refine cpq ⟨_,rfl,trivial,?_⟩;refine J.q hX λ_=>?_;refine J.cond rfl (λh1=>?_) (λh1=>?_)
  ·simp only[Bool.false_or,Bool.not_not]at h1;refine J.q hX λ_=>?_;refine J.ru hX [1,2] ?_;rw[h1];exact⟨rfl,rfl⟩
  ·simp only[Bool.false_or,Bool.not_not]at h1;refine J.q hX λ_=>?_;refine J.ru hX [1,2] ?_;rw[h1];exact⟨rfl,rfl⟩
 ·rw[Bool.not_eq_false']at hb;subst hb;refine J.q hX λ_=>?_;refine J.val hX (.bool false) 0 rfl rfl (λhg a w he hw=>by simp[G.on]at hg) rfl trivial ?_;refine J.q hX λ_=>?_;refine J.cT ?_;refine J.q hX λ_=>?_;exact J.ru hX [1,2] ⟨rfl,rfl⟩
theorem ft_told (f n t l p d:Nat) (Z:Fv) (e:Int):Fn Tryz.prog 93 [.pointer (some ⟨f,0,none⟩), .int .i64 e] [FtlA f n t l p d Z] (λv As=>v= .int .i64 e/\As=[FtlA f n t l p d (Z.told e)]):=by
 refine Fn.enter [2,0] Tryz.func93 rfl rfl rfl λX F hX=>?_;refine J.q hX λ_=>?_;exact J.ru hX [1] ⟨rfl,rfl⟩
end Go.Proofs.YtkdlnfdjjifedaaGreat
namespace Go.Proofs.YtkdlnfdjjifedaaGreat
open Go
theorem nodup_leF {α:Type} [BEq α] [LawfulBEq α]:∀{K M:List α},K.Nodup->(∀x∈K,x∈M)->K.length<=M.length
 | [],M,_,_=>Nat.zero_le _
 | x::K,M,h,hs=>by
  obtain⟨h1,h2⟩:=List.nodup_cons.1 h;have hx:=hs x (by simp);have h3:=nodup_leF (M:=M.erase x) h2 λy hy=>by
   have hne:y≠x:=λe=>h1 (by rw[<- e];exact hy);exact(List.mem_erase_of_ne hne).2 (hs y (by simp[hy]))
  rw[List.length_erase_of_mem hx]at h3;have:0<M.length:=List.length_pos_of_mem hx;rw[List.length_cons];omega
theorem lgN_200 {N:Nand} (h:N.Ok):1<=lgN N.dies N.blocks N.pages/\lgN N.dies N.blocks N.pages<=200:=by
 obtain⟨hd,hb,hp⟩:=h.bd16;generalize N.dies=d at*;generalize N.blocks=b at*;generalize N.pages=p at*;have h2:3*2<=(b-5)*p:=Nat.mul_le_mul (by omega) hp.1;have h3:6*1<=(b-5)*p*(d-2):=Nat.mul_le_mul h2 (by omega);have h4:(b-5)*p<=11*8:=Nat.mul_le_mul (by omega) hp.2;have h5:(b-5)*p*(d-2)<=88*4:=Nat.mul_le_mul h4 (by omega);unfold lgN;omega
theorem lgN_like {N N':Nand} (h:N.Like N'):lgN N'.dies N'.blocks N'.pages=lgN N.dies N.blocks N.pages:=by rw[h.dies,h.blocks,h.pages]
theorem fit_fold {α:Type} {M:Nand} (f:Tl->α->Tl) (hf:∀t a,t.Fit M->(f t a).Fit M):∀(q:List α) (t:Tl),t.Fit M->(q.foldl f t).Fit M
 | [],_,h=>h
 | a::q,t,h=>fit_fold f hf q (f t a) (hf t a h)
theorem Tl.Fit.ofD {M N:Nand} {t:Tl} (h:t.Fit M) (b d:Nat):(Tl.ofD N b t d).Fit M:=by
 unfold Tl.ofD;dsimp only;split
 ·exact(h.wore _ _).clean _ _
 ·exact h.wore _ _
theorem Tl.Fit.ofB {M N:Nand} {t:Tl} (h:t.Fit M) (b:Nat):(Tl.ofB N t b).Fit M:=fit_fold _ (λ_ d h=>h.ofD b d) _ _ h
theorem Tl.Fit.new (N:Nand):(Tl.new N.dies N.blocks N.pages).Fit N:=⟨rfl,rfl,rfl,by show(List.replicate N.blocks Sb.zero).length=N.blocks;rw[List.length_replicate]⟩
theorem Tl.Fit.seeDead {M N:Nand} {t:Tl} (h:t.Fit M):(Dv.seeDead N t).Fit M:=fit_fold _ (λt d h=>by split;(· exact h.die _);exact h) _ _ h
theorem Tl.Fit.of (N:Nand):(Tl.of N).Fit N:=fit_fold _ (λ_ b h=>h.ofB b) _ _ (Tl.Fit.new N).seeDead
theorem fnd_en {N:Nand} (hN:N.Ok) {b r:Int} {f:Fnd} (h:f∈R.all N b r):(0<=f.slot/\f.slot<=1000)/\f.en.data.length=16:=by
 unfold R.all at h;rw[List.mem_flatMap]at h;obtain⟨m,_,h⟩:=h;unfold R.allM at h;rw[List.mem_filterMap]at h;obtain⟨k,hk,h⟩:=h;rw[List.mem_range,(look_len N b r m).1]at hk;have hs:=Dv.slots_le m;unfold R.fnd at h;split at h
 ·injection h with h;subst h;refine⟨by show(0:Int)<=((k:Nat):Int)/\((k:Nat):Int)<=1000;omega,?_⟩;show(R.enAt (R.look N b r m) k).data.length=16;unfold R.enAt;split
  ·have hl:=(look_len N b r m).1;rw[List.getD_eq_getElem?_getD,List.getElem?_eq_getElem (by omega)];exact(look_data hN b r m).1 _ (List.getElem_mem _)
  ·exact mend_len hN b r m k
 ·cases h
theorem all_en {N:Nand} (hN:N.Ok) {f:Fnd} (h:f∈V.all N):(0<=f.slot/\f.slot<=1000)/\f.en.data.length=16:=by
 unfold V.all at h;rw[List.mem_flatMap]at h;obtain⟨b,_,h⟩:=h;rw[List.mem_flatMap]at h;obtain⟨r,_,h⟩:=h;exact fnd_en hN h
theorem goS_en {N:Nand} (hN:N.Ok) (n:Int):∀k,(∀x∈(V.goS N (V.all N) n k).tb.at_,0<=x.2.slot/\x.2.slot<=1000)/\(∀s∈(V.goS N (V.all N) n k).torn,s.data.length=16)/\∀s∈(V.goS N (V.all N) n k).others,s.data.length=16
 | 0=>⟨λx hx=>by simp[V.goS,Tb.new]at hx,λs hs=>by simp[V.goS]at hs,λs hs=>by simp[V.goS]at hs⟩
 | k+1=>by
  obtain⟨h1,h2,h3⟩:=goS_en hN n k;rw[V.goS_succ];unfold V.step;split
  ·rename_i hs;have hm:=V.standOf_mem hs;unfold V.of at hm;obtain⟨e1,e2⟩:=all_en hN (List.mem_filter.1 hm).1;have hp:=Tb.put_slot (e:=(V.standOf (V.of (V.all N) k)).1.en) (b:=(V.standOf (V.of (V.all N) k)).1.block) (r:=(V.standOf (V.of (V.all N) k)).1.row) (m:=(V.standOf (V.of (V.all N) k)).1.mask) h1 e1;have ha:∀l:List En,(∀s∈l,s.data.length=16)->∀s∈l++[(V.standOf (V.of (V.all N) k)).1.en],s.data.length=16:=λl hl s hs=>by
    rcases List.mem_append.1 hs with hs | hs
    ·exact hl s hs
    ·rw[List.mem_singleton]at hs;rw[hs];exact e2
   split
   ·exact⟨hp,h2,h3⟩
   split
   ·exact⟨hp,ha _ h2,h3⟩
   ·exact⟨hp,h2,ha _ h3⟩
  ·exact⟨h1,h2,h3⟩
theorem scan_en {N:Nand} (hN:N.Ok) (n:Int):(V.scan N n).tb.Ok/\(∀x∈(V.scan N n).tb.at_,0<=x.2.slot/\x.2.slot<=1000)/\(∀s∈(V.scan N n).torn,s.data.length=16)/\(1<=(V.scan N n).next/\(V.scan N n).next<=1099511627776):=by
 obtain⟨h1,h2,h3⟩:=goS_en hN n (V.size n);refine⟨V.goS_ok N (V.all N) n (V.size n),h1,λs hs=>?_,V.nextOf_bd λf hf=>(all_bd hf).2⟩;have hs:s∈(V.goS N (V.all N) n (V.size n)).torn++(V.goS N (V.all N) n (V.size n)).others:=hs;rcases List.mem_append.1 hs with hs | hs
 ·exact h2 s hs
 ·exact h3 s hs
theorem scan_torn {N:Nand} {m:Nat} (hm:m<=65536):(V.scan N m).first<=(V.scan N m).torn.length/\((V.scan N m).torn.take (V.scan N m).first).length<=m/\((V.scan N m).torn.drop (V.scan N m).first).length<=m/\(V.scan N m).torn.length<=2*m:=by
 have hsz:V.size (m:Int)=m:=by unfold V.size;omega
 have h1:=V.goS_len N (V.all N) m (V.size m);rw[hsz]at h1;have e1:(V.scan N m).first=(V.goS N (V.all N) m m).torn.length:=by show(V.goS N (V.all N) m (V.size m)).torn.length=_;rw[hsz]
 have e2:(V.scan N m).torn=(V.goS N (V.all N) m m).torn++(V.goS N (V.all N) m m).others:=by show(V.goS N (V.all N) m (V.size m)).torn++(V.goS N (V.all N) m (V.size m)).others=_;rw[hsz]
 rw[e1,e2,List.length_take,List.length_drop,List.length_append];omega
theorem scan_held {N:Nand} (hN:N.Ok) (n:Int):(V.scan N n).held.length<=6000:=by
 have h1:=V.goS_held N (V.all N) n (V.size n);have h2:=all_len N hN;have h3:=normI_len (V.goS N (V.all N) n (V.size n)).held;show(normI (V.goS N (V.all N) n (V.size n)).held).length<=_;omega
namespace Dv
variable {S : Dv} {N : Nand} {k m : Nat}
theorem Ok.holds (h:S.Ok k m) (l:List Int) (on:Bool):(S.holds l on).Ok k m:=⟨h.gd,fit_fold _ (λ_ _ h=>h.hold _ _) _ _ h.t,h.T,h.sl,h.row,h.next⟩
def mt0 (N:Nand):Dv:=⟨N,Tl.of N,(V.scan N (lgN N.dies N.blocks N.pages)).tb,-1,0,0,max (V.scan N (lgN N.dies N.blocks N.pages)).next 1⟩
theorem Ok.mt0 (hG:N.Gd k m):(Dv.mt0 N).Ok k m:=by
 obtain⟨h1,h2,_,h4⟩:=scan_en hG.ok (lgN N.dies N.blocks N.pages);refine⟨hG,Tl.Fit.of N,h1,h2,by show(0:Int)<=0/\(0:Int)<=8;omega,?_⟩;show 1<=max (V.scan N (lgN N.dies N.blocks N.pages)).next 1/\max (V.scan N (lgN N.dies N.blocks N.pages)).next 1<=_;omega
theorem mt0_log (hG:N.Gd k m):(Dv.mt0 N).T.logical=(lgN N.dies N.blocks N.pages:Int):=by
 have h:=lgN_200 hG.ok;have:=V.goS_log N (V.all N) (lgN N.dies N.blocks N.pages) (V.size (lgN N.dies N.blocks N.pages));show(V.goS N (V.all N) (lgN N.dies N.blocks N.pages) (V.size (lgN N.dies N.blocks N.pages))).tb.logical=_;rw[this];omega
theorem torn_keep {l:List En} {c:Nat} (h:S.Ok (costT*c+k) m) (hl:l.length<=c) (hd:∀s∈l,s.data.length=16):(S.torn l).1.Ok k m/\S.N.Like (S.torn l).1.N/\(S.torn l).1.T.logical=S.T.logical:=
 tornGo_keep _ S l k (h.less (by have:=Nat.mul_le_mul_left costT hl;omega)) hd
def costK:Nat:=costT*200+(96+(costT*200+costM))
end Dv
theorem mount_eq (N:Nand):mount N=(let s:=V.scan N (lgN N.dies N.blocks N.pages)
 let a:=((Dv.mt0 N).holds s.held true).torn (s.torn.take s.first)
 if a.2≠0 then a
 else
  let b:=(a.1.holds s.held false).clear
  if b.2≠0 then b
  else
   let c:=b.1.torn (s.torn.drop s.first)
   if c.2≠0 then c else c.1.room):=rfl
theorem mount_keep {N:Nand} {k m:Nat} (hG:N.Gd (Dv.costK+k) m):(mount N).1.Ok k m/\N.Like (mount N).1.N/\(mount N).1.T.logical=(lgN N.dies N.blocks N.pages:Int):=by
 have h200:=lgN_200 hG.ok;obtain⟨t1,t2,t3,_⟩:=scan_torn (N:=N) (m:=lgN N.dies N.blocks N.pages) (by omega);obtain⟨_,_,hd,_⟩:=scan_en hG.ok (lgN N.dies N.blocks N.pages);have h0:=Dv.Ok.mt0 hG;have hlog:=Dv.mt0_log hG;have hd1:∀s∈(V.scan N (lgN N.dies N.blocks N.pages)).torn.take (V.scan N (lgN N.dies N.blocks N.pages)).first,s.data.length=16:=λs hs=>hd s (List.mem_of_mem_take hs)
 have hd2:∀s∈(V.scan N (lgN N.dies N.blocks N.pages)).torn.drop (V.scan N (lgN N.dies N.blocks N.pages)).first,s.data.length=16:=λs hs=>hd s (List.mem_of_mem_drop hs)
 rw[mount_eq];dsimp only;have ha:=Dv.torn_keep (k:=96+(Dv.costT*200+(Dv.costM+k))) (c:=200) ((h0.holds (V.scan N (lgN N.dies N.blocks N.pages)).held true).less (by unfold Dv.costK;omega)) (by omega) hd1;have ea:((Dv.mt0 N).holds (V.scan N (lgN N.dies N.blocks N.pages)).held true).N=N:=rfl;have ea2:((Dv.mt0 N).holds (V.scan N (lgN N.dies N.blocks N.pages)).held true).T=(Dv.mt0 N).T:=rfl;rw[ea,ea2,hlog]at ha;split
 ·exact⟨ha.1.less (by omega),ha.2⟩
 generalize(((Dv.mt0 N).holds (V.scan N (lgN N.dies N.blocks N.pages)).held true).torn ((V.scan N (lgN N.dies N.blocks N.pages)).torn.take (V.scan N (lgN N.dies N.blocks N.pages)).first)).1=A at ha;have hb:=Dv.clear_keep (ha.1.holds (V.scan N (lgN N.dies N.blocks N.pages)).held false);have eb:(A.holds (V.scan N (lgN N.dies N.blocks N.pages)).held false).N=A.N:=rfl;have eb2:(A.holds (V.scan N (lgN N.dies N.blocks N.pages)).held false).T=A.T:=rfl;rw[eb,eb2]at hb;split
 ·exact⟨hb.1.less (by omega),ha.2.1.trans hb.2.1,by rw[hb.2.2];exact ha.2.2⟩
 have hc:=Dv.torn_keep (k:=Dv.costM+k) (c:=200) hb.1 (Nat.le_trans t3 h200.2) hd2;split
 ·exact⟨hc.1.less (by omega),(ha.2.1.trans hb.2.1).trans hc.2.1,by rw[hc.2.2,hb.2.2];exact ha.2.2⟩
 have hr:=Dv.room_keep hc.1;exact⟨hr.1,((ha.2.1.trans hb.2.1).trans hc.2.1).trans hr.2.1,by rw[hr.2.2,hc.2.2,hb.2.2];exact ha.2.2⟩
structure Fv.Ok (F:Fv) (k m:Nat):Prop where
 dv:F.S.Ok k m
 dat:∀e∈F.L,e.data.length=16
 rng:∀e∈F.L,0<=e.lpn/\e.lpn<F.lg
 nd:(F.L.map (·.lpn)).Nodup
 nx:0<=F.nx/\F.nx+(k:Int)<=4611686018427387904
namespace Fv
variable {F : Fv} {k m : Nat}
theorem lg_like {F G:Fv} (h:F.S.N.Like G.S.N):G.lg=F.lg:=by unfold lg;rw[lgN_like h]
theorem lg_bd (h:F.S.N.Ok):1<=F.lg/\F.lg<=200:=by have:=lgN_200 h;unfold lg;omega
theorem Ok.less (h:F.Ok k m) {k':Nat} (hk:k'<=k):F.Ok k' m:=⟨h.dv.less hk,h.dat,h.rng,h.nd,by have:=h.nx;omega⟩
theorem Ok.len (h:F.Ok k m):F.L.length<=200:=by
 have hb:=lg_bd h.dv.gd.ok;have h1:=nodup_leF (K:=F.L.map (·.lpn)) (M:=(List.range F.lg.toNat).map λi:Nat=>(i:Int)) h.nd λx hx=>by
  obtain⟨e,he,rfl⟩:=List.mem_map.1 hx;have:=h.rng e he;exact List.mem_map.2 ⟨e.lpn.toNat,List.mem_range.2 (by omega),by omega⟩
 simp at h1;omega
theorem Ok.ask (h:F.Ok k m):F.ask.Ok k m:=⟨h.dv,h.dat,h.rng,h.nd,h.nx⟩
def cW:Nat:=Dv.costM+8*Dv.fuel
theorem done_sub (L l:List En):(dkDone L l).Sublist L:=List.filter_sublist
theorem done_lt {L:List En} {n:Nat} (h:L.length≠0) (hn:1<=n):(dkDone L (L.take n)).length<L.length:=by
 unfold dkDone;rw[List.length_filter_lt_length_iff_exists];cases L with
 | nil=>exact absurd rfl h
 | cons x L=>
  refine⟨x,List.mem_cons_self ..,?_⟩;obtain⟨c,rfl⟩:∃c,n=c+1:=⟨n-1,by omega⟩;simp
structure Kept (F G:Fv):Prop where
 like:F.S.N.Like G.S.N
 log:G.S.T.logical=F.S.T.logical
theorem Kept.refl (F:Fv):Kept F F:=⟨Nand.Like.refl _,rfl⟩
theorem Kept.ask (F:Fv):Kept F F.ask:=⟨Nand.Like.refl _,rfl⟩
theorem Kept.trans {F G H:Fv} (h:Kept F G) (h2:Kept G H):Kept F H:=⟨h.like.trans h2.like,h2.log.trans h.log⟩
theorem Ok.with_ {S:Dv} {L:List En} {off:Bool} {k':Nat} (h:F.Ok k' m) (hS:S.Ok k m) (hk:k<=k') (hl:F.S.N.Like S.N) (hL:L.Sublist F.L):(⟨S,L,F.nx,off⟩:Fv).Ok k m:=
 ⟨hS,λe he=>h.dat e (hL.subset he),λe he=>by rw[lg_like (F:=F) (G:=⟨S,L,F.nx,off⟩) hl];exact h.rng e (hL.subset he),h.nd.sublist (hL.map _),by have:=h.nx;show 0<=F.nx/\F.nx+(k:Int)<=_;omega⟩
theorem writes_keep (h:F.Ok (cW+k) m):F.writes.1.Ok k m/\Kept F F.writes.1/\F.writes.1.L.length<=F.L.length/\(F.writes.2=0->F.L.length≠0->F.writes.1.L.length<F.L.length):=by
 have hr:=Dv.room_keep (S:=F.S) (k:=8*Dv.fuel+k) (m:=m) (h.dv.less (by unfold cW;omega));have he:F.writes=(let r:=F.S.room
  if r.2≠0 then({F with S:=r.1}.told r.2,r.2)
  else
   let w:=r.1.pen F.L
   ({F with S:=w.1,L:=dkDone F.L (F.L.take w.2.1.toNat)}.told w.2.2,w.2.2)):=rfl
 dsimp only at he
 by_cases h0:F.S.room.2≠0
 ·rw[if_pos h0]at he;rw[he];exact⟨h.with_ (hr.1.less (by omega)) (by omega) hr.2.1 (List.Sublist.refl _),⟨hr.2.1,hr.2.2⟩,Nat.le_refl _,λe=>absurd e h0⟩
 ·rw[if_neg h0]at he;have hp:=Dv.pen_keep hr.1 h.dat
  have ht:=λe hl=>Dv.pen_took hr.1 h.dat e hl;rw[he];refine⟨h.with_ hp.1 (by omega) (hr.2.1.trans hp.2.1) (done_sub _ _),⟨hr.2.1.trans hp.2.1,hp.2.2.trans hr.2.2⟩,(done_sub _ _).length_le,λe hl=>?_⟩;have:=ht e hl;exact done_lt hl (by omega)
theorem flushGo_keep:∀(f:Nat) (F:Fv) (k:Nat),F.Ok (cW*f+k) m->(flushGo f F).1.Ok k m/\Kept F (flushGo f F).1
 | 0,F,k,h=>⟨h.less (by omega), .refl _⟩
 | f+1,F,k,h=>by
  rw[flushGo];split
  ·exact⟨h.less (by omega), .refl _⟩
  have hw:=writes_keep (F:=F) (k:=cW*f+k) (h.less (by rw[Nat.mul_succ];omega));dsimp only;split
  ·exact⟨hw.1.less (by omega),hw.2.1⟩
  ·have ih:=flushGo_keep f F.writes.1 k hw.1;exact⟨ih.1,hw.2.1.trans ih.2⟩
theorem flush_keep (h:F.Ok (cW*200+k) m):F.flush.1.Ok k m/\Kept F F.flush.1:=by
 unfold flush;split
 ·exact⟨h.ask.less (by omega), .ask _⟩
 ·have hl:=h.len;have hm:cW*F.L.length<=cW*200:=Nat.mul_le_mul_left _ hl;have r:=flushGo_keep F.L.length F.ask k (h.ask.less (by omega));exact⟨r.1,⟨r.2.like,r.2.log⟩⟩
theorem put_ok (h:F.Ok (1+k) m) {e:En} (hd:e.data.length=16) (hr:¬(e.lpn<0\/e.lpn>=F.lg)):(F.put e).Ok k m:=by
 have hlg:(F.put e).lg=F.lg:=rfl;refine⟨h.dv.less (by omega),λx hx=>?_,λx hx=>?_,?_,by have:=h.nx;show 0<=F.nx+1/\F.nx+1+(k:Int)<=_;omega⟩
 ·have hx:x∈(F.L.filter λy:En=>!(y.lpn==e.lpn))++[({e with seq:=F.nx}:En)]:=hx;rcases List.mem_append.1 hx with hx | hx
  ·exact h.dat x (List.mem_filter.1 hx).1
  ·rw[List.mem_singleton]at hx;rw[hx];exact hd
 ·have hx:x∈(F.L.filter λy:En=>!(y.lpn==e.lpn))++[({e with seq:=F.nx}:En)]:=hx;rw[hlg];rcases List.mem_append.1 hx with hx | hx
  ·exact h.rng x (List.mem_filter.1 hx).1
  ·rw[List.mem_singleton]at hx;rw[hx];show 0<=e.lpn/\e.lpn<F.lg;omega
 ·show(((F.L.filter λy:En=>!(y.lpn==e.lpn))++[({e with seq:=F.nx}:En)]).map (·.lpn)).Nodup;rw[List.map_append,List.nodup_append];refine⟨List.Nodup.sublist ((List.filter_sublist (p:=λx:En=>!(x.lpn==e.lpn)) (l:=F.L)).map (·.lpn)) h.nd,by simp,λa ha b hb hab=>?_⟩;obtain⟨x,hx,rfl⟩:=List.mem_map.1 ha;simp at hb;have:=(List.mem_filter.1 hx).2;rw[hab,hb]at this;simp at this
theorem waits_keep (h:F.Ok (cW+(1+k)) m) {e:En} (hd:e.data.length=16):(F.waits e).1.Ok k m/\Kept F (F.waits e).1:=by
 unfold waits;split
 ·exact⟨h.ask.less (by omega), .ask _⟩
 split
 ·exact⟨h.ask.less (by omega), .ask _⟩
 rename_i hr;have hr:¬(e.lpn<0\/e.lpn>=F.lg):=hr;split
 ·have hw:=writes_keep h.ask;dsimp only;split
  ·exact⟨hw.1.less (by omega),⟨hw.2.1.like,hw.2.1.log⟩⟩
  ·refine⟨put_ok hw.1 hd ?_,⟨hw.2.1.like,hw.2.1.log⟩⟩;rw[lg_like (F:=F) (G:=F.ask.writes.1) hw.2.1.like];exact hr
 ·exact⟨put_ok (h.ask.less (by omega)) hd hr,⟨Nand.Like.refl _,rfl⟩⟩
theorem write_keep (h:F.Ok (cW+(1+k)) m) (i:Int) {d:List UInt8} (hd:d.length=16):(F.write i d).1.Ok k m/\Kept F (F.write i d).1:=waits_keep h hd
theorem trim_keep (h:F.Ok (cW+(1+k)) m) (i:Int):(F.trim i).1.Ok k m/\Kept F (F.trim i).1:=waits_keep h rfl
theorem tick_keep (h:F.Ok (Dv.costS+k) m):F.tick.1.Ok k m/\Kept F F.tick.1:=by
 unfold tick;split
 ·exact⟨h.ask.less (by omega), .ask _⟩
 ·have hs:=Dv.step_keep h.ask.dv 4;exact⟨h.ask.with_ hs.1 (by omega) hs.2.1 (List.Sublist.refl _),⟨hs.2.1,hs.2.2⟩⟩
theorem whole_keep (h:F.Ok k m):F.whole.1.Ok k m/\Kept F F.whole.1:=by
 unfold whole;split
 ·exact⟨h.ask, .ask _⟩
 ·exact⟨h.ask.with_ h.dv.seen (Nat.le_refl _) (Nand.Like.refl _) (List.Sublist.refl _),⟨Nand.Like.refl _,rfl⟩⟩
theorem read_keep (h:F.Ok k m) (i:Int):(F.read i).1.Ok k m/\Kept F (F.read i).1:=by
 unfold read;split
 ·exact⟨h.ask, .ask _⟩
 split
 ·exact⟨h.ask, .ask _⟩
 ·exact⟨h.ask, .ask _⟩
theorem of_ok {S:Dv} (h:S.Ok k m) (hk:k<=1000000000000000):(Fv.of S).Ok k m:=⟨h,λ_ h=>(by cases h),λ_ h=>(by cases h),List.nodup_nil,by show(0:Int)<=0/\(0:Int)+(k:Int)<=_;omega⟩
end Fv
end Go.Proofs.YtkdlnfdjjifedaaGreat
namespace Go.Proofs.YtkdlnfdjjifedaaGreat
open Go Go.RowKit
abbrev datV (d:List UInt8):Value:= .agg (dataC d).toArray
theorem Fv.slot_bd {S:Dv} {k m:Nat} (hO:S.Ok k m) (i:Int):0<=((Tb.look S.T.at_ i).getD AtV.zero).slot/\((Tb.look S.T.at_ i).getD AtV.zero).slot<=1000:=by
 cases hl:Tb.look S.T.at_ i with
 | none=>show(0:Int)<=0/\(0:Int)<=1000;omega
 | some a=>exact hO.sl _ (Tb.look_mem hl)
theorem ft_Read (f p n t l d:Nat) (Z:Fv) (k m:Nat) (hO:Z.Ok k m) (i:Int):Fn Tryz.prog 30 [.pointer (some ⟨f,0,none⟩), .int .i64 i] (FvP f p n t l d Z)
  (λv As=>v= .tuple #[datV (Z.read i).2.1, .int .i64 (Z.read i).2.2]/\As=FvP f p n t l d (Z.read i).1):=by
 have hlen:=hO.len;have hN:=hO.dv.gd.ok;refine Fn.enter [2,0] Tryz.func30 rfl rfl rfl λX F hX=>?_;refine J.q hX λbz=>?_;refine J.cb hX (ft_refuses f n t l p d Z) [1,3] ?_;refine cpq ⟨_,rfl,trivial,?_⟩;have hrd:Z.read i=(if Z.ask.off=true then(Z.ask,zeros16,9)else if i<0\/i>=Z.ask.lg then(Z.ask,zeros16,3)else(Z.ask,Z.ask.get i)):=rfl;obtain⟨Y,hY⟩:∃Y,Y=Z.ask:=⟨_,rfl⟩;have e1:Z.S=Y.S:=by rw[hY];rfl
 have e2:Z.L=Y.L:=by rw[hY];rfl
 rw[<- hY,e1,e2];rw[<- hY]at hrd;rw[e1]at hN;rw[e2]at hlen;cases ho:Y.off with
 | true=>
  rw[ho,if_pos rfl]at hrd;refine J.q hX λ_=>?_;refine J.cT ?_;refine J.q hX λ_=>?_;refine J.ru hX [1,2,3,4,5,6] ?_;rw[hrd];exact⟨rfl,rfl⟩
 | false=>
  rw[ho,if_neg Bool.false_ne_true]at hrd;refine J.q hX λ_=>?_;refine J.cF ?_;refine J.q hX λ_=>?_;refine J.gcase hX rfl rfl rfl trivial (λhb=>?_) (λhb=>?_)
  ·have hi:decide (i<0)=false:=by simpa using hb
   rw[hi];refine J.q hX λ_=>?_;refine J.cb hX (ft_Logical f n t l p d Y hN) [1,3] ?_;refine cpq ⟨_,rfl,trivial,?_⟩;simp only[decide_eq_false_iff_not]at hi;refine J.q hX λ_=>?_;refine J.cond rfl (λh1=>?_) (λh1=>?_)
   ·simp only[Bool.false_or,ge_iff_le,decide_eq_true_eq]at h1;rw[if_pos (.inr h1)]at hrd;refine J.q hX λ_=>?_;refine J.ru hX [1,2,3,4,5,6] ?_;rw[hrd];exact⟨rfl,rfl⟩
   simp only[Bool.false_or,ge_iff_le,decide_eq_false_iff_not]at h1;rw[if_neg (by omega)]at hrd;refine J.q hX λ_=>?_;refine J.cb hX (d_Get d Y.L (by omega) i) [6] ?_;refine cpq ⟨_,rfl,trivial,?_⟩;have hge:Y.get i=(if(dkGet Y.L i).2=true then((dkGet Y.L i).1.data,0)else match Tb.look Y.S.T.at_ i with
    | none=>(zeros16,0)
    | some a=>if a.role=2 then(zeros16,0)else if a.role=4 then(zeros16,10)else
     let x:=R.read Y.S.N a.block a.row a.slot a.mask
     if x.2≠0\/x.1.lpn≠i\/x.1.seq≠a.seq then(zeros16,10)else(x.1.data,0):List UInt8×Int):=rfl
   obtain⟨⟨we,wb⟩,hw⟩:∃w,w=dkGet Y.L i:=⟨_,rfl⟩;rw[<- hw]at hge ⊢;dsimp only at hge ⊢;refine J.q hX λ_=>?_;refine J.cond rfl (λh2=>?_) (λh2=>?_)
   ·rw[if_pos h2]at hge;refine J.q hX λ_=>?_;refine J.ru hX [1,2,3,4,5,6] ?_;rw[hrd,hge];exact⟨rfl,rfl⟩
   rw[h2,if_neg Bool.false_ne_true]at hge;refine J.q hX λ_=>?_;refine J.cb hX (tb_Get l Y.S.T i) [5] ?_;refine cpq ⟨_,rfl,trivial,?_⟩;obtain⟨a,ha⟩:∃a,a=(Tb.look Y.S.T.at_ i).getD AtV.zero:=⟨_,rfl⟩;obtain⟨is,his⟩:∃b,b=(Tb.look Y.S.T.at_ i).isSome:=⟨_,rfl⟩;have hslot:=Fv.slot_bd hO.dv i;rw[e1]at hslot;rw[<- ha]at hslot;rw[<- ha,<- his];cases is with
   | false=>
    cases hl:Tb.look Y.S.T.at_ i with
    | some x=>rw[hl]at his;cases his
    | none=>
     rw[hl]at hge;refine J.q hX λbd=>?_;refine J.cT ?_;refine J.q hX λ_=>?_;refine J.ru hX [1,2,3,4,5,6] ?_;rw[hrd,hge];exact⟨rfl,rfl⟩
   | true=>
    cases hl:Tb.look Y.S.T.at_ i with
    | none=>rw[hl]at his;cases his
    | some x=>
     rw[hl]at ha hge;obtain rfl:a=x:=ha;dsimp only at hge;refine J.q hX λbd=>?_;refine J.cond rfl (λh3=>?_) (λh3=>?_)
     ·simp only[Bool.not_true,Bool.false_or,beq_iff_eq]at h3;rw[if_pos h3]at hge;refine J.q hX λ_=>?_;refine J.ru hX [1,2,3,4,5,6] ?_;rw[hrd,hge];exact⟨rfl,rfl⟩
     simp only[Bool.not_true,Bool.false_or,beq_eq_false_iff_ne,ne_eq]at h3;rw[if_neg h3]at hge;refine J.q hX λ_=>?_;refine J.cond rfl (λh4=>?_) (λh4=>?_)
     ·simp only[beq_iff_eq]at h4;rw[if_pos h4]at hge;refine J.q hX λ_=>?_;refine J.ru hX [1,2,3,4,5,6] ?_;rw[hrd,hge];exact⟨rfl,rfl⟩
     simp only[beq_eq_false_iff_ne,ne_eq]at h4;rw[if_neg h4]at hge;have hr:=hO.dv.gd.room;rw[e1]at hr;refine J.q hX λ_=>?_;refine J.plan (.take true 0 (.take true 1 (.take true 2 (.take false 3 (.take true 4 (.take false 5 (.take true 6 (.take false 7 (.alt false 8 ((.of [36,40,44,50,54,56])) (.alt false 12 ((.of [34,36,40,44,54,56])) .non)))))))))) [14] [1,2,3,4,5,6,7,8,9] (by rw[hX.hP];kernel_rfl) (by kernel_rfl) ?_;obtain⟨⟨re,rx⟩,hre⟩:∃w,w=R.read Y.S.N a.block a.row a.slot a.mask:=⟨_,rfl⟩;rw[<- hre]at hge;dsimp only at hge;refine J.join (α:=Nat) (λx=>[⟨12, .int .i64 rx,0, .tt⟩,⟨11, .pointer (some ⟨x,0,none⟩),10, .tt⟩,⟨9, .pointer (some ⟨bd 0,0,none⟩),9, .tt⟩,⟨1, .int .i64 i,0, .tt⟩,⟨4, .pointer (some ⟨bz 0,0,none⟩),8, .tt⟩]) (λx=>[.hp F,FtlA f n t l p d Y,PenA p n t l Y.S,NandA n Y.S.N,TlA t Y.S.t,TbA l Y.S.T,DeskA d Y.L, .pt (bz 0) 30 (dataC zeros16), .pt (bd 0) 139 [.int .i64 a.block, .int .i64 a.row, .int .i64 a.slot, .int .i64 a.mask, .int .i64 a.seq, .int .i64 a.role], .pt x 133 (enL re)]) (λhj=>?_) (λx=>?_)
     ·refine J.q hX λ_=>?_;refine J.alts ?_ ?_
      ·refine J.q hX λ_=>?_;refine J.cb hX (r_Read n Y.S.N hN hr a.block a.row a.slot a.mask (by omega) (by omega)) [3] ?_;refine cpq ⟨_,rfl,(by first | exact trivial | (repeat' (first | exact trivial | refine⟨rfl,?_⟩))),?_⟩;rw[<- hre];refine J.qn hX 7 λbe=>?_;exact J.goto [0,1,2,3,4,5,6,7,9,10] (hj (be 0)) ⟨rfl,rfl,rfl,rfl,rfl,trivial⟩ rfl rfl
      ·refine J.qn hX 1 λbe=>?_;refine J.q hX λ_=>?_;refine J.cb hX (r_Read n Y.S.N hN hr a.block a.row a.slot a.mask (by omega) (by omega)) [3] ?_;refine cpq ⟨_,rfl,(by first | exact trivial | (repeat' (first | exact trivial | refine⟨rfl,?_⟩))),?_⟩;rw[<- hre];refine J.qn hX 6 λ_=>?_;exact J.goto [0,1,2,3,4,5,6,7,9,10] (hj (be 0)) ⟨rfl,rfl,rfl,rfl,rfl,trivial⟩ rfl rfl
     refine J.qn hX 6 λ_=>?_;cases hx:(rx !=0)with
     | true=>
      have hx':rx≠0:=by simpa using hx
      rw[if_pos (.inl hx')]at hge;refine J.q hX λ_=>?_;refine J.cT ?_;refine J.q hX λ_=>?_;refine J.ru hX [1,2,3,4,5,6] ?_;rw[hrd,hge];exact⟨rfl,rfl⟩
     | false=>
      have hx':rx=0:=by simpa using hx
      refine J.qn hX 6 λ_=>?_;cases hy:(re.lpn !=i)with
      | true=>
       have hy':re.lpn≠i:=by simpa using hy
       rw[if_pos (.inr (.inl hy'))]at hge;refine J.q hX λ_=>?_;refine J.cT ?_;refine J.q hX λ_=>?_;refine J.ru hX [1,2,3,4,5,6] ?_;rw[hrd,hge];exact⟨rfl,rfl⟩
      | false=>
       have hy':re.lpn=i:=by simpa using hy
       refine J.q hX λ_=>?_;refine J.cond rfl (λh5=>?_) (λh5=>?_)
       ·have hz:re.seq≠a.seq:=by simpa using h5
        rw[if_pos (.inr (.inr hz))]at hge;refine J.q hX λ_=>?_;refine J.ru hX [1,2,3,4,5,6] ?_;rw[hrd,hge];exact⟨rfl,rfl⟩
       ·have hz:re.seq=a.seq:=by simpa using h5
        rw[if_neg (by rw[hx',hy',hz];simp)]at hge;refine J.q hX λ_=>?_;refine J.ru hX [1,2,3,4,5,6] ?_;rw[hrd,hge];exact⟨rfl,rfl⟩
  ·have hi:decide (i<0)=true:=by simpa using hb
   rw[hi];refine J.q hX λ_=>?_;refine J.val hX (.bool false) 0 rfl rfl (λhg a w he hw=>by simp[G.on]at hg) rfl trivial ?_;simp only[decide_eq_true_eq]at hi;rw[if_pos (.inl hi)]at hrd;refine J.q hX λ_=>?_;refine J.cT ?_;refine J.q hX λ_=>?_;refine J.ru hX [1,2,3,4,5,6] ?_;rw[hrd];exact⟨rfl,rfl⟩
theorem dkN_all (L:List En):dkN L (L.length:Int)=L.length:=by unfold dkN;omega
theorem write_le:∀(f:Nat) (S:Dv) (l:List En),(Dv.write f S l).2.1<=l.length
 | 0,S,l=>by show(0:Int)<=(l.length:Int);omega
 | f+1,S,l=>by
  rw[Dv.write_succ];have hf:=Dv.fit_le S.at1 l;split
  ·show(0:Int)<=(l.length:Int);omega
  split
  ·show(0:Int)<=(l.length:Int);omega
  split
  ·show(0:Int)<=(l.length:Int);omega
  split
  ·show(0:Int)<=(l.length:Int);omega
  split
  ·show(S.at1.fit l:Int)<=(l.length:Int);omega
  split
  ·show(0:Int)<=(l.length:Int);omega
  ·exact write_le f _ l
theorem ft_writes (f p n t l d:Nat) (Z:Fv) (k m:Nat) (hO:Z.Ok (Fv.cW+k) m) (hm:m<=12):Fn Tryz.prog 91 [.pointer (some ⟨f,0,none⟩)] (FvP f p n t l d Z)
  (λv As=>v= .int .i64 Z.writes.2/\As=FvP f p n t l d Z.writes.1):=by
 have hlen:=hO.len;have hQ1:Z.S.Ok (Dv.costM+(8*Dv.fuel+k)) m:=hO.dv.less (by unfold Fv.cW;omega);have hr:=Dv.room_keep hQ1;have hw:Z.writes=(let r:=Z.S.room
  if r.2≠0 then({Z with S:=r.1}.told r.2,r.2)
  else
   let w:=r.1.pen Z.L
   ({Z with S:=w.1,L:=dkDone Z.L (Z.L.take w.2.1.toNat)}.told w.2.2,w.2.2)):=rfl
 refine Fn.enter [2] Tryz.func91 rfl rfl rfl λX F hX=>?_;refine J.q hX λ_=>?_;refine J.plan (.of [0,4,8,13,16,20,24,29,32,36,40,45,48,52,56,61,67,68]) [16,17] [1,6] (by rw[hX.hP];kernel_rfl) (by kernel_rfl) ?_;refine J.q hX λ_=>?_;refine J.cb hX (sw_Room n t l p Z.S _ m hQ1 hm) [2,3,4,5] ?_;refine cpq ⟨_,rfl,(by first | exact trivial | (repeat' (first | exact trivial | refine⟨rfl,?_⟩))),?_⟩;dsimp only at hw;generalize Z.S.room=W at hw hr ⊢;obtain⟨P,er⟩:=W;dsimp only at hw hr ⊢;rw[show FtlA f n t l p d Z=FtlA f n t l p d {Z with S:=P}from rfl];refine J.q hX λ_=>?_;refine J.cond rfl (λh2=>?_) (λh2=>?_)
 ·simp only[bne_iff_ne,ne_eq]at h2;rw[if_pos h2]at hw;refine J.q hX λ_=>?_;refine J.cb hX (ft_told f n t l p d {Z with S:=P} er) [1] ?_;refine cpq ⟨_,rfl,trivial,?_⟩;refine J.q hX λ_=>?_;refine J.ru hX [1,2,3,4,5,6] ?_;rw[hw];exact⟨rfl,rfl⟩
 simp only[bne_eq_false_iff_eq]at h2;rw[if_neg (by rw[h2];decide)]at hw;refine J.q hX λ_=>?_;refine J.plan (.of [0,4,8,13,16,20,24,29,34,38,40]) [10] [1,2,3,4,5,6] (by rw[hX.hP];kernel_rfl) (by kernel_rfl) ?_;refine J.q hX λ_=>?_;refine J.cb hX (d_Len d Z.L) [6] ?_;refine cpq ⟨_,rfl,(by first | exact trivial | (repeat' (first | exact trivial | refine⟨rfl,?_⟩))),?_⟩;refine J.q hX λ_=>?_;refine J.cb hX (d_First d Z.L (by omega) Z.L.length) [6] ?_;rintro v As ⟨a,c,rfl,rfl⟩;refine⟨_,rfl,(by first | exact trivial | (repeat' (first | exact trivial | refine⟨rfl,?_⟩))),?_⟩;rw[dkN_all,List.take_of_length_le (Nat.le_refl _)];refine J.know (λh' s=>ownP_cap (show ownP _ _ a Z.L.length c _ _ from s.get (i:=7) rfl)) λhcap=>?_;rw[slv_oad];have hpb:0<=(P.pen Z.L).2.1/\(P.pen Z.L).2.1<=7:=write_bd _ _ _;have hple:=write_le Dv.fuel P Z.L;have hple:(P.pen Z.L).2.1<=Z.L.length:=hple;refine J.q hX λ_=>?_;refine J.ca hX (by kernel_rfl) (pn_Write p n t l P _ m hr.1 (ownA 133 19 a Z.L.length c (cellsE Z.L)) (oad a) Z.L.length c Z.L (own_rd 133 19 a Z.L.length c (cellsE Z.L)) rfl (by omega) hO.dat) [2,3,4,5,7] 0 rfl rfl rfl rfl rfl rfl (λ_=>rfl) ?_;refine cpq ⟨_,rfl,trivial,?_⟩;generalize P.pen Z.L=W at hw hpb hple ⊢;obtain⟨Q,kk,er2⟩:=W;dsimp only at hw hpb hple ⊢;obtain⟨v,rfl⟩:=Int.eq_ofNat_of_zero_le hpb.1;rw[Int.toNat_natCast]at hw;have hvl:v<=Z.L.length:=by omega
 have hRd:Rd (ownA 133 19 a Z.L.length c (cellsE Z.L)) (oad a) 19 v (cellsE (Z.L.take v)):=by
  have:=(own_rd 133 19 a Z.L.length c (cellsE Z.L)).take v hvl
  rwa [cellsE_take']at this
 refine J.q hX λ_=>?_;refine J.plan (.of [0,4,8,13,16,20,24,30]) [] [1,2,3,4,5] (by rw[hX.hP];kernel_rfl) (by kernel_rfl) ?_;refine J.qn hX 6 λ_=>?_;refine J.valT hX (.slice (oad a) v c) 0 rfl rfl (λhg aa w he hC=>cutH_run tk rfl rfl rfl he rfl rfl rfl rfl (by omega)) rfl ?_;refine J.q hX λ_=>?_;refine J.cb hX (d_Done d Z.L (by omega) (ownA 133 19 a Z.L.length c (cellsE Z.L)) (oad a) v c (Z.L.take v) hRd (by rw[List.length_take];omega) (by omega)) [6,7] ?_;rintro v2 As ⟨rfl,rfl⟩;refine⟨_,rfl,(by first | exact trivial | (repeat' (first | exact trivial | refine⟨rfl,?_⟩))),?_⟩;rw[show FtlA f n t l p d {Z with S:=P}=FtlA f n t l p d {Z with S:=Q,L:=dkDone Z.L (Z.L.take v)}from rfl];refine J.q hX λ_=>?_;refine J.cb hX (ft_told f n t l p d {Z with S:=Q,L:=dkDone Z.L (Z.L.take v)} er2) [1] ?_;rintro v2 As ⟨rfl,rfl⟩;refine⟨_,rfl,trivial,?_⟩;refine J.q hX λ_=>?_;refine J.ru hX [1,2,3,4,5,6] ?_;rw[hw];exact⟨rfl,rfl⟩
theorem ft_waits (f p n t l d:Nat) (Z:Fv) (k m:Nat) (hO:Z.Ok (Fv.cW+(1+k)) m) (hm:m<=12) (e:En) (hd:e.data.length=16):Fn Tryz.prog 89 [.pointer (some ⟨f,0,none⟩),enV e] (FvP f p n t l d Z)
  (λv As=>v= .int .i64 (Z.waits e).2/\As=FvP f p n t l d (Z.waits e).1):=by
 have hwt:Z.waits e=(if Z.ask.off=true then(Z.ask,9)
  else if e.lpn<0\/e.lpn>=Z.ask.lg then(Z.ask,3)
  else if(Z.ask.L.length:Int)>=Z.ask.S.slots then
   let w:=Z.ask.writes
   if w.2≠0 then w else(w.1.put e,0)
  else(Z.ask.put e,0)):=rfl
 have hlen:=hO.len;refine Fn.enter [2,0] Tryz.func89 rfl rfl rfl λX F hX=>?_;refine J.q hX λbz=>?_;refine J.cb hX (ft_refuses f n t l p d Z) [1,3] ?_;refine cpq ⟨_,rfl,trivial,?_⟩;have hOY:=hO.ask;obtain⟨Y,hY⟩:∃Y,Y=Z.ask:=⟨_,rfl⟩;have e1:Z.S=Y.S:=by rw[hY];rfl
 have e2:Z.L=Y.L:=by rw[hY];rfl
 rw[<- hY]at hwt hOY;rw[<- hY,e1,e2];rw[e2]at hlen;have hN:=hOY.dv.gd.ok;cases ho:Y.off with
 | true=>
  rw[ho,if_pos rfl]at hwt;refine J.q hX λ_=>?_;refine J.cT ?_;refine J.q hX λ_=>?_;refine J.ru hX [1,2,3,4,5,6] ?_;rw[hwt];exact⟨rfl,rfl⟩
 | false=>
  rw[ho,if_neg Bool.false_ne_true]at hwt;refine J.q hX λ_=>?_;refine J.cF ?_;refine J.q hX λ_=>?_;refine J.plan (.of [0,5,8,12,16,21,24,30,32,36]) [] [1,2,3,4,5,6,7] (by rw[hX.hP];kernel_rfl) (by kernel_rfl) ?_;refine J.q hX λ_=>?_;have hput:∀W:{W:Fv//Z.waits e=(W.put e,0)/\W.L.length<=200/\0<=W.nx/\W.nx<=4611686018427387904},Z.waits e=(W.1.put e,0):=λW=>W.2.1;refine J.gcase hX rfl rfl rfl (by first | exact trivial | (repeat' (first | exact trivial | refine⟨rfl,?_⟩))) (λhb=>?_) (λhb=>?_)
  ·have hi:decide (e.lpn<0)=false:=by simpa using hb
   rw[hi];refine J.q hX λ_=>?_;refine J.cb hX (ft_Logical f n t l p d Y hN) [1,3] ?_;refine cpq ⟨_,rfl,(by first | exact trivial | (repeat' (first | exact trivial | refine⟨rfl,?_⟩))),?_⟩;simp only[decide_eq_false_iff_not]at hi;refine J.q hX λ_=>?_;refine J.cond rfl (λh1=>?_) (λh1=>?_)
   ·simp only[Bool.false_or,ge_iff_le,decide_eq_true_eq]at h1;rw[if_pos (.inr h1)]at hwt;refine J.q hX λ_=>?_;refine J.ru hX [1,2,3,4,5,6] ?_;rw[hwt];exact⟨rfl,rfl⟩
   simp only[Bool.false_or,ge_iff_le,decide_eq_false_iff_not]at h1;rw[if_neg (by omega)]at hwt;have hbb:Y.S.t.b<=1000:=by have:=hOY.dv.t.b;have:=hN.bd16;omega
   refine J.q hX λ_=>?_;refine J.plan (.of [0,4,8,13,20,24,28,33,18,38,40]) [] [1,2,3,4,5,6,7] (by rw[hX.hP];kernel_rfl) (by kernel_rfl) ?_;refine J.q hX λ_=>?_;refine J.cb hX (d_Len d Y.L) [6] ?_;refine cpq ⟨_,rfl,(by first | exact trivial | (repeat' (first | exact trivial | refine⟨rfl,?_⟩))),?_⟩;refine J.q hX λ_=>?_;refine J.cb hX (pn_Slots p n t l Y.S hbb hOY.dv.t.len) [2,3,4,5] ?_;refine cpq ⟨_,rfl,(by first | exact trivial | (repeat' (first | exact trivial | refine⟨rfl,?_⟩))),?_⟩;refine J.q hX λ_=>?_;refine J.join (α:={W:Fv//Z.waits e=(W.put e,0)/\W.L.length<=200/\0<=W.nx/\W.nx<=4611686018427387904}) (λ_=>[⟨0, .pointer (some ⟨f,0,none⟩),2, .tt⟩,⟨3, .pointer (some ⟨bz 0,0,none⟩),8, .tt⟩]) (λW=>[.hp F,FtlA f n t l p d W.1,PenA p n t l W.1.S,NandA n W.1.S.N,TlA t W.1.S.t,TbA l W.1.S.T,DeskA d W.1.L, .pt (bz 0) 133 (enL e)]) (λhj=>?_) (λW=>?_)
   ·refine J.q hX λ_=>?_;refine J.cond rfl (λh2=>?_) (λh2=>?_)
    ·simp only[ge_iff_le,decide_eq_true_eq]at h2;rw[if_pos h2]at hwt;have hkw:=Fv.writes_keep hOY;refine J.q hX λ_=>?_;refine J.cb hX (ft_writes f p n t l d Y (1+k) m hOY hm) [1,2,3,4,5,6] ?_;refine cpq ⟨_,rfl,trivial,?_⟩;dsimp only at hwt;generalize Y.writes=w at hwt hkw ⊢;obtain⟨V,er⟩:=w;dsimp only at hwt hkw ⊢;refine J.q hX λ_=>?_;refine J.cond rfl (λh3=>?_) (λh3=>?_)
     ·simp only[bne_iff_ne,ne_eq]at h3;rw[if_pos h3]at hwt;refine J.q hX λ_=>?_;refine J.ru hX [1,2,3,4,5,6] ?_;rw[hwt];exact⟨rfl,rfl⟩
     ·simp only[bne_eq_false_iff_eq]at h3;rw[if_neg (by rw[h3];decide)]at hwt;have hnx:=hkw.1.nx;refine J.qn hX 1 λ_=>?_;exact J.goto [0,1,2,3,4,5,6,7] (hj ⟨V,hwt,hkw.1.len,by omega,by omega⟩) ⟨rfl,rfl,trivial⟩ rfl rfl
    ·simp only[ge_iff_le,decide_eq_false_iff_not]at h2;rw[if_neg h2]at hwt;have hnx:=hOY.nx;refine J.qn hX 1 λ_=>?_;exact J.goto [0,1,2,3,4,5,6,7] (hj ⟨Y,hwt,hlen,by omega,by omega⟩) ⟨rfl,rfl,trivial⟩ rfl rfl
   obtain⟨W,hw1,hw2,hw3,hw4⟩:=W;dsimp only;refine J.q hX λ_=>?_;refine J.plan (.of [0,4,8,13,17,22]) [] [1,2,3,4,5,7] (by rw[hX.hP];kernel_rfl) (by kernel_rfl) ?_;refine J.q hX λ_=>?_;refine J.cb hX (d_Put d W.L (by omega) {e with seq:=W.nx}) [6] ?_;refine cpq ⟨_,rfl,(by first | exact trivial | (repeat' (first | exact trivial | refine⟨rfl,?_⟩))),?_⟩;refine J.q hX λ_=>?_;refine J.ru hX [1,2,3,4,5,6] ?_;rw[hw1];exact⟨rfl,rfl⟩
  ·have hi:decide (e.lpn<0)=true:=by simpa using hb
   rw[hi];refine J.q hX λ_=>?_;refine J.valT hX (.bool false) 0 rfl rfl (λhg a w he hC=>by simp[G.on]at hg) rfl ?_;simp only[decide_eq_true_eq]at hi;rw[if_pos (.inl hi)]at hwt;refine J.q hX λ_=>?_;refine J.cT ?_;refine J.q hX λ_=>?_;refine J.ru hX [1,2,3,4,5,6] ?_;rw[hwt];exact⟨rfl,rfl⟩
end Go.Proofs.YtkdlnfdjjifedaaGreat
