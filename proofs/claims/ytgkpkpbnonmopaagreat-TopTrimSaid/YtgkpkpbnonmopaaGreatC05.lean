/- Helpers. No condition. -/
import Derived.Test.YtgkpkpbnonmopaaGreatC02
import Derived.Test.YtgkpkpbnonmopaaGreatC03
import Derived.Test.YtgkpkpbnonmopaaGreatC04
set_option maxRecDepth 20000
set_option linter.all false
namespace Go.Proofs.YtgkpkpbnonmopaaGreat
open Go Go.RowKit
def rdP (a:Option Addr) (size n:Nat) (xs:List Value) (h:Hl):Prop:=
 xs.length=n*size/\(0<n->∃b o cs ty fr,a=some ⟨b,o,none⟩/\h b=some (.cells cs ty fr)/\(cs.toList.drop o).take (n*size)=xs)
theorem rdP.up {a:Option Addr} {size n:Nat} {xs:List Value} {h h':Hl} (l:Hle h h') (s:rdP a size n xs h):rdP a size n xs h':=
 ⟨s.1,λhn=>let⟨b,o,cs,ty,fr,h1,h2,h3⟩:=s.2 hn;⟨b,o,cs,ty,fr,h1,l _ _ h2,h3⟩⟩
def Rd (A:Atom) (a:Option Addr) (size n:Nat) (xs:List Value):Prop:=∀h,A.sat h->rdP a size n xs h
theorem Rd.addr {a:Option Addr} {size n:Nat} {xs:List Value} {h:Hl} (s:rdP a size n xs h) (hn:0<n):∃g o,a=some ⟨g,o,none⟩:=let⟨b,o,_,_,_,e,_⟩:=s.2 hn;⟨b,o,e⟩
def oad (a:Option Nat):Option Addr:=match a with | some g=>some ⟨g,0,none⟩ | none=>none
theorem I0 (e size:Nat) (a:Option Nat) (n cap:Nat) (xs:List Value):Rd (c9 e size a n cap xs) (oad a) size n xs:=by
 intro h s;obtain⟨h0,h1⟩:=s;refine⟨h0,λhn=>?_⟩;cases a with
 | none=>omega
 | some g=>
  obtain⟨cur,q1,q2,q3,q4,q5⟩:=h1;exact⟨g,0,cur,e,(0,0),rfl,q1,by simpa using q5⟩
theorem a3M (b t:Nat) (cs:List Value) (size n:Nat) (h:cs.length=n*size):Rd (.pt b t cs) (some ⟨b,0,none⟩) size n cs:=by
 intro h' s;exact⟨h,λ_=>⟨b,0,cs.toArray,t,(0,0),rfl,s,by simp[<- h]⟩⟩
theorem Rd.take {A:Atom} {a:Option Addr} {size n:Nat} {xs:List Value} (h:Rd A a size n xs) (k:Nat) (hk:k<=n):Rd A a size k (xs.take (k*size)):=by
 intro h' s;obtain⟨h0,h1⟩:=h h' s;have hle:k*size<=n*size:=Nat.mul_le_mul_right _ hk;refine⟨by rw[List.length_take,h0];omega,λhk0=>?_⟩;obtain⟨b,o,cs,ty,fr,e1,e2,e3⟩:=h1 (by omega);refine⟨b,o,cs,ty,fr,e1,e2,?_⟩;rw[<- e3,List.take_take,Nat.min_eq_left hle]
section
variable {P : Program} {T : Tab} {E : Env} {n : Nat} {a : Act} {w : World}
theorem a6y {b o size m:Nat} {xs:List Value} (hb:rdP (some ⟨b,o,none⟩) size m xs (hl w)) (hm:0<m) {j:Nat} {v:Value} (hv:xs[j]? =some v):w.cell? ⟨b,o+j,none⟩=some v:=by
 obtain⟨b',o',cs,ty,fr,e1,e2,e3⟩:=hb.2 hm;simp only[Option.some.injEq,Addr.mk.injEq,and_true]at e1;obtain⟨rfl,rfl⟩:=e1;rw[cell_of_row w b (o+j) cs ty fr e2];rw[<- e3,List.getElem?_take]at hv;split at hv
 ·rw[List.getElem?_drop]at hv;simpa using hv
 ·cases hv
theorem a0v (hT:TabOK P T) {oo:Oper} {t:TypeId} {x:Operand} {k tg b off o j size m:Nat} {g:G} {ti:TI} {xs l:List Value} (hop:oo.op= .load t x) (hx:ev E x=some ⟨k, .pointer (some ⟨b,off,none⟩),tg,g⟩) (he:EnvOK n E a) (hg:g.on=true) (hti:T.get t=some ti) (h1:ti.d.one=false)
  (hb:rdP (some ⟨b,o,none⟩) size m xs (hl w)) (hm:0<m) (hoff:off=o+j) (hv:(xs.drop j).take ti.size=l) (hl:l.length=ti.size):(execOp a.eval oo).run P w= .ok (.value (.agg l.toArray)) w:=by
 have ex:=j3 he hx;simp only[Slot.val,hg]at ex;obtain⟨d,f,z,ok⟩:=g7 (hT.get hti);have hmm:=ok.many h1;have hr:w.rangeAt b off l:=by
  intro i v hi;subst hoff;rw[<- hv,List.getElem?_take]at hi;split at hi
  ·rw[List.getElem?_drop]at hi;rw[Nat.add_assoc];exact a6y hb hm hi
  ·cases hi
 have hr2:=run_loadVar_mid (P:=P) w b off t l d hr ok.hd (by cases d<;>simp_all [H0,TypeDesc.isRow]) (by rw[ok.hf];simp[hl,ok.hsize]);simp only[execOp,hop,ex,Instr.loadAt,Instr.sureAddr,Sem.run_bind,Sem.run_pure,Result.andThen_ok,hr2]
theorem a6A (hT:TabOK P T) {oo:Oper} {t:TypeId} {x:Operand} {k tg b off o j size m:Nat} {g:G} {ti:TI} {xs:List Value} {v:Value} (hop:oo.op= .load t x) (hx:ev E x=some ⟨k, .pointer (some ⟨b,off,none⟩),tg,g⟩) (he:EnvOK n E a) (hg:g.on=true) (hti:T.get t=some ti) (h1:ti.d.one=true)
  (hb:rdP (some ⟨b,o,none⟩) size m xs (hl w)) (hm:0<m) (hoff:off=o+j) (hv:xs[j]? =some v):(execOp a.eval oo).run P w= .ok (.value v) w:=by
 have ex:=j3 he hx;simp only[Slot.val,hg]at ex;obtain⟨d,f,z,ok⟩:=g7 (hT.get hti);subst hoff;simp only[execOp,hop,ex,Instr.loadAt,Instr.sureAddr,Sem.run_bind,Sem.run_pure,Result.andThen_ok,Q4 ok.hd (ok.one h1) (a6y hb hm hv)]
end
section
variable {X : Cx} {P : Program} {T : Tab} {K : List KI} {E : Env} {L : List Atom} {N : Nat} {F : HP} {Post : Value → List Atom → Prop} {rs : List ResultVar}
theorem J.appendR (hX:IsCx X P rs N F Post) (hT:TabOK P T) {ops:Array Oper} {C:Cl} {lt:Bool} {i:Nat} {t:PT} {o:Oper} {g:G} {x y:Operand} {st e size by_:Nat} {ks tgs:Nat} {gs:G} {a:Option Nat} {n cap:Nat} {xs:List Value} {ky tgy:Nat} {gy:G} {b oo m c:Nat} {cs:List Value} {s1 b1:Nat} {z1:List Value} {E':Value->Env} {Ay:Atom} (is iy tag:Nat)
  (ho:n9 ops.toList i=some o) (hg:gd ops.toList E o=some g) (hgo:g.on=true) (hop:o.op= .call ⟨.builtin .append,#[x,y],#[st,st]⟩)
  (hx:ev E x=some ⟨ks,slv a n cap,tgs,gs⟩) (hvx:gs.on=true) (hy:ev E y=some ⟨ky, .slice (some ⟨b,oo,none⟩) m c,tgy,gy⟩) (hvy:gy.on=true)
  (hLs:n9 L is=some (c9 e size a n cap xs)) (hLy:n9 L iy=some Ay) (hrd:Rd Ay (some ⟨b,oo,none⟩) size m cs) (hst:T.get st=some ⟨.slice e size,s1,z1,b1⟩) {td:TD} {z:List Value} (he:T.get e=some ⟨td,size,z,by_⟩) (hz:Nat.beq z.length size=true)
  (hsz:Nat.blt 0 size=true) (h1:∀u∈cs,u.oneCell'=true) (h63:n+m<=maxLen) (hbytes:(n+m)*by_<=140737488355328)
  (hd:∀v,D7 N o.dst v tag .tt E=some (E' v))
  (hJ:∀a' cap',∃L',p9 L is (c9 e size a' (n+m) cap' (xs++cs))=some L'/\Conj (t8 lt C L')/\J X (.reg ops C t::K) (E' (slv a' (n+m) cap')) L'):J X (.reg ops C (.alt lt i t .non)::K) E L:=by
 refine J.op hX (S:=λv L'=>∃a' cap',v=slv a' (n+m) cap'/\L'=L.set is (c9 e size a' (n+m) cap' (xs++cs))) tag ho hg hgo (λa0 w hen hs=>?_) hd (λv L' ⟨a',cap',e1,e2⟩=>by subst e1;subst e2;obtain⟨L2,q1,q2⟩:=hJ a' cap';rw[<- B4 q1];exact q2);obtain⟨d,f,zv,ok⟩:=g7 (hT.get hst);obtain⟨fe,rfl,g1,g2⟩:=ok.slice rfl;obtain⟨d',f',zv',ok'⟩:=g7 (hT.get he);have hf:fe=f':=by have:=g1.symm.trans ok'.hf;injection this
 subst hf;have hzz:z=zv'.cells.toList:=ok'.hzero;subst hzz;rw[n5]at hLs hLy;have hrow:=a3V (hs.get hLs);have hrd2:=hrd _ (hs.get hLy);have hnews:∀j u,cs[j]? =some u->w.cell? ((⟨b,oo,none⟩:Addr).add j)=some u:=λj u hu=>by
  rw[Addr.add_none];refine a6y hrd2 ?_ hu;rcases Nat.eq_zero_or_pos m with h0 | h0
  ·have:=hrd2.1;rw[h0,Nat.zero_mul]at this;rw[List.eq_nil_of_length_eq_zero this]at hu;simp at hu
  ·exact h0
 obtain⟨v',w',r1,r2,r3,_,r5⟩:=run_append_own_at (P:=P) w 0 st o.type e fe zv' size by_ ok.hd ok'.hf ok'.hz g2 ok'.hbytes.symm (by have:=Nat.eq_of_beq_eq_true hz;simpa using this) (Nat.le_of_ble_eq_true hsz) _ n xs hrow ⟨b,oo,none⟩ m c cs hrd2.1 hnews h1 h63 hbytes (Nat.zero_le _);obtain⟨a',cap',e1,e2,e3⟩:=a7K r2;subst e1;have ex:=j3 hen hx;have ey:=j3 hen hy;simp only[Slot.val,hvx,hvy]at ex ey;refine⟨_,_, .value (slv a' (n+m) cap'),w',⟨a',cap',rfl,rfl⟩,?_, .inl rfl,?_,Ext.grown r3⟩
 ·simp only[execOp,hop,resolve,Sem.run_bind,Sem.run_pure,Result.andThen_ok,invoke,builtin,List.map_toArray,List.map_cons,List.map_nil,ex,ey,r1]
 ·refine Sep.step hs hLs (x:=(slv a n cap).ownBlock) (x':=a') (λh g0 hh he0=>?_) r3 (by rw[<- e3];exact r5) (λh hh=>⟨e2.1,?_⟩)
  ·cases a with
   | none=>simp[slv,Value.ownBlock]at he0
   | some ga=>
    simp only[slv,Value.ownBlock,Option.some.injEq]at he0;subst he0;obtain⟨cur,h1,_⟩:=hh.2;exact⟨_,h1⟩
  ·have e22:=e2.2;cases a' with
   | none=>exact e22
   | some ga=>
    obtain⟨cur,q1,q2⟩:=e22;exact⟨cur,(hh ga rfl).trans q1,q2⟩
end
def d6 (l:List En):List Value:=l.flatMap enL
theorem b6I (e:En):(enL e).length=19:=rfl
theorem E5:∀(l:List En) (r:List Value) (k:Nat) (x:En),l[k]? =some x->((d6 l++r).drop (k*19)).take 19=enL x
 | [],_,_,_,h=>by simp at h
 | y::l,r,0,x,h=>by
  simp at h;subst h;rw[Nat.zero_mul,List.drop_zero];simp only[d6,List.flatMap_cons,List.append_assoc];exact List.take_left' rfl
 | y::l,r,k+1,x,h=>by
  have:=E5 l r k x (by simpa using h);rw[show(k+1)*19=19+k*19 from by omega,<- List.drop_drop];simp only[d6,List.flatMap_cons,List.append_assoc]at this ⊢;rw[List.drop_left' (b6I y)];exact this
theorem y0 (l:List Sh) (s:Sh):m9 (l++[s])=m9 l++shL s:=by simp[m9]
namespace W
def parS (b r m:Int) (l:List En):Sh:=
 let x:=over (l.map (sh b r m))
 ⟨x.1,(x.2.toNat/72057594037927936:Nat),(x.2.toNat/1099511627776 % 65536:Nat),(x.2.toNat % 1099511627776:Nat),2,b,r,m⟩
def parB (b r m:Int) (l:List En):Bool:=decide ((l.length:Int)=G.slots m)&& !l.isEmpty&&l.all (ok b r m)
def par (b r m:Int) (l:List En):Sh:=if parB b r m l then parS b r m l else Sh.zero
end W
theorem b7F (m x:Int):0<=W.ovM m x/\W.ovM m x<18446744073709551616:=by
 have:W.ovM m x=((BitVec.ofInt 64 m ^^^ BitVec.ofInt 64 x).toNat:Int) % 18446744073709551616:=by simp[W.ovM,IntKind.wrap,IntKind.bits,IntKind.signed]
 rw[this];omega
theorem a1p:∀(l:List Sh) (x:List UInt8×Int),0<=x.2/\x.2<18446744073709551616->∃k:Nat,(l.foldl W.over1 x).2=k/\k<18446744073709551616
 | [],x,h=>⟨x.2.toNat,by simp only[List.foldl_nil];omega,by omega⟩
 | s::l,x,_=>a1p l _ (b7F _ _)
theorem I5 (m:Int):0<=G.slots m/\G.slots m<=7:=by
 have:=L.count_le m;unfold G.slots;split<;>omega
theorem a7x (b r m:Int) (A:Atom) (a:Option Addr) (n cap:Nat) (l:List En) (hA:Rd A a 19 n (d6 l)) (hl:l.length=n) (hd:∀s∈l,s.data.length=16):FP 231 [iI b,iI r,iI m, .slice a n cap] [A]
  (λv As=>v= .tuple #[shV (W.par b r m l), .bool (W.parB b r m l)]/\As=[A]):=by
 refine FE [0,0,0,0] Tryz.func231 λX F hX=>?_;refine J.q λbb=>?_;refine J.cb (L6 m) [] ?_;refine cpq ⟨_,rfl,trivial,?_⟩;refine J.qd (λ_ h1=>?_) λ_ h1=>?_
 ·refine J.qr [1] λ_=>?_;have:W.parB b r m l=false:=by
   simp only[Bool.or_eq_true,bne_iff_ne,ne_eq,beq_iff_eq]at h1;unfold W.parB;rw[hl];rcases h1 with h1 | h1
   ·simp[h1]
   ·have:l=[]:=List.eq_nil_of_length_eq_zero (by omega);subst this;simp
  exact⟨by rw[W.par,this];rfl,rfl⟩
 simp only[Bool.or_eq_false_iff,bne_eq_false_iff_eq,beq_eq_false_iff_ne,ne_eq]at h1;have hn:n<=1000:=by have:=I5 m;omega
 refine J.turn1 [] rfl (As:=[c9 222 23 none 0 0 (m9 [])]) (λh s=>Sep.one ⟨rfl,rfl,rfl⟩) rfl ?_;refine J.q λ_=>?_;refine J.l (α:=(Nat×Option Nat×Nat)) (λz=>z.1<=n/\(l.take z.1).all (W.ok b r m)=true) (λz=>[si 31 z.1,si 30 n,sv 29 (.slice a n cap),sv 10 (slv z.2.1 z.1 z.2.2),⟨8,pp (bb 0),3, .tt⟩,si 0 b,si 1 r,si 2 m]) [3] (λz=>[c9 222 23 z.2.1 z.1 z.2.2 (m9 ((l.take z.1).map (W.sh b r m)))]) (λz=>n-z.1) ((0,none,0)) (⟨Nat.zero_le _,rfl⟩) λz hI=>?_;obtain⟨k,a',cap'⟩:=z;dsimp only at hI ⊢;refine J.qd (λ_ h2=>?_) λ_ h2=>?_
 ·simp only[decide_eq_true_eq,Int.ofNat_lt]at h2;obtain⟨e,he0⟩:∃e,l[k]? =some e:=⟨_,List.getElem?_eq_getElem (by omega)⟩;have hel:e.data.length=16:=hd e (List.mem_of_getElem? he0);refine J.know (p:=∃g o,a=some ⟨g,o,none⟩) (λh' s=>Rd.addr (hA _ (s.get (i:=1) rfl)) (by omega)) λhk=>?_;obtain⟨g,o,rfl⟩:=hk;refine J.q λ_=>?_;refine J.v (enV e) rfl rfl (λhg a w he hw=>?_) ?_
  ·exact a0v tk rfl rfl he rfl rfl rfl (hA _ (hw.get (i:=1) rfl)) (by omega) (j:=k*19) (by omega) (by have:=E5 l [] k e he0;rwa [List.append_nil]at this) rfl
  refine J.qp (a7y b r m e hel) [] λ_=>?_;have htk:l.take (k+1)=l.take k++[e]:=by rw[List.take_add_one,he0];rfl
  refine J.qd (λ_ h3=>?_) λ_ h3=>?_
  ·simp only[Bool.not_eq_true']at h3;refine J.qr [1] λ_=>?_;have:W.parB b r m l=false:=by
    unfold W.parB;have:l.all (W.ok b r m)=false:=by
     rw[List.all_eq_false];exact⟨e,List.mem_of_getElem? he0,by simp[h3]⟩
    rw[this];simp
   exact⟨by rw[W.par,this];rfl,rfl⟩
  ·simp only[Bool.not_eq_false']at h3;rw[show W.own b r m e=W.sh b r m e from if_pos h3];refine J.q λ_=>?_;refine J.append hX tk 3 6 0 rfl rfl rfl rfl rfl rfl rfl rfl rfl rfl rfl rfl rfl rfl rfl rfl ?_ ?_ (λ_=>rfl) λa2 cap2=>⟨_,(congrArg (λz=>p9 _ 3 (c9 _ _ _ _ _ z)) (y0 _ (W.sh b r m e)).symm).trans rfl,trivial,?_⟩
   ·simp only[maxLen];omega
   ·omega
   rw[show(l.take k).map (W.sh b r m)++[W.sh b r m e]=(l.take (k+1)).map (W.sh b r m)from by rw[htk,List.map_append];rfl];refine J.q λ_=>?_;refine J.n ((k+1,a2,cap2)) (⟨by dsimp only;omega,by dsimp only;rw[htk,List.all_append,hI.2];simp[h3]⟩) (by dsimp only;omega) [0,1,2,3]
 ·simp only[decide_eq_false_iff_not,Int.ofNat_lt]at h2;obtain rfl:k=n:=by omega
  rw[show l.take k=l from List.take_of_length_le (by omega)]at*;refine J.qp (P6 a' k cap' (l.map (W.sh b r m)) (by rw[List.length_map,hl]) hn (λs hs=>by obtain⟨e,he,rfl⟩:=List.mem_map.1 hs;exact hd e he)) [3] λ_=>?_;obtain⟨mm,hm1,hm2⟩:=a1p (l.map (W.sh b r m)) (zeros16,0) ⟨by decide,by decide⟩;have hm1:(W.over (l.map (W.sh b r m))).2=(mm:Int):=hm1;rw[hm1];refine J.qp (b7U mm hm2) [] λ_=>?_;refine J.qr [1] λ_=>?_;have hB:W.parB b r m l=true:=by
   unfold W.parB;rw[hl,hI.2];have:l.isEmpty=false:=by
    cases l with
    | nil=>simp at hl;omega
    | cons x l=>rfl
   rw[this];simp[h1.1]
  refine⟨?_,rfl⟩;have hx:mm=(W.over (l.map (W.sh b r m))).2.toNat:=by rw[hm1];rfl
  rw[W.par,hB,if_pos rfl,W.parS,<- hx];rfl
theorem a5t {N:Nand} (hN:N.Ok) (x y z:Int):(N.readV x y z).length=32:=by
 unfold Nand.readV;split
 ·rfl
 ·rename_i h;simp only[ne_eq,Decidable.not_not]at h;obtain⟨_,_,hr⟩:=Nand.refuses_zero h;split
  ·rfl
  ·rename_i c hc;split
   ·rfl
   ·exact(hN.cells _ _ (by omega) (by omega)).2 c (List.mem_of_getElem? hc)
namespace M
def bad (s:Sh) (x y z:Int):Bool:=s.block !=y||s.row !=z|| !L.has s.mask x||(G.parity s.mask s.block s.row==x) !=(s.kind==2)
def look (N:Nand) (x y z:Int):Sh×Int:=
 let e:=N.readE x y z
 if e=0 then
  let p:=N.readV x y z
  if S.getE p≠0\/bad (S.getV p) x y z=true then(Sh.zero,3)else(S.getV p,1)
 else if e=5 then(Sh.zero,2)
 else if e=8\/e=9\/e=3\/e=12 then(Sh.zero,4)
 else(Sh.zero,3)
end M
theorem a1Z (p:Nat) (N:Nand) (hN:N.Ok) (hR:N.Room) (x y z:Int):FP 165 [pp p, .agg #[iI x,iI y,iI z]] [i9 p N]
  (Ps (.tuple #[shV (M.look N x y z).1,iI (M.look N x y z).2]) [i9 p N]):=by
 refine FE [2,0] Tryz.func165 λX F hX=>?_;refine J.qp (a4a p N hN x y z) [1] λ_=>?_;refine J.qd (λ_ h1=>?_) λ_ h1=>?_
 ·simp only[beq_iff_eq]at h1;refine J.qp (b4y (N.readV x y z) (a5t hN x y z)) [] λ_=>?_;refine J.p (.of [0,5,8,13,16,21,28,33,26,36,40]) [10] [1,2,3,4,5] λ_=>?_;refine J.qp (V6 (S.getV (N.readV x y z)).mask (S.getV (N.readV x y z)).block (S.getV (N.readV x y z)).row) [] λ_=>?_;have hlk:M.look N x y z=if S.getE (N.readV x y z)≠0\/M.bad (S.getV (N.readV x y z)) x y z=true then(Sh.zero,3)else(S.getV (N.readV x y z),1):=by simp only[M.look];rw[if_pos h1]
  generalize hE:S.getE (N.readV x y z)=ge at hlk;generalize hS:S.getV (N.readV x y z)=s at hlk;refine J.q λ_=>?_;refine J.gcase hX rfl rfl rfl trivial (λhb=>?_) (λhb=>?_)
  ·have hb2:(ge !=0||s.block !=y||s.row !=z)=false:=by rw[Bool.not_eq_true']at hb;exact hb
   rw[hb2];refine J.qp (b0t s.mask x) [] λ_=>?_;have hcond:(false|| !L.has s.mask x||(G.parity s.mask s.block s.row==x) !=(s.kind==2))=true->ge≠0\/M.bad s x y z=true:=λh=>by
    simp only[Bool.or_eq_false_iff]at hb2;right;unfold M.bad;rw[hb2.1.2,hb2.2];exact h
   have hcond2:(false|| !L.has s.mask x||(G.parity s.mask s.block s.row==x) !=(s.kind==2))=false->¬(ge≠0\/M.bad s x y z=true):=λh=>by
    simp only[Bool.or_eq_false_iff]at hb2;have h0:ge=0:=by simpa using hb2.1.1
    have h2:M.bad s x y z=false:=by unfold M.bad;rw[hb2.1.2,hb2.2];exact h
    simp[h0,h2]
   refine J.qd (λ_ h5=>?_) λ_ h5=>?_
   ·refine J.qr [1] λ_=>?_;have hc:ge≠0\/M.bad s x y z=true:=hcond h5;rw[hlk,if_pos hc];exact⟨rfl,rfl⟩
   ·refine J.qr [1] λ_=>?_;have hc:¬(ge≠0\/M.bad s x y z=true):=hcond2 h5;rw[hlk,if_neg hc];exact⟨rfl,rfl⟩
  ·have hb2:(ge !=0||s.block !=y||s.row !=z)=true:=by rw[Bool.not_eq_false']at hb;exact hb
   rw[hb2];refine J.q λ_=>?_;refine J.v (.bool false) rfl rfl (λhg a w he hw=>by simp[G.on]at hg) ?_;have hc:ge≠0\/M.bad s x y z=true:=by
    simp only[Bool.or_eq_true,bne_iff_ne,ne_eq]at hb2;rcases hb2 with(h | h) | h
    ·exact .inl h
    ·right;simp[M.bad,h]
    ·right;simp[M.bad,h]
   rw[if_pos hc]at hlk;refine J.qd (λ_ h5=>?_) λ_ h5=>?_
   ·refine J.qr [1] λ_=>?_;rw[hlk];exact⟨rfl,rfl⟩
   ·simp at h5
 simp only[beq_eq_false_iff_ne,ne_eq]at h1;refine J.qd (λ_ h2=>?_) λ_ h2=>?_
 ·simp only[beq_iff_eq]at h2;refine J.qr [1] λ_=>?_;exact⟨by simp only[M.look];rw[if_neg h1,if_pos h2];rfl,rfl⟩
 simp only[beq_eq_false_iff_ne,ne_eq]at h2;have hgone:(N.readE x y z=8\/N.readE x y z=9\/N.readE x y z=3\/N.readE x y z=12)->M.look N x y z=(Sh.zero,4):=λh=>by simp only[M.look];rw[if_neg h1,if_neg h2,if_pos h]
 have hbad:¬(N.readE x y z=8\/N.readE x y z=9\/N.readE x y z=3\/N.readE x y z=12)->M.look N x y z=(Sh.zero,3):=λh=>by simp only[M.look];rw[if_neg h1,if_neg h2,if_neg h]
 refine J.qd (λ_ g8=>?_) λ_ g8=>?_
 ·rw[g8];refine J.qT λ_=>?_;refine J.qr [1] λ_=>?_;simp only[beq_iff_eq]at g8;rw[hgone (by simp[g8])];exact⟨rfl,rfl⟩
 refine J.qd (λ_ g9=>?_) λ_ g9=>?_
 ·rw[g9];refine J.qT λ_=>?_;refine J.qr [1] λ_=>?_;simp only[beq_iff_eq]at g9;rw[hgone (by simp[g9])];exact⟨rfl,rfl⟩
 refine J.qd (λ_ g3=>?_) λ_ g3=>?_
 ·rw[g3];refine J.qT λ_=>?_;refine J.qr [1] λ_=>?_;simp only[beq_iff_eq]at g3;rw[hgone (by simp[g3])];exact⟨rfl,rfl⟩
 refine J.qd (λ_ g12=>?_) λ_ g12=>?_
 ·refine J.qr [1] λ_=>?_;simp only[beq_iff_eq]at g12;rw[hgone (by simp[g12])];exact⟨rfl,rfl⟩
 refine J.qr [1] λ_=>?_;simp only[beq_eq_false_iff_ne,ne_eq]at g8 g9 g3 g12;rw[hbad (by simp[g8,g9,g3,g12])];exact⟨rfl,rfl⟩
def f6 (l:List Int):List Value:=l.map (.int .i64)
theorem M5 (l:List Int) (x:Int):f6 (l++[x])=f6 l++[iI x]:=by simp[f6]
namespace M
def rowN (N:Nand) (b r:Int) (k:Nat):List (Sh×Int):=(List.range k).map λd:Nat=>look N (d:Int) b r
end M
theorem a5q (N:Nand) (b r:Int) (k:Nat):M.rowN N b r (k+1)=M.rowN N b r k++[M.look N (k:Int) b r]:=by simp[M.rowN,List.range_succ]
theorem b7h (p:Nat) (N:Nand) (hN:N.Ok) (hR:N.Room) (b r:Int):FP 161 [pp p,iI b,iI r] [i9 p N]
  (λv As=>∃a1 c1 a2 c2,v= .tuple #[slv a1 N.dies c1,slv a2 N.dies c2]/\As=[i9 p N,c9 222 23 a1 N.dies c1 (m9 ((M.rowN N b r N.dies).map (·.1))),c9 3 1 a2 N.dies c2 (f6 ((M.rowN N b r N.dies).map (·.2)))]):=by
 have hbd:=hN.bd;refine FE [2,0,0] Tryz.func161 λX F hX=>?_;refine J.qp (U8 p N) [1] λ_=>?_;refine J.turn1 [] rfl (As:=[c9 222 23 none 0 0 (m9 []),c9 3 1 none 0 0 (f6 [])]) (λh s=>⟨λ_=>0,λi A hA=>by
  match i,hA with
  | 0,hA=>simp at hA;subst hA;exact⟨rfl,rfl,rfl⟩
  | 1,hA=>simp at hA;subst hA;exact⟨rfl,rfl,rfl⟩
  | k+2,hA=>simp at hA⟩) rfl ?_
 refine J.q λ_=>?_;refine J.l (α:=(Nat×(Option Nat×Nat)×(Option Nat×Nat))) (λz=>z.1<=N.dies) (λz=>[si 16 z.1,si 15 N.dies,sv 8 (slv z.2.1.1 z.1 z.2.1.2),sv 9 (slv z.2.2.1 z.1 z.2.2.2),⟨0,pp p,2, .tt⟩,si 1 b,si 2 r]) [2,3] (λz=>[c9 222 23 z.2.1.1 z.1 z.2.1.2 (m9 ((M.rowN N b r z.1).map (·.1))),c9 3 1 z.2.2.1 z.1 z.2.2.2 (f6 ((M.rowN N b r z.1).map (·.2)))]) (λz=>N.dies-z.1) ((0,(none,0),(none,0))) (Nat.zero_le _) λz hI=>?_;obtain⟨k,⟨a1,c1⟩,⟨a2,c2⟩⟩:=z;dsimp only at hI ⊢;refine J.qd (λ_ h1=>?_) λ_ h1=>?_
 ·simp only[decide_eq_true_eq,Int.ofNat_lt]at h1;refine J.qp (a1Z p N hN hR k b r) [1] λ_=>?_;refine J.q λ_=>?_;refine J.append hX tk 2 5 0 rfl rfl rfl rfl rfl rfl rfl rfl rfl rfl rfl rfl rfl rfl rfl rfl ?_ ?_ (λ_=>rfl) λa3 c3=>⟨_,(congrArg (λz=>p9 _ 2 (c9 _ _ _ _ _ z)) (y0 _ (M.look N k b r).1).symm).trans rfl,trivial,?_⟩
  ·simp only[maxLen];omega
  ·omega
  refine J.q λ_=>?_;refine J.append hX tk 3 6 0 rfl rfl rfl rfl rfl rfl rfl rfl rfl rfl rfl rfl rfl rfl rfl rfl ?_ ?_ (λ_=>rfl) λa4 c4=>⟨_,(congrArg (λz=>p9 _ 3 (c9 _ _ _ _ _ z)) (M5 _ (M.look N k b r).2).symm).trans rfl,trivial,?_⟩
  ·simp only[maxLen];omega
  ·omega
  rw[show(M.rowN N b r k).map (·.1)++[(M.look N k b r).1]=(M.rowN N b r (k+1)).map (·.1)from by rw[a5q,List.map_append];rfl,show(M.rowN N b r k).map (·.2)++[(M.look N k b r).2]=(M.rowN N b r (k+1)).map (·.2)from by rw[a5q,List.map_append];rfl];refine J.q λ_=>?_;refine J.n ((k+1,(a3,c3),(a4,c4))) (by dsimp only;omega) (by dsimp only;omega) [0,1,2,3]
 ·simp only[decide_eq_false_iff_not,Int.ofNat_lt]at h1;obtain rfl:k=N.dies:=by omega
  refine J.qr [1,2,3] λ_=>?_;exact⟨a1,c1,a2,c2,rfl,rfl⟩
theorem b8g (x y:Int):FP 226 [iI x,iI y] [] (Ps (.bool (decide (x<y))) []):=by
 refine FE [] Tryz.func226 λX F hX=>?_;refine J.qp (a7l x) [] λ_=>?_;refine J.q λ_=>?_;refine J.gcase hX rfl rfl rfl trivial (λhb=>by cases hb) (λ_=>?_);refine J.q λ_=>?_;refine J.v (.bool false) rfl rfl (λhg a w he hw=>by simp[G.on]at hg) ?_;refine J.qr [] λ_=>?_;exact⟨by simp,rfl⟩
theorem o0 (l:List Int):(f6 l).length=l.length:=by simp[f6]
theorem I7 (l:List Int) (r:List Value) (k:Nat) (x:Int) (h:l[k]? =some x):(f6 l++r)[k]? =some (iI x):=by
 obtain⟨h1,h2⟩:=List.getElem?_eq_some_iff.1 h;rw[List.getElem?_append_left (by rw[o0];exact h1),f6,List.getElem?_map,h];rfl
theorem R2 (l:List Int) (r:List Value) (k:Nat) (x:Int) (h:k<l.length):(f6 l++r).set k (iI x)=f6 (l.set k x)++r:=by
 rw[List.set_append_left _ _ (by rw[o0];exact h),f6,f6,List.map_set]
def a3z (l:List Int) (j:Nat):List Int:=(l.set j (l.getD (j-1) 0)).set (j-1) (l.getD j 0)
def a0b:Nat->List Int->List Int
 | 0,l=>l
 | j+1,l=>if l.getD (j+1) 0<l.getD j 0 then a0b j (a3z l (j+1))else l
def G9 (l:List Int):Nat->List Int
 | 0=>l
 | k+1=>a0b (k+1) (G9 l k)
def E9 (l:List Int):List Int:=G9 l (l.length-1)
theorem T8 (l:List Int) (j:Nat):(a3z l j).length=l.length:=by simp[a3z]
theorem a5m:∀(j:Nat) (l:List Int),(a0b j l).length=l.length
  | 0,l=>rfl
  | j + 1, l => by unfold a0b; split
                   · rw[a5m j,T8]
                   · rfl
theorem Q5 (l:List Int):∀k,(G9 l k).length=l.length
 | 0=>rfl
 | k+1=>by rw[G9,a5m,Q5 l k]
theorem b6v (g n cap:Nat) (l:List Int) (hl:l.length=n) (hn:n<=4611686018427387904) (r:List Value):FP 220 [.slice (some ⟨g,0,none⟩) n cap,iI 0,iI n] [.pt g 3 (f6 l++r)]
  (Ps (.tuple #[]) [.pt g 3 (f6 (E9 l)++r)]):=by
 refine FE [2,0,0] Tryz.func220 λX F hX=>?_;refine J.q λ_=>?_;refine J.l (α:=Nat) (λi=>1<=i/\i<=max 1 n) (λi=>[si 6 i,⟨0, .slice (some ⟨g,0,none⟩) n cap,2, .tt⟩,si 1 0,si 2 n]) [1] (λi=>[.pt g 3 (f6 (G9 l (i-1))++r)]) (λi=>n-i) (1) (⟨by omega,by omega⟩) λi hI=>?_;refine J.qd (λ_ h1=>?_) λ_ h1=>?_
 ·simp only[decide_eq_true_eq,Int.ofNat_lt]at h1;refine J.q λ_=>?_;refine J.l (α:=(Nat×List Int)) (λy=>y.1<=i/\y.2.length=n/\a0b y.1 y.2=G9 l i) (λy=>[si 7 y.1,si 6 i,⟨0, .slice (some ⟨g,0,none⟩) n cap,2, .tt⟩,si 1 0,si 2 n]) [1] (λy=>[.pt g 3 (f6 y.2++r)]) (λy=>y.1) ((i,G9 l (i-1))) (⟨Nat.le_refl _,by rw[Q5,hl],by obtain⟨k,rfl⟩:∃k,i=k+1:=⟨i-1,by omega⟩;rfl⟩) λy hI=>?_;obtain⟨j,m⟩:=y;dsimp only at hI ⊢;have hget:∀e,e<n->m[e]? =some (m.getD e 0):=λe he=>by rw[List.getD_eq_getElem?_getD,List.getElem?_eq_getElem (by omega),Option.getD_some]
  rcases Nat.eq_zero_or_pos j with h2 | h2
  ·subst h2;refine J.pn 4 (.of [0,4,8,12,16,20,24,29,32,36,40,44,49,54,56]) [] [1] λ_ _=>?_;rw[show decide (((0:Nat):Int)>0)=false from rfl];refine J.q λ_=>?_;refine J.vT (iI 0) rfl rfl (λhg a w he hC=>by simp[G.on]at hg) ?_;refine J.q λ_=>?_;refine J.vT (iI 0) rfl rfl (λhg a w he hC=>by simp[G.on]at hg) ?_;refine J.q λ_=>?_;refine J.gcase hX rfl rfl rfl ⟨rfl,trivial⟩ (λh=>by cases h) (λ_=>?_);refine J.slot (k:=29) (s':=⟨29, .bool false,0, .when false⟩) rfl rfl rfl ?_;refine J.qF λ_=>?_;have hm:m=G9 l (i+1-1):=hI.2.2;rw[hm];refine J.q λ_=>?_;refine J.n (i+1) (⟨by omega,by omega⟩) (by omega) [0,1]
  ·obtain⟨j,rfl⟩:∃k,j=k+1:=⟨j-1,by omega⟩;refine J.pn 4 (.of [0,4,8,12,16,20,24,29,32,36,40,44,49,54,56]) [] [1] λ_ _=>?_;rw[show decide (((j+1:Nat):Int)>0)=true from decide_eq_true (by omega)];refine J.q λ_=>?_;refine J.vT (iI (m.getD (j+1) 0)) rfl rfl (λhg a w he hC=>?_) ?_
   ·exact i7 tk rfl rfl he hg rfl rfl (hC rfl _ (f9 (i:=1) rfl)) (by rw[show 0+((j+1:Nat):Int).toNat*1=j+1 from by omega];exact I7 m r _ _ (hget _ (by omega)))
   refine J.q λ_=>?_;refine J.vT (iI (m.getD j 0)) rfl rfl (λhg a w he hC=>?_) ?_
   ·exact i7 tk rfl rfl he hg rfl rfl (hC rfl _ (f9 (i:=1) rfl)) (by rw[show 0+(((j+1:Nat):Int)-1).toNat*1=j from by omega];exact I7 m r _ _ (hget _ (by omega)))
   refine J.q λ_=>?_;refine J.call hX (by kernel_rfl) (b8g (m.getD (j+1) 0) (m.getD j 0)) [] 0 rfl rfl rfl rfl (by(repeat' (first | exact Conj.nil | refine Conj.cons ?_ ?_ | omega | exact hq0 | (simpa using hq0) | (exactλh=>h) | exact rfl | (intro hq;have hq0:=hq;try simp only[Bool.and_eq_true,Bool.or_eq_true,decide_eq_true_eq,Bool.not_eq_true',decide_eq_false_iff_not]at hq) | (simp;done) | (simp;omega) | decide))) rfl rfl (λ_=>rfl) ?_;refine cpq ⟨_,rfl,⟨rfl,trivial⟩,?_⟩;refine J.qd (λ_ h3=>?_) λ_ h3=>?_
   ·simp only[Bool.true_and,decide_eq_true_eq]at h3;refine J.pq (.take true 0 (.take true 1 (.take true 2 (.take true 3 (.take true 4 (.take true 5 (.take true 6 (.take true 7 (.take true 8 (.take true 10 (.take true 11 (.take true 12 (.alt false 9 ((.of [54,56,62,64,71])) (.alt false 13 ((.of [38,56,62,64,71])) .non)))))))))))))) [16,17] [] λ_ _=>?_;refine J.alts ?_ ?_
    ·refine J.v (iI (m.getD j 0)) rfl rfl (λhg a w he hs=>?_) ?_
     ·exact i7 tk rfl rfl he hg rfl rfl (hs.get (i:=1) rfl) (by rw[show 0+(((j+1:Nat):Int)-1).toNat*1=j from by omega];exact I7 m r _ _ (hget _ (by omega)))
     refine J.q λ_=>?_;refine J.v (iI (m.getD (j+1) 0)) rfl rfl (λhg a w he hs=>?_) ?_
     ·exact i7 tk rfl rfl he hg rfl rfl (hs.get (i:=1) rfl) (by rw[show 0+((j+1:Nat):Int).toNat*1=j+1 from by omega];exact I7 m r _ _ (hget _ (by omega)))
     refine J.q λ_=>?_;refine J.s1 1 (f6 (m.set (j+1) (m.getD j 0))++r) ?_ ?_ ?_
     ·rw[List.length_append,o0];show 0+((j+1:Nat):Int).toNat*1<_;omega
     ·rw[show 0+((j+1:Nat):Int).toNat*1=j+1 from by omega];exact R2 m r (j+1) _ (by omega)
     refine J.q λ_=>?_;refine J.s1 1 (f6 (a3z m (j+1))++r) ?_ ?_ ?_
     ·rw[List.length_append,o0,List.length_set];show 0+(((j+1:Nat):Int)-1).toNat*1<_;omega
     ·rw[show 0+(((j+1:Nat):Int)-1).toNat*1=j from by omega];exact R2 _ r j _ (by rw[List.length_set];omega)
     refine J.q λ_=>?_;rw[show((j+1:Nat):Int)-1=(j:Int)from by omega];refine J.q λ_=>?_;refine J.n ((j,a3z m (j+1))) (⟨by dsimp only;omega,by rw[T8];exact hI.2.1,by rw[<- hI.2.2];exact(if_pos h3).symm⟩) (by dsimp only;omega) [0,1]
    ·refine J.v (iI (m.getD (j+1) 0)) rfl rfl (λhg a w he hs=>?_) ?_
     ·exact i7 tk rfl rfl he hg rfl rfl (hs.get (i:=1) rfl) (by rw[show 0+((j+1:Nat):Int).toNat*1=j+1 from by omega];exact I7 m r _ _ (hget _ (by omega)))
     refine J.q λ_=>?_;refine J.v (iI (m.getD j 0)) rfl rfl (λhg a w he hs=>?_) ?_
     ·exact i7 tk rfl rfl he hg rfl rfl (hs.get (i:=1) rfl) (by rw[show 0+(((j+1:Nat):Int)-1).toNat*1=j from by omega];exact I7 m r _ _ (hget _ (by omega)))
     refine J.q λ_=>?_;refine J.s1 1 (f6 (m.set (j+1) (m.getD j 0))++r) ?_ ?_ ?_
     ·rw[List.length_append,o0];show 0+((j+1:Nat):Int).toNat*1<_;omega
     ·rw[show 0+((j+1:Nat):Int).toNat*1=j+1 from by omega];exact R2 m r (j+1) _ (by omega)
     refine J.q λ_=>?_;refine J.s1 1 (f6 (a3z m (j+1))++r) ?_ ?_ ?_
     ·rw[List.length_append,o0,List.length_set];show 0+(((j+1:Nat):Int)-1).toNat*1<_;omega
     ·rw[show 0+(((j+1:Nat):Int)-1).toNat*1=j from by omega];exact R2 _ r j _ (by rw[List.length_set];omega)
     refine J.q λ_=>?_;rw[show((j+1:Nat):Int)-1=(j:Int)from by omega];refine J.q λ_=>?_;refine J.n ((j,a3z m (j+1))) (⟨by dsimp only;omega,by rw[T8];exact hI.2.1,by rw[<- hI.2.2];exact(if_pos h3).symm⟩) (by dsimp only;omega) [0,1]
   ·simp only[Bool.true_and,decide_eq_false_iff_not]at h3;have hm:m=G9 l (i+1-1):=by rw[show i+1-1=i from rfl,<- hI.2.2];exact(if_neg h3).symm
    rw[hm];refine J.q λ_=>?_;refine J.n (i+1) (⟨by omega,by omega⟩) (by omega) [0,1]
 ·simp only[decide_eq_false_iff_not,Int.ofNat_lt]at h1;have hi:G9 l (i-1)=E9 l:=by
   rw[E9,hl,show i-1=n-1 from by omega]
  rw[hi];refine J.q λ_=>?_;refine J.f [1] ?_;exact⟨rfl,rfl⟩
theorem K5 (l:List Int):(E9 l).length=l.length:=Q5 l _
theorem b5W (g n cap:Nat) (l:List Int) (hl:l.length=n) (hn:n<=12) (r:List Value) (k:Nat):FP 169 [.slice (some ⟨g,0,none⟩) n cap,iI 0,iI n,iI k] [.pt g 3 (f6 l++r)]
  (Ps (.tuple #[]) [.pt g 3 (f6 (E9 l)++r)]):=by
 refine FE [2,0,0,0] Tryz.func169 λX F hX=>?_;refine J.q λ_=>?_;refine J.l (α:=Nat) (λy=>True) (λy=>[⟨0, .slice (some ⟨g,0,none⟩) n cap,2, .tt⟩,si 1 0,si 2 n,si 3 k]) [1] (λy=>[.pt g 3 (f6 l++r)]) (λy=>0) (0) (trivial) λy hI=>?_;refine J.qd (λ_ h1=>?_) λ_ h1=>?_
 ·refine J.q λ_=>?_;rw[show(n:Int)-0=n from by omega]at*;refine J.qp (b6v g n cap l hl (by omega) r) [1] λ_=>?_;exact J.qx [1]
 ·simp only[decide_eq_false_iff_not]at h1;omega
theorem b3r (d:Value) (k:Nat):FP 169 [d,iI 0,iI 0,iI k] [] (Ps (.tuple #[]) []):=by
 have h0:FP 220 [d,iI 0,iI 0] [] (Ps (.tuple #[]) []):=by
  refine FE [0,0,0] Tryz.func220 λX F hX=>?_;refine J.q λ_=>?_;refine J.l (α:=Nat) (λy=>True) (λy=>[si 6 (0+1),sv 0 d,si 1 0,si 2 0]) [] (λy=>[]) (λy=>0) (0) (trivial) λy hI=>?_;refine J.qd (λ_ h1=>?_) λ_ h1=>?_
  ·simp at h1
  ·refine J.q λ_=>?_;refine J.f [] ?_;exact⟨rfl,rfl⟩
 refine FE [0,0,0,0] Tryz.func169 λX F hX=>?_;refine J.q λ_=>?_;refine J.l (α:=Nat) (λy=>True) (λy=>[sv 0 d,si 1 0,si 2 0,si 3 k]) [] (λy=>[]) (λy=>0) (0) (trivial) λy hI=>?_;refine J.qd (λ_ h1=>?_) λ_ h1=>?_
 ·refine J.qp (h0) [] λ_=>?_;exact J.qx []
 ·simp at h1
theorem a3F (a:Option Nat) (n cap:Nat) (l:List Int) (hl:l.length=n) (hn:n<=12):FP 115 [slv a n cap] [c9 3 1 a n cap (f6 l)]
  (Ps (.tuple #[]) [c9 3 1 a n cap (f6 (E9 l))]):=by
 refine FE [0] Tryz.func115 λX F hX=>?_;refine J.qc (b7l n hn) [] λ_=>?_;rintro v As ⟨⟨k,hk,rfl⟩,rfl⟩;refine⟨_,rfl,trivial,?_⟩;refine J.q λ_=>?_;cases a with
 | none=>
  refine J.know (λh' s=>(s.get (i:=1) rfl).2.1) λhn0=>?_;subst hn0;have:l=[]:=List.eq_nil_of_length_eq_zero hl;subst this;refine J.qp (b3r (slv none 0 cap) k) [] λ_=>?_;refine J.q λ_=>?_;refine J.f [1] ?_;exact⟨rfl,rfl⟩
 | some g=>
  refine J.openOwn 1 rfl rfl (λ_=>rfl) λr q1 q2 q3 q4=>?_;refine J.qp (b5W g n cap l hl hn r k) [1] λ_=>?_;refine J.closeOwn (e:=3) (size:=1) (n:=n) (cap:=cap) (xs:=f6 (E9 l)) 1 rfl rfl (by rw[o0,K5 l,hl,Nat.mul_one]) q2 q3 (by rw[List.length_append,o0,K5 l];rw[o0]at q4;exact q4) (by rw[List.take_left' (by rw[o0,K5 l,hl,Nat.mul_one])]) rfl ?_;refine J.q λ_=>?_;refine J.f [1] ?_;exact⟨rfl,rfl⟩
def n8 (p:Int):List Int->List Int
 | []=>[]
 | x::r=>if x=p then n8 x r else x::n8 x r
def n4:List Int->List Int
 | []=>[]
 | x::r=>x::n8 x r
def CpI (l m:List Int) (k j:Nat):Prop:=m.length=l.length/\1<=k/\k+1<=j/\j<=l.length/\m.drop (j-1)=l.drop (j-1)/\m.take k++n8 (l.getD (j-1) 0) (l.drop j)=n4 l
theorem b8d {l:List Int} {k:Nat} (hk:1<=k) (hl:k<l.length) (h:l.take k++n8 (l.getD (k-1) 0) (l.drop k)=n4 l) (hne:l.getD k 0≠l.getD (k-1) 0):l.take (k+1)++n8 (l.getD k 0) (l.drop (k+1))=n4 l:=by
 have hx:l.getD k 0=l[k]:=by rw[List.getD_eq_getElem?_getD,List.getElem?_eq_getElem hl,Option.getD_some]
 rw[List.drop_eq_getElem_cons hl,n8,if_neg (by rw[<- hx];exact hne)]at h;rw[<- h,hx,List.take_add_one,List.getElem?_eq_getElem hl];simp only[Option.toList_some,List.append_assoc,List.singleton_append]
theorem CpI.start {l:List Int} {k:Nat} (hk:1<=k) (hl:k<l.length) (h:l.take k++n8 (l.getD (k-1) 0) (l.drop k)=n4 l) (he:l.getD k 0=l.getD (k-1) 0):CpI l l k (k+1):=by
 have hx:l.getD k 0=l[k]:=by rw[List.getD_eq_getElem?_getD,List.getElem?_eq_getElem hl,Option.getD_some]
 refine⟨rfl,hk,by omega,by omega,rfl,?_⟩;rw[List.drop_eq_getElem_cons hl,n8,if_pos (by rw[<- hx];exact he)]at h;rw[Nat.add_sub_cancel,hx];exact h
theorem CpI.get {l m:List Int} {k j:Nat} (h:CpI l m k j) (i:Nat) (hi:j-1<=i):m.getD i 0=l.getD i 0:=by
 have h5:=h.2.2.2.2.1;have e:m[i]? =l[i]?:=by
  have:=congrArg (λz=>z[i-(j-1)]?) h5;simp only[List.getElem?_drop]at this
  rwa [show j-1+(i-(j-1))=i from by omega]at this
 rw[List.getD_eq_getElem?_getD,e,List.getD_eq_getElem?_getD]
theorem CpI.skip {l m:List Int} {k j:Nat} (h:CpI l m k j) (hj:j<l.length) (he:l.getD j 0=l.getD (j-1) 0):CpI l m k (j+1):=by
 obtain⟨h1,h2,h3,h4,h5,h6⟩:=h;have hx:l.getD j 0=l[j]:=by rw[List.getD_eq_getElem?_getD,List.getElem?_eq_getElem hj,Option.getD_some]
 refine⟨h1,h2,by omega,by omega,?_,?_⟩
 ·have:=congrArg (List.drop 1) h5;rw[List.drop_drop,List.drop_drop]at this
  rwa [show j-1+1=j+1-1 from by omega]at this
 ·rw[List.drop_eq_getElem_cons hj,n8,if_pos (by rw[<- hx];exact he)]at h6;rw[Nat.add_sub_cancel,hx];exact h6
theorem CpI.keep {l m:List Int} {k j:Nat} (h:CpI l m k j) (hj:j<l.length) (he:l.getD j 0≠l.getD (j-1) 0):CpI l (m.set k (l.getD j 0)) (k+1) (j+1):=by
 obtain⟨h1,h2,h3,h4,h5,h6⟩:=h;have hx:l.getD j 0=l[j]:=by rw[List.getD_eq_getElem?_getD,List.getElem?_eq_getElem hj,Option.getD_some]
 refine⟨by simp[h1],by omega,by omega,by omega,?_,?_⟩
 ·rw[List.drop_set_of_lt (by omega)];have:=congrArg (List.drop 1) h5;rw[List.drop_drop,List.drop_drop]at this
  rwa [show j-1+1=j+1-1 from by omega]at this
 ·rw[List.drop_eq_getElem_cons hj,n8,if_neg (by rw[<- hx];exact he)]at h6;rw[Nat.add_sub_cancel,hx,<- h6,List.take_set,List.take_add_one,List.getElem?_eq_getElem (by omega),List.set_append_right _ _ (by simp;omega)];simp[List.length_take,Nat.min_eq_left (show k<=m.length by omega)]
theorem a4A {l:List Int} (h:l.length<2):n4 l=l:=by
 match l,h with
 | [],_=>rfl
 | [x],_=>rfl
theorem a5g (a:Option Nat) (n cap:Nat) (l:List Int) (hl:l.length=n) (hn:n<=4611686018427387904):FP 116 [slv a n cap] [c9 3 1 a n cap (f6 l)]
  (λv As=>∃l',l'=n4 l/\v=slv a l'.length cap/\As=[c9 3 1 a l'.length cap (f6 l')]):=by
 refine FE [0] Tryz.func116 λX F hX=>?_;refine J.qd (λ_ h0=>?_) λ_ h0=>?_
 ·simp only[decide_eq_true_eq]at h0;refine J.qr [1] λ_=>?_;have hs:n4 l=l:=a4A (by omega);exact⟨l,hs.symm,by rw[hl],by rw[hl];rfl⟩
 simp only[decide_eq_false_iff_not]at h0;cases a with
 | none=>
  refine J.know (λh' s=>(s.get (i:=1) rfl).2.1) λhn0=>?_;omega
 | some g=>
  refine J.openOwn 1 rfl rfl (λ_=>rfl) λr q1 q2 q3 q4=>?_;refine J.q λ_=>?_;refine J.l (α:=Nat) (λk=>1<=k/\k<=n/\l.take k++n8 (l.getD (k-1) 0) (l.drop k)=n4 l) (λk=>[si 3 k,sv 0 (slv (some g) n cap)]) [] (λk=>[]) (λk=>n-k) (1) (⟨by omega,by omega,by cases l with | nil=>simp at hl;omega | cons x l=>rfl⟩) λk hI=>?_;have hget:∀e,e<n->(f6 l++r)[e]? =some (iI (l.getD e 0)):=λe he=>I7 l r e _ (by rw[List.getD_eq_getElem?_getD,List.getElem?_eq_getElem (by omega),Option.getD_some]);refine J.qd (λ_ h1=>?_) λ_ h1=>?_
  ·simp only[decide_eq_true_eq,Int.ofNat_lt]at h1;refine J.pq (.of [0,4,8,13,16,20,24,28,33,36]) [] [1] λ_ _=>?_;refine J.vT (iI (l.getD k 0)) rfl rfl (λhg a w he hC=>?_) ?_
   ·exact i7 tk rfl rfl he hg rfl rfl (hC rfl _ (f9 (i:=1) rfl)) (by rw[show 0+(k:Int).toNat*1=k from by omega];exact hget k h1)
   refine J.q λ_=>?_;refine J.vT (iI (l.getD (k-1) 0)) rfl rfl (λhg a w he hC=>?_) ?_
   ·exact i7 tk rfl rfl he hg rfl rfl (hC rfl _ (f9 (i:=1) rfl)) (by rw[show 0+((k:Int)-1).toNat*1=k-1 from by omega];exact hget (k-1) (by omega))
   refine J.qd (λ_ h2=>?_) λ_ h2=>?_
   ·simp only[beq_iff_eq]at h2;refine J.q λ_=>?_;rw[show(k:Int).toNat=k from Int.toNat_natCast k];refine J.q λ_=>?_;refine J.l (α:=(Nat×Nat×List Int)) (λz=>CpI l z.2.2 z.1 (k+z.2.1)/\1<=z.2.1) (λz=>[si 5 z.2.1,sv 4 (.slice (some ⟨g,0+k*1,none⟩) (n-k) (cap-k)),si 3 z.1,sv 0 (slv (some g) n cap)]) [1] (λz=>[.pt g 3 (f6 z.2.2++r)]) (λz=>n-z.2.1) ((k,1,l)) (⟨CpI.start hI.1 (by omega) hI.2.2 h2,Nat.le_refl _⟩) λz hI=>?_;obtain⟨kk,q,m⟩:=z;dsimp only at hI ⊢;obtain⟨hI,hq⟩:=hI;have hml:m.length=n:=hI.1.trans hl;have hc1:=hI.2.1;have hc2:=hI.2.2.1;have hc3:=hI.2.2.2.1;have hgm:∀e,e<n->(f6 m++r)[e]? =some (iI (m.getD e 0)):=λe he=>I7 m r e _ (by rw[List.getD_eq_getElem?_getD,List.getElem?_eq_getElem (by omega),Option.getD_some]);refine J.qd (λ_ h3=>?_) λ_ h3=>?_
    ·simp only[decide_eq_true_eq,Int.ofNat_lt]at h3;have hgj:=hI.get (k+q) (by omega);have hgj1:=hI.get (k+q-1) (by omega);have h3':k+q<n:=by omega
     refine J.pq (.of [0,4,8,13,16,20,24,28,33,36]) [] [1] λ_ _=>?_;refine J.vT (iI (m.getD (k+q) 0)) rfl rfl (λhg a w he hC=>?_) ?_
     ·exact i7 tk rfl rfl he hg rfl rfl (hC rfl _ (f9 (i:=1) rfl)) (by rw[show 0+k*1+(q:Int).toNat*1=k+q from by omega];exact hgm _ h3')
     refine J.q λ_=>?_;refine J.vT (iI (m.getD (k+q-1) 0)) rfl rfl (λhg a w he hC=>?_) ?_
     ·exact i7 tk rfl rfl he hg rfl rfl (hC rfl _ (f9 (i:=1) rfl)) (by rw[show 0+k*1+((q:Int)-1).toNat*1=k+q-1 from by omega];exact hgm _ (by omega))
     refine J.qd (λ_ h4=>?_) λ_ h4=>?_
     ·simp only[bne_iff_ne,ne_eq,hgj,hgj1]at h4;refine J.q λ_=>?_;refine J.v (iI (m.getD (k+q) 0)) rfl rfl (λhg a w he hw=>?_) ?_
      ·exact i7 tk rfl rfl he rfl rfl rfl (hw.get (i:=1) rfl) (by rw[show 0+k*1+(q:Int).toNat*1=k+q from by omega];exact hgm _ h3')
      refine J.q λ_=>?_;refine J.s1 1 (f6 (m.set kk (l.getD (k+q) 0))++r) ?_ ?_ ?_
      ·rw[List.length_append,o0];show 0+(kk:Int).toNat*1<_;omega
      ·rw[show 0+(kk:Int).toNat*1=kk from by omega,hgj];exact R2 m r kk _ (by omega)
      refine J.q λ_=>?_;refine J.n ((kk+1,q+1,m.set kk (l.getD (k+q) 0))) (⟨hI.keep (by omega) h4,by dsimp only;omega⟩) (by dsimp only;omega) [0,1]
     ·simp only[bne_eq_false_iff_eq,hgj,hgj1]at h4;refine J.q λ_=>?_;refine J.n ((kk,q+1,m)) (⟨hI.skip (by omega) h4,by dsimp only;omega⟩) (by dsimp only;omega) [0,1]
    ·simp only[decide_eq_false_iff_not,Int.ofNat_lt]at h3;have hj:k+q=n:=by omega
     have hfin:m.take kk=n4 l:=by
      have h6:=hI.2.2.2.2.2;rw[List.drop_of_length_le (by omega)]at h6;simpa[n8]using h6
     refine J.q λ_=>?_;refine J.clear hX tk 1 rfl rfl rfl rfl rfl rfl rfl rfl rfl rfl rfl ?_ (λ_=>rfl) (λ_=>rfl) λcs' z1 z2=>⟨trivial,?_⟩
     ·rw[List.length_append,o0];rw[o0]at q4;show 0+(kk:Int).toNat*1+(n-(kk:Int).toNat)*1<=_;omega
     have hklen:(n4 l).length=kk:=by rw[<- hfin,List.length_take];omega
     refine J.closeOwn (e:=3) (size:=1) (n:=kk) (cap:=cap) (xs:=f6 (n4 l)) 1 rfl rfl (by rw[o0,hklen,Nat.mul_one]) (by omega) q3 (by rw[z1,List.length_append,o0,hml];rw[o0,hl]at q4;exact q4) ?_ rfl ?_
     ·have z3:(0+(kk:Int).toNat*1)=kk:=by omega
      rw[z3]at z2;rw[Nat.mul_one,z2,List.take_append_of_le_length (by rw[o0];omega),<- hfin,f6,f6,List.map_take]
     refine J.qr [1] λ_=>?_;exact⟨_,rfl,by rw[hklen];rfl,by rw[hklen];rfl⟩
   ·simp only[beq_eq_false_iff_ne,ne_eq]at h2;refine J.q λ_=>?_;refine J.nx (k+1) (⟨by omega,by omega,by rw[Nat.add_sub_cancel];exact b8d hI.1 (by omega) hI.2.2 h2⟩) (by omega) (λ_ s=>s)
  ·simp only[decide_eq_false_iff_not,Int.ofNat_lt]at h1;obtain rfl:k=n:=by omega
   have hs:n4 l=l:=by
    have:=hI.2.2;rw[List.take_of_length_le (by omega),List.drop_of_length_le (by omega)]at this;simpa[n8]using this.symm
   refine J.closeOwn (e:=3) (size:=1) (n:=k) (cap:=cap) (xs:=f6 l) 1 rfl rfl q1 q2 q3 (by rw[List.length_append];exact q4) (by rw[List.take_left' q1]) rfl ?_;refine J.qr [1] λ_=>?_;exact⟨l,hs.symm,by rw[hl],by rw[hl];rfl⟩
def En.zero:En:=⟨0,0,0,zeros16⟩
def Sh.en (s:Sh):En:=⟨s.lpn,s.seq,s.role,s.data⟩
namespace W
def alien (p s:Sh):Bool:=s.kind !=1|| !S.may s||s.block !=p.block||s.row !=p.row||s.mask !=p.mask
def backS (p:Sh) (l:List Sh):En:=
 let x:=over (l++[p])
 ⟨(x.2.toNat/1099511627776 % 65536:Nat),(x.2.toNat % 1099511627776:Nat),(x.2.toNat/72057594037927936:Nat),x.1⟩
def backB (p:Sh) (l:List Sh):Bool:=p.kind==2&&S.may p&& !l.any (alien p)&&decide ((l.length:Int)=G.slots p.mask-1)&&ok p.block p.row p.mask (backS p l)
def back (p:Sh) (l:List Sh):En:=if backB p l then backS p l else En.zero
end W
structure Fd where
 slots:List Sh
 good:List Bool
 parity:Sh
 whole:Bool
structure Fnd where
 en:En
 block:Int
 row:Int
 slot:Int
 mask:Int
 whole:Bool
 mended:Bool
namespace M
def maskOf (x:Sh×Int):Option Int:=if x.2=1 then some x.1.mask else none
def masks (N:Nand) (b r:Int):List Int:=n4 (E9 ((rowN N b r N.dies).filterMap maskOf))
end M
namespace R
def job (b r m:Int) (l:List En):List (Int×Sh):=(List.range l.length).map (λk=>(G.die m b r (k:Nat),W.sh b r m (l.getD k En.zero)))++[(G.parity m b r,W.parS b r m l)]
def go (b r:Int):List (Int×Sh)->Nand->Int->Nand×Int×Int
 | [],N,f=>(N,f,if f=0 then 0 else 7)
 | (d,s)::q,N,f=>
  if N.progE d b r=0 then go b r q (N.progN d b r (J4 s)) f
  else if N.progE d b r=9 then(N.progN d b r (J4 s),f,9)
  else go b r q (N.progN d b r (J4 s)) (L.with_ f d)
def write (N:Nand) (b r m:Int) (l:List En):Nand×Int×Int:=if W.parB b r m l then go b r (job b r m l) N 0 else(N,0,1)
def one (N:Nand) (b r m d:Int):Sh×Bool:=((M.look N d b r).1,(M.look N d b r).2==1&&(M.look N d b r).1.mask==m)
def ones (N:Nand) (b r m:Int) (k:Nat):List (Sh×Bool):=(List.range k).map λi:Nat=>one N b r m (G.die m b r i)
def look (N:Nand) (b r m:Int):Fd:=⟨(ones N b r m (G.slots m).toNat).map (·.1),(ones N b r m (G.slots m).toNat).map (·.2),(one N b r m (G.parity m b r)).1,(one N b r m (G.parity m b r)).2⟩
def rest (f:Fd) (k:Nat):Bool:=(List.range f.slots.length).all λi=>i==k||f.good.getD i false
def mendB (f:Fd) (k:Nat):Bool:=rest f k&&f.whole&&W.backB f.parity (f.slots.eraseIdx k)
def mend (f:Fd) (k:Nat):En:=if rest f k&&f.whole then W.back f.parity (f.slots.eraseIdx k)else En.zero
def read (N:Nand) (b r s m:Int):En×Int:=
 if G.die m b r s<0\/C7 N.dies N.blocks N.pages 0 b r=false then(En.zero,3)
 else if N.off then(En.zero,9)
 else if(look N b r m).good.getD s.toNat false then(((look N b r m).slots.getD s.toNat Sh.zero).en,0)
 else if mendB (look N b r m) s.toNat then(mend (look N b r m) s.toNat,0)else(En.zero,10)
def enAt (f:Fd) (k:Nat):En:=if f.good.getD k false then(f.slots.getD k Sh.zero).en else mend f k
def okAt (f:Fd) (k:Nat):Bool:=f.good.getD k false||mendB f k
def fnd (f:Fd) (b r m:Int) (k:Nat):Option Fnd:=if okAt f k&&(enAt f k).role !=3 then some ⟨enAt f k,b,r,k,m,f.whole,!(f.good.getD k false)⟩else none
def allM (N:Nand) (b r m:Int):List Fnd:=(List.range (look N b r m).slots.length).filterMap (fnd (look N b r m) b r m)
def all (N:Nand) (b r:Int):List Fnd:=(M.masks N b r).flatMap (allM N b r)
end R
theorem D1 (N:Nand) (b r m:Int):(R.look N b r m).slots.length=(G.slots m).toNat/\(R.look N b r m).good.length=(G.slots m).toNat:=by simp[R.look,R.ones]
theorem a5D {N:Nand} (hN:N.Ok) (x y z:Int):(M.look N x y z).1.data.length=16:=by
 have hz:Sh.zero.data.length=16:=rfl;unfold M.look;dsimp only;split
 ·split
  ·exact hz
  ·exact a8r _ (a5t hN x y z)
 ·split
  ·exact hz
  ·split<;>exact hz
def mk0 (N:Nand) (b r:Int) (k:Nat):List Int:=((M.rowN N b r N.dies).take k).filterMap M.maskOf
theorem b0d (N:Nand) (b r:Int) (n k:Nat) (h:k<n):(M.rowN N b r n)[k]? =some (M.look N (k:Nat) b r):=by simp[M.rowN,h]
theorem a7Y (N:Nand) (b r:Int) (k:Nat) (h:k<N.dies):mk0 N b r (k+1)=mk0 N b r k++(M.maskOf (M.look N (k:Nat) b r)).toList:=by
 unfold mk0;rw[List.take_add_one,b0d N b r _ k h,List.filterMap_append];congr 1
theorem b6h (N:Nand) (b r:Int) (k:Nat):(mk0 N b r k).length<=k:=by
 refine Nat.le_trans (List.length_filterMap_le _ _) ?_;rw[List.length_take];omega
theorem K7 {l:List Int} {k:Nat} {x:Int} (h:l[k]? =some x):(f6 l)[k]? =some (iI x):=by simp[f6,h]
theorem X8 {l:List Sh} {k:Nat} {x:Sh} (h:l[k]? =some x):((m9 l).drop (k*23)).take 23=shL x:=by
 have:=a0G l [] k x h;rwa [List.append_nil]at this
theorem b0q (p:Nat) (N:Nand) (hN:N.Ok) (hR:N.Room) (b r:Int):FP 159 [pp p,iI b,iI r] [i9 p N]
  (λv As=>∃a c,v=slv a (M.masks N b r).length c/\As=[i9 p N,c9 3 1 a (M.masks N b r).length c (f6 (M.masks N b r))]):=by
 have hbd:=hN.bd;refine FE [2,0,0] Tryz.func159 λX F hX=>?_;refine J.qc (b7h p N hN hR b r) [1] λ_=>?_;rintro v As ⟨a1,c1,a2,c2,rfl,rfl⟩;refine⟨_,rfl,trivial,?_⟩;refine J.turn1 [] rfl (As:=[c9 3 1 none 0 0 (f6 (mk0 N b r 0))]) (λh s=>Sep.one ⟨rfl,rfl,rfl⟩) rfl ?_;refine J.q λ_=>?_;refine J.l (α:=(Nat×Option Nat×Nat)) (λz=>z.1<=N.dies) (λz=>[si 21 z.1,si 20 N.dies,sv 19 (slv a1 N.dies c1),sv 9 (slv a2 N.dies c2),sv 7 (slv z.2.1 (mk0 N b r z.1).length z.2.2)]) [4] (λz=>[c9 3 1 z.2.1 (mk0 N b r z.1).length z.2.2 (f6 (mk0 N b r z.1))]) (λz=>N.dies-z.1) ((0,none,0)) (Nat.zero_le _) λz hI=>?_;obtain⟨k,a3,c3⟩:=z;dsimp only at hI ⊢;have hml:=b6h N b r k;refine J.qd (λ_ h1=>?_) λ_ h1=>?_
 ·simp only[decide_eq_true_eq,Int.ofNat_lt]at h1;refine J.know (λh' s=>j4 (c:=(a1,c1)) (by omega) (s.get (i:=2) rfl)) λhg=>?_;obtain⟨g1,rfl⟩:=hg;refine J.know (λh' s=>j4 (c:=(a2,c2)) (by omega) (s.get (i:=3) rfl)) λhg=>?_;obtain⟨g2,rfl⟩:=hg;have hat:=b0d N b r _ k h1;refine J.q λ_=>?_;refine J.v (shV (M.look N (k:Nat) b r).1) rfl rfl (λhg a w he hs=>?_) ?_
  ·exact p6 tk rfl rfl he rfl rfl rfl (hs.get (i:=2) rfl) (by rw[show 0+(k:Int).toNat*23=k*23 from by omega];exact X8 (by rw[List.getElem?_map,hat];rfl)) rfl
  refine J.q λ_=>?_;refine J.v (iI (M.look N (k:Nat) b r).2) rfl rfl (λhg a w he hs=>?_) ?_
  ·exact l8 tk rfl rfl he rfl rfl rfl (hs.get (i:=3) rfl) (by rw[show 0+(k:Int).toNat*1=k from by omega];exact K7 (by rw[List.getElem?_map,hat];rfl))
  refine J.qd (λ_ h2=>?_) λ_ h2=>?_
  ·simp only[beq_iff_eq]at h2;have hs:mk0 N b r (k+1)=mk0 N b r k++[(M.look N (k:Nat) b r).1.mask]:=by rw[a7Y N b r k h1,M.maskOf,if_pos h2];rfl
   have hl:(mk0 N b r k).length+1=(mk0 N b r (k+1)).length:=by rw[hs];simp
   refine J.q λ_=>?_;refine J.append hX tk 4 6 0 rfl rfl rfl rfl rfl rfl rfl rfl rfl rfl rfl rfl rfl rfl rfl rfl ?_ ?_ (λ_=>rfl) λa4 c4=>⟨_,(congrArg (λz=>p9 _ 4 (c9 _ _ _ _ _ z)) ((M5 _ _).symm.trans (congrArg f6 hs.symm))).trans rfl,trivial,?_⟩
   ·simp only[maxLen];omega
   ·omega
   rw[hl];refine J.q λ_=>?_;refine J.n ((k+1,a4,c4)) (by dsimp only;omega) (by dsimp only;omega) [0,1,2,3,4]
  ·simp only[beq_eq_false_iff_ne,ne_eq]at h2;have hs:mk0 N b r k=mk0 N b r (k+1):=by rw[a7Y N b r k h1,M.maskOf,if_neg h2];simp
   rw[hs];refine J.q λ_=>?_;refine J.n ((k+1,a3,c3)) (by dsimp only;omega) (by dsimp only;omega) [0,1,2,3,4]
 ·simp only[decide_eq_false_iff_not,Int.ofNat_lt]at h1;obtain rfl:k=N.dies:=by omega
  have hall:mk0 N b r N.dies=(M.rowN N b r N.dies).filterMap M.maskOf:=by
   unfold mk0;rw[List.take_of_length_le (by simp[M.rowN])]
  refine J.qp (a3F a3 (mk0 N b r N.dies).length c3 (mk0 N b r N.dies) rfl (by omega)) [4] λ_=>?_;refine J.q λ_=>?_;refine J.ca hX (by kernel_rfl) (a5g a3 (mk0 N b r N.dies).length c3 (E9 (mk0 N b r N.dies)) (K5 _) (by omega)) [4] 0 rfl rfl rfl rfl rfl rfl (λ_=>rfl) ?_;rintro v As ⟨l',hl',rfl,rfl⟩;refine⟨_,rfl,trivial,?_⟩;have he:l'=M.masks N b r:=by rw[hl',hall];rfl
  subst he;refine J.qr [1,4] λ_=>?_;exact⟨a3,c3,rfl,rfl⟩
theorem gD {l:List Int} {i:Nat} (h:i<l.length):l[i]? =some (l.getD i 0):=by rw[List.getD_eq_getElem?_getD,List.getElem?_eq_getElem h,Option.getD_some]
theorem a1g (l:List Int) {j:Nat} (h1:1<=j) (h:j<l.length) (i:Nat):(a3z l j).getD i 0=if i=j-1 then l.getD j 0 else if i=j then l.getD (j-1) 0 else l.getD i 0:=by
 unfold a3z;rw[List.getD_eq_getElem?_getD,List.getElem?_set,List.length_set]
 by_cases e:j-1=i
 ·rw[if_pos e,if_pos (by omega),if_pos e.symm,Option.getD_some]
 ·rw[if_neg e,if_neg (by omega),List.getElem?_set]
  by_cases e2:j=i
  ·rw[if_pos e2,if_pos (by omega),if_pos e2.symm,Option.getD_some]
  ·rw[if_neg e2,if_neg (by omega),<- List.getD_eq_getElem?_getD]
theorem b3M {l:List Int} {x:Int}:x∈l↔∃i,i<l.length/\l.getD i 0=x:=by
 constructor
 ·intro h;obtain⟨i,hi,e⟩:=List.getElem_of_mem h;exact⟨i,hi,by rw[List.getD_eq_getElem?_getD,List.getElem?_eq_getElem hi,Option.getD_some];exact e⟩
 ·rintro⟨i,hi,e⟩;exact List.mem_of_getElem? (by rw[gD hi,e])
theorem b5E (l:List Int) {j:Nat} (h1:1<=j) (h:j<l.length) (x:Int):x∈a3z l j↔x∈l:=by
 rw[b3M,b3M,T8];constructor
 ·rintro⟨i,hi,e⟩;rw[a1g l h1 h]at e;split at e
  ·exact⟨j,h,e⟩
  ·split at e
   ·exact⟨j-1,by omega,e⟩
   ·exact⟨i,hi,e⟩
 ·rintro⟨i,hi,e⟩
  by_cases e1:i=j
  ·exact⟨j-1,by omega,by rw[a1g l h1 h,if_pos rfl,<- e1,e]⟩
  ·by_cases e2:i=j-1
   ·exact⟨j,h,by rw[a1g l h1 h,if_neg (by omega),if_pos rfl,<- e2,e]⟩
   ·exact⟨i,hi,by rw[a1g l h1 h,if_neg e2,if_neg e1,e]⟩
theorem a7F:∀(j:Nat) (l:List Int) (x:Int),j<l.length->(x∈a0b j l↔x∈l)
 | 0,_,_,_=>Iff.rfl
 | j+1,l,x,h=>by
  unfold a0b;split
  ·rw[a7F j _ x (by rw[T8];omega),b5E l (by omega) h]
  ·exact Iff.rfl
theorem a5l:∀(j n:Nat) (l:List Int),j<=n->n<l.length->(∀a b,a<b->b<=n->a≠j->b≠j->l.getD a 0<=l.getD b 0)->(∀b,j<b->b<=n->l.getD j 0<=l.getD b 0)->∀a b,a<b->b<=n->(a0b j l).getD a 0<=(a0b j l).getD b 0
 | 0,n,l,_,_,hs,hu=>λa b hab hb=>by
  unfold a0b
  by_cases e:a=0
  ·subst e;exact hu b hab hb
  ·exact hs a b hab hb e (by omega)
 | j+1,n,l,hj,hn,hs,hu=>by
  unfold a0b;split
  ·rename_i hlt;have g:=a1g l (j:=j+1) (by omega) (by omega);simp only[Nat.add_sub_cancel]at g;refine a5l j n (a3z l (j+1)) (by omega) (by rw[T8];exact hn) (λa b hab hb ha hbj=>?_) (λb hjb hb=>?_)
   ·rw[g,g,if_neg ha,if_neg hbj]
    by_cases e1:a=j+1
    ·rw[if_pos e1,if_neg (by omega)];exact hs j b (by omega) hb (by omega) (by omega)
    ·rw[if_neg e1]
     by_cases e2:b=j+1
     ·rw[if_pos e2];exact hs a j (by omega) (by omega) e1 (by omega)
     ·rw[if_neg e2];exact hs a b hab hb e1 e2
   ·rw[g,g,if_pos rfl,if_neg (by omega)]
    by_cases e2:b=j+1
    ·rw[if_pos e2];omega
    ·rw[if_neg e2];exact hu b (by omega) hb
  ·rename_i hge;intro a b hab hb
   by_cases e1:a=j+1
   ·subst e1;exact hu b hab hb
   ·by_cases e2:b=j+1
    ·subst e2
     by_cases e3:a=j
     ·subst e3;omega
     ·have:=hs a j (by omega) (by omega) e1 (by omega);omega
    ·exact hs a b hab hb e1 e2
theorem a5N (l:List Int) (x:Int):∀k,k<l.length->(x∈G9 l k↔x∈l)
 | 0,_=>Iff.rfl
 | k+1,h=>by
  unfold G9;rw[a7F _ _ x (by rw[Q5];exact h)];exact a5N l x k (by omega)
theorem a4o (l:List Int):∀k,k<l.length->∀a b,a<b->b<=k->(G9 l k).getD a 0<=(G9 l k).getD b 0
 | 0,_=>λa b hab hb=>by omega
 | k+1,h=>by
  unfold G9;have ih:=a4o l k (by omega);exact a5l (k+1) (k+1) (G9 l k) (Nat.le_refl _) (by rw[Q5];exact h) (λa b hab hb ha hbk=>ih a b hab (by omega)) (λb hb1 hb2=>by omega)
theorem a9t (l:List Int) (x:Int):x∈E9 l↔x∈l:=by
 unfold E9;cases l with
 | nil=>exact Iff.rfl
 | cons y l=>exact a5N (y::l) x _ (by simp)
theorem a8l (l:List Int):(E9 l).Pairwise (· <= ·):=by
 rw[List.pairwise_iff_getElem];intro i j hi hj hij;have hl:(E9 l).length=l.length:=K5 l;have h:=a4o l (l.length-1) (by omega) i j hij (by omega);have h1:(E9 l).getD i 0<=(E9 l).getD j 0:=h
 rwa [List.getD_eq_getElem?_getD,List.getD_eq_getElem?_getD,List.getElem?_eq_getElem hi,List.getElem?_eq_getElem hj]at h1
theorem a0W:∀(l:List Int) (p:Int),(p::l).Pairwise (· <= ·)->(p::n8 p l).Pairwise (· < ·)/\∀y,y∈p::n8 p l↔y∈p::l
 | [],p,_=>⟨by simp[n8],λy=>by simp[n8]⟩
 | x::l,p,h=>by
  have hpx:=List.pairwise_cons.1 h;have hx:=List.pairwise_cons.1 hpx.2;unfold n8
  by_cases e:x=p
  ·rw[if_pos e,e];obtain⟨s1,s2⟩:=a0W l p (List.pairwise_cons.2 ⟨λy hy=>hpx.1 y (by simp[hy]),hx.2⟩);refine⟨s1,λy=>?_⟩;rw[s2 y];simp
  ·rw[if_neg e];obtain⟨s1,s2⟩:=a0W l x hpx.2;have hlt:p<x:=by have:=hpx.1 x (by simp);omega
   refine⟨List.pairwise_cons.2 ⟨λy hy=>?_,s1⟩,λy=>?_⟩
   ·have hy2:=(s2 y).1 hy;rcases List.mem_cons.1 hy2 with e2 | e2
    ·omega
    ·have:=hx.1 y e2;omega
   ·have:=s2 y;simp only[List.mem_cons]at this ⊢;constructor
    ·rintro(h1 | h1)
     ·exact .inl h1
     ·exact .inr (this.1 h1)
    ·rintro(h1 | h1)
     ·exact .inl h1
     ·exact .inr (this.2 h1)
theorem a4z (l:List Int) (h:l.Pairwise (· <= ·)):(n4 l).Pairwise (· < ·)/\∀y,y∈n4 l↔y∈l:=by
 cases l with
 | nil=>exact⟨List.Pairwise.nil,λy=>Iff.rfl⟩
 | cons p l=>exact a0W l p h
end Go.Proofs.YtgkpkpbnonmopaaGreat
namespace Go.Proofs.YtgkpkpbnonmopaaGreat
structure AtV where
 block:Int
 row:Int
 slot:Int
 mask:Int
 seq:Int
 role:Int
 deriving DecidableEq
def AtV.zero:AtV:=⟨0,0,0,0,0,0⟩
structure Tb where
 logical:Int
 at_:List (Int×AtV)
 cnt:List (Int×Int)
 next:Int
namespace Tb
def look {α:Type}:List (Int×α)->Int->Option α
 | [],_=>none
 | x::l,k=>if k=x.1 then some x.2 else look l k
def put1 {α:Type}:List (Int×α)->Int->α->List (Int×α)
 | [],k,v=>[(k,v)]
 | x::l,k,v=>if k=x.1 then(k,v)::l else x::put1 l k v
def new (n:Int):Tb:=⟨min (max n 0) 65536,[],[],1⟩
def count (t:Tb) (b:Int):Int:=(look t.cnt b).getD 0
def ok (t:Tb) (e:En):Bool:=!(decide (e.lpn<0)||decide (e.lpn>=t.logical)||(e.role !=1&&e.role !=2&&e.role !=4))
def elder (t:Tb) (e:En):Bool:=match look t.at_ e.lpn with
 | some a=>decide (e.seq<a.seq)
 | none=>false
def cnt1 (t:Tb) (e:En):List (Int×Int):=match look t.at_ e.lpn with
 | some a=>put1 t.cnt a.block (t.count a.block-1)
 | none=>t.cnt
def cnt2 (t:Tb) (e:En) (b:Int):List (Int×Int):=put1 (cnt1 t e) b ((look (cnt1 t e) b).getD 0+1)
def putB (t:Tb) (e:En):Bool:=ok t e&& !elder t e
def put (t:Tb) (e:En) (b r s m:Int):Tb:=if putB t e then⟨t.logical,put1 t.at_ e.lpn ⟨b,r,s,m,e.seq,e.role⟩,cnt2 t e b,if e.seq>=t.next then e.seq+1 else t.next⟩else t
def inB (t:Tb) (b:Int) (i:Int):Bool:=match look t.at_ i with
 | some a=>a.block==b
 | none=>false
def inK (t:Tb) (b:Int) (k:Nat):List Int:=((List.range k).filter λi:Nat=>inB t b i).map λi:Nat=>(i:Int)
theorem inK_succ (t:Tb) (b:Int) (k:Nat):inK t b (k+1)=if inB t b k then inK t b k++[(k:Int)]else inK t b k:=by
 unfold inK;rw[List.range_succ,List.filter_append,List.map_append];cases h:inB t b k<;>simp[h]
theorem inK_len (t:Tb) (b:Int) (k:Nat):(inK t b k).length<=k:=by
 unfold inK;rw[List.length_map];exact Nat.le_trans (List.length_filter_le _ _) (by rw[List.length_range];exact Nat.le_refl _)
def ins (t:Tb) (b:Int):List Int:=if t.count b=0 then[]else inK t b t.logical.toNat
theorem look_put1 {α:Type} (k:Int) (v:α) (j:Int):∀l:List (Int×α),look (put1 l k v) j=if j=k then some v else look l j
 | []=>by simp only[put1,look]
 | x::l=>by
  simp only[put1]
  by_cases h:k=x.1
  ·rw[if_pos h];simp only[look]
   by_cases h2:j=k
   ·rw[if_pos h2,if_pos h2]
   ·rw[if_neg h2,if_neg h2,if_neg (λe=>h2 (e.trans h.symm))]
  ·rw[if_neg h];simp only[look]
   by_cases h2:j=x.1
   ·rw[if_pos h2,if_pos h2,if_neg (λe=>h (e.symm.trans h2))]
   ·rw[if_neg h2,if_neg h2,look_put1 k v j l]
end Tb
namespace V
def behind (a b:Fnd):Bool:=if a.en.seq≠b.en.seq then decide (a.en.seq<b.en.seq)else b.whole&& !a.whole
def topsStep (out:List Fnd) (f:Fnd):List Fnd:=match out with
 | []=>[f]
 | h::t=>if behind h f then[f]else if behind f h then h::t else h::t++[f]
def tops (l:List Fnd):List Fnd:=l.foldl topsStep []
def all (N:Nand):List Fnd:=(List.range N.blocks).flatMap λb=>(List.range N.pages).flatMap λr=>R.all N (b:Nat) (r:Nat)
def of (l:List Fnd) (k:Int):List Fnd:=l.filter λf=>f.en.lpn==k
def holds (l:List Fnd):List Int:=(tops (l.filter λf=>f.whole)).map (·.block)
def blankRow (N:Nand) (b r:Int):Bool:=(M.rowN N b r N.dies).all λx=>x.2==2||x.2==4
def last (N:Nand) (f:Fnd):Bool:=((List.range N.pages).all λr:Nat=>decide ((r:Int)<=f.row)||blankRow N f.block r)&&(M.look N (G.parity f.mask f.block f.row) f.block f.row).2 !=4
end V
end Go.Proofs.YtgkpkpbnonmopaaGreat
namespace Go.Proofs.YtgkpkpbnonmopaaGreat
open Go Go.RowKit
def kI (k:Int):Value:=iI k
theorem a2Z:KeyOk Tryz.prog 3 kI where
 now:=⟨_,Tryz.underlying3,λa b=> .inr rfl⟩
 eq:=λa b w=>by kernel_rfl
 check:=λe a w=>by kernel_rfl
 bits:=λa=>by simp[kI,Instr.sameBits]
theorem a1L:Tryz.prog.underlying 215=some (.map 3 138):=by kernel_rfl
theorem a3p:Tryz.prog.underlying 216=some (.map 3 3):=by kernel_rfl
def atL (a:AtV):List Value:=[iI a.block,iI a.row,iI a.slot,iI a.mask,iI a.seq,iI a.role]
def atV (a:AtV):Value:= .agg (atL a).toArray
def atM (l:List (Int×AtV)):List (Int×Value):=l.map λx=>(x.1,atV x.2)
def cnM (l:List (Int×Int)):List (Int×Value):=l.map λx=>(x.1,iI x.2)
def plL (b r s:Int):List Value:=[iI b,iI r,iI s]
def plV (b r s:Int):Value:= .agg (plL b r s).toArray
theorem a2o {α:Type} (f:α->Value) (k:Int):∀l:List (Int×α),y5 (l.map λx=>(x.1,f x.2)) k=(Tb.look l k).map f
 | []=>rfl
 | x::l=>by
  simp only[List.map_cons,y5,Tb.look];split
  ·rfl
  ·exact a2o f k l
theorem a4J {α:Type} (f:α->Value) (k:Int) (v:α):∀l:List (Int×α),O1 (l.map λx=>(x.1,f x.2)) k (f v)=(Tb.put1 l k v).map λx=>(x.1,f x.2)
 | []=>rfl
 | x::l=>by
  simp only[List.map_cons,O1,Tb.put1];split
  ·rfl
  ·rw[a4J f k v l];rfl
theorem a4M (l:List (Int×AtV)) (k:Int):y5 (atM l) k=(Tb.look l k).map atV:=a2o atV k l
theorem a1I (l:List (Int×Int)) (k:Int):y5 (cnM l) k=(Tb.look l k).map (Value.int .i64):=a2o (Value.int .i64) k l
theorem b0F (l:List (Int×AtV)) (k:Int) (v:AtV):O1 (atM l) k (atV v)=atM (Tb.put1 l k v):=a4J atV k v l
theorem a7n (l:List (Int×Int)) (k v:Int):O1 (cnM l) k (Value.int .i64 v)=cnM (Tb.put1 l k v):=a4J (Value.int .i64) k v l
theorem a2c (o:Option AtV):(o.map atV).getD (atV AtV.zero)=atV (o.getD AtV.zero):=by cases o<;>rfl
theorem W9 (o:Option Int):(o.map (Value.int .i64)).getD (Value.int .i64 0)=Value.int .i64 (o.getD 0):=by cases o<;>rfl
theorem a3Y {α β:Type} (o:Option α) (f:α->β):(o.map f).isSome=o.isSome:=by cases o<;>rfl
def TbP (q:Nat) (t:Tb) (x:Nat×Nat):List Atom:=[.pt q 218 [iI t.logical, .map (some x.1), .map (some x.2),iI t.next],B3 x.1 kI (atM t.at_),B3 x.2 kI (cnM t.cnt)]
def TbA (q:Nat) (t:Tb):Atom:=exA λx:Nat×Nat=>TbP q t x
theorem b2L (n:Int):(if(65536:Int)<if(0:Int)>n then 0 else n then 65536 else if(0:Int)>n then 0 else n)=min (max n 0) 65536:=by
 by_cases h:(0:Int)>n
 ·simp only[if_pos h];rw[if_neg (by omega)];omega
 ·simp only[if_neg h];split<;>omega
theorem a8V (n:Int):FP 109 [iI n] [] (λv As=>∃q,v=pp q/\As=[TbA q (Tb.new n)]):=by
 refine FE [0] Tryz.func109 λX F hX=>?_;refine J.q λbs=>?_;rw[b2L];refine J.turn1 [1] rfl (As:=[B3 (bs 0) kI (atM [])]) (λh s=>?_) rfl ?_
 ·refine⟨λ_=>0,λi A hA=>?_⟩;cases i with
  | zero=>simp at hA;subst hA;exact⟨#[],0,res_some.2 ⟨rfl,s.get (i:=0) rfl⟩,rfl,by simp,by simp⟩
  | succ k=>simp at hA
 refine J.turn1 [2] rfl (As:=[B3 (bs (0+1)) kI (cnM [])]) (λh s=>?_) rfl ?_
 ·refine⟨λ_=>0,λi A hA=>?_⟩;cases i with
  | zero=>simp at hA;subst hA;exact⟨#[],0,res_some.2 ⟨rfl,s.get (i:=0) rfl⟩,rfl,by simp,by simp⟩
  | succ k=>simp at hA
 refine J.close (f:=λx:Nat×Nat=>TbP (bs (0+1+1)) (Tb.new n) x) (bs 0,bs (0+1)) [3,1,2] rfl rfl rfl ?_;refine J.qr [3] λ_=>?_;exact⟨bs (0+1+1),rfl,rfl⟩
theorem a1R (q:Nat) (t:Tb) (k:Int):FP 83 [pp q,iI k] [TbA q t]
  (Ps (.tuple #[atV ((Tb.look t.at_ k).getD AtV.zero), .bool (Tb.look t.at_ k).isSome]) [TbA q t]):=by
 refine FE [2,0] Tryz.func83 λX F hX=>?_;refine J.o (α:=(Nat×Nat)) 1 λx=>?_;refine J.qF λ_=>?_;refine J.q λ_=>?_;refine J.v (.tuple #[atV ((Tb.look t.at_ k).getD AtV.zero), .bool (Tb.look t.at_ k).isSome]) rfl rfl (λhg a w he hs=>?_) ?_
 ·refine(l9 (key:=k) a2Z a1L (z:=atV AtV.zero) (λw=>by kernel_rfl) rfl rfl rfl rfl he rfl rfl (hs.get (i:=2) rfl)).trans ?_;simp only[a4M,a2c,a3Y]
 refine J.cl (λx:Nat×Nat=>TbP q t x) x [1,2,3] ?_;exact J.qx [1]
theorem b2M (q:Nat) (t:Tb):FP 253 [pp q] [TbA q t]
  (Ps (iI t.at_.length) [TbA q t]):=by
 refine FE [2] Tryz.func253 λX F hX=>?_;refine J.o (α:=(Nat×Nat)) 1 λx=>?_;refine J.qF λ_=>?_;refine J.q λ_=>?_;refine J.v (iI t.at_.length) rfl rfl (λhg a w he hs=>?_) ?_
 ·refine(a2D a1L rfl rfl he rfl (hs.get (i:=2) rfl)).trans ?_;rw[atM,List.length_map]
 refine J.cl (λx:Nat×Nat=>TbP q t x) x [1,2,3] ?_;exact J.qx [1]
theorem b5C (q:Nat) (t:Tb):FP 288 [pp q] [TbA q t]
  (Ps (iI t.next) [TbA q t]):=by
 refine FE [2] Tryz.func288 λX F hX=>?_;refine J.o (α:=(Nat×Nat)) 1 λx=>?_;refine J.qF λ_=>?_;refine J.q λ_=>?_;refine J.cl (λx:Nat×Nat=>TbP q t x) x [1,2,3] ?_;exact J.qx [1]
theorem H3 (q:Nat) (t:Tb) (k:Int):FP 131 [pp q,iI k] [TbA q t]
  (Ps (iI (t.count k)) [TbA q t]):=by
 refine FE [2,0] Tryz.func131 λX F hX=>?_;refine J.o (α:=(Nat×Nat)) 1 λx=>?_;refine J.qF λ_=>?_;refine J.q λ_=>?_;refine J.v (iI (t.count k)) rfl rfl (λhg a w he hs=>?_) ?_
 ·refine(l9 (key:=k) a2Z a3p (z:=iI 0) (λw=>by kernel_rfl) rfl rfl rfl rfl he rfl rfl (hs.get (i:=3) rfl)).trans ?_;simp only[a1I,W9];rfl
 refine J.cl (λx:Nat×Nat=>TbP q t x) x [1,2,3] ?_;exact J.qx [1]
theorem a3y (q:Nat) (t:Tb) (e:En) (b r s m:Int) (hs: -9223372036854775808<=e.seq/\e.seq<9223372036854775807) (hc:∀k,0<=Tb.count t k/\Tb.count t k<=1000000):FP 112 [pp q,enV e,plV b r s,iI m] [TbA q t]
  (Ps (.bool (Tb.putB t e)) [TbA q (Tb.put t e b r s m)]):=by
 refine FE [2,0,0,0] Tryz.func112 λX F hX=>?_;refine J.o (α:=(Nat×Nat)) 1 λx=>?_;refine J.pn 1 (.of [0,4,8,12,17,20,24,28,32,37,40,44,48,53,56,60,64,68,73,76,80,84,89,92,96,100,104,109,112,116,120]) [] [1,2,3,4,5] λ_ _=>?_;refine J.run hX tk 400 (λb16=>rfl) (λb16=>?_) (λb16=>?_)
 ·(repeat' (first | exact Conj.nil | refine Conj.cons ?_ ?_ | exact rfl | exact hq | (rw[hq];rfl) | (rw[(Bool.not_eq_true' _).mp hq]) | intro hq | omega | (simp;done) | (simp_all;done)))
 refine J.qd (λ_ h1=>?_) λ_ h1=>?_
 ·refine J.cl (λx:Nat×Nat=>TbP q t x) x [1,2,3] ?_;refine J.qr [1] λ_=>?_;have ho:Tb.ok t e=false:=by unfold Tb.ok;rw[Bool.not_eq_false'];exact h1
  have hp:Tb.putB t e=false:=by unfold Tb.putB;rw[ho];rfl
  exact⟨by rw[hp],by rw[Tb.put,if_neg (by rw[hp];simp)];rfl⟩
 have ho:Tb.ok t e=true:=by unfold Tb.ok;rw[Bool.not_eq_true'];exact h1
 refine J.pq (.of [0,4,8,13,16,21,25,28,32,36,42,46,48]) [12] [1,2,3,4,5] λ_ _=>?_;refine J.vT (.tuple #[atV ((Tb.look t.at_ e.lpn).getD AtV.zero), .bool (Tb.look t.at_ e.lpn).isSome]) rfl rfl (λ_ a w he hC=>?_) ?_
 ·refine(l9 (key:=e.lpn) a2Z a1L (z:=atV AtV.zero) (λw=>by kernel_rfl) rfl rfl rfl rfl he rfl rfl (hC rfl _ (f9 (i:=2) rfl))).trans ?_;simp only[a4M,a2c,a3Y]
 rcases hlk:Tb.look t.at_ e.lpn with _ | a
 ·have hel:Tb.elder t e=false:=by simp[Tb.elder,hlk]
  have hp:Tb.putB t e=true:=by rw[Tb.putB,ho,hel];rfl
  have hc1:Tb.cnt1 t e=t.cnt:=by simp[Tb.cnt1,hlk]
  refine J.q λbw=>?_;refine J.cF ?_;refine J.qF λ_=>?_;refine J.pq (.of [0,4,8,13,16,21,25,28,35]) [8] [1,2,3,4,5,6] λ_ _=>?_;refine J.vT (iI ((Tb.look (t.cnt) b).getD 0)) rfl rfl (λ_ a w he hC=>?_) ?_
  ·refine(l9 (key:=b) a2Z a3p (z:=iI 0) (λw=>by kernel_rfl) rfl rfl rfl rfl he rfl rfl (hC rfl _ (f9 (i:=3) rfl))).trans ?_;simp only[a1I,W9]
  have hb2: -1<=(Tb.look (t.cnt) b).getD 0/\(Tb.look (t.cnt) b).getD 0<=1000000:=⟨by have:=hc b;unfold Tb.count at this;omega,(hc b).2⟩;refine J.q λ_=>?_;refine J.mapUpdate hX a2Z a3p b 3 rfl rfl rfl rfl rfl rfl rfl rfl rfl rfl rfl rfl (λ_=>rfl) (by rw[a7n];rfl) ⟨trivial,?_⟩;refine J.pq (.of [0,4,8,13,16,21,25,28,32,37,40,45,48,55]) [13] [1,2,3,4,5,6] λ_ _=>?_;refine J.mapUpdate hX a2Z a1L e.lpn 2 rfl rfl rfl rfl rfl rfl rfl rfl rfl rfl rfl rfl (λ_=>rfl) (show _=some (_::_::B3 _ _ (O1 _ _ (atV ⟨b,r,s,m,e.seq,e.role⟩))::_)from rfl) ⟨trivial,?_⟩;rw[b0F];refine J.pq (.of [0,5,8,12,16,21,24]) [] [1,2,3,4,5,6] λ_ _=>?_;have hput:Tb.put t e b r s m=⟨t.logical,Tb.put1 t.at_ e.lpn ⟨b,r,s,m,e.seq,e.role⟩,Tb.put1 (t.cnt) b ((Tb.look (t.cnt) b).getD 0+1),if e.seq>=t.next then e.seq+1 else t.next⟩:=by
   rw[Tb.put,if_pos hp,Tb.cnt2,hc1]
  refine J.qd (λ_ h5=>?_) λ_ h5=>?_
  ·refine J.q λ_=>?_;refine J.cl (λx:Nat×Nat=>TbP q ⟨t.logical,Tb.put1 t.at_ e.lpn ⟨b,r,s,m,e.seq,e.role⟩,Tb.put1 (t.cnt) b ((Tb.look (t.cnt) b).getD 0+1),e.seq+1⟩ x) x [1,2,3] ?_;refine J.qr [1] λ_=>?_;exact⟨by rw[hp],by rw[hput,if_pos (by simpa only[decide_eq_true_eq,decide_eq_false_iff_not]using h5)];rfl⟩
  ·refine J.cl (λx:Nat×Nat=>TbP q ⟨t.logical,Tb.put1 t.at_ e.lpn ⟨b,r,s,m,e.seq,e.role⟩,Tb.put1 (t.cnt) b ((Tb.look (t.cnt) b).getD 0+1),t.next⟩ x) x [1,2,3] ?_;refine J.qr [1] λ_=>?_;exact⟨by rw[hp],by rw[hput,if_neg (by simpa only[decide_eq_true_eq,decide_eq_false_iff_not]using h5)];rfl⟩
 ·refine J.q λbw=>?_;refine J.cond rfl (λh2=>?_) (λh2=>?_)
  ·refine J.cl (λx:Nat×Nat=>TbP q t x) x [1,2,3] ?_;refine J.qr [1] λ_=>?_;have hel:Tb.elder t e=true:=by rw[Tb.elder,hlk];exact h2
   have hp:Tb.putB t e=false:=by rw[Tb.putB,ho,hel];rfl
   exact⟨by rw[hp],by rw[Tb.put,if_neg (by rw[hp];simp)];rfl⟩
  have hel:Tb.elder t e=false:=by rw[Tb.elder,hlk];exact h2
  have hp:Tb.putB t e=true:=by rw[Tb.putB,ho,hel];rfl
  have hc1:Tb.cnt1 t e=Tb.put1 t.cnt a.block (t.count a.block-1):=by simp[Tb.cnt1,hlk]
  have hb1:=hc a.block;refine J.qT λ_=>?_;refine J.pq (.of [0,4,8,13,16,20,25,29,32,39]) [9] [1,2,3,4,5,6] λ_ _=>?_;refine J.vT (iI (t.count a.block)) rfl rfl (λ_ a' w he hC=>?_) ?_
  ·refine(l9 (key:=a.block) a2Z a3p (z:=iI 0) (λw=>by kernel_rfl) rfl rfl rfl rfl he rfl rfl (hC rfl _ (f9 (i:=3) rfl))).trans ?_;simp only[a1I,W9];rfl
  refine J.q λ_=>?_;refine J.mapUpdate hX a2Z a3p a.block 3 rfl rfl rfl rfl rfl rfl rfl rfl rfl rfl rfl rfl (λ_=>rfl) (by rw[a7n];rfl) ⟨trivial,?_⟩;refine J.pq (.of [0,4,8,13,16,21,25,28,35]) [8] [1,2,3,4,5,6] λ_ _=>?_;refine J.vT (iI ((Tb.look (Tb.put1 t.cnt a.block (t.count a.block-1)) b).getD 0)) rfl rfl (λ_ a w he hC=>?_) ?_
  ·refine(l9 (key:=b) a2Z a3p (z:=iI 0) (λw=>by kernel_rfl) rfl rfl rfl rfl he rfl rfl (hC rfl _ (f9 (i:=3) rfl))).trans ?_;simp only[a1I,W9]
  have hb2 : -1 ≤ (Tb.look (Tb.put1 t.cnt a.block (t.count a.block - 1)) b).getD 0 ∧ (Tb.look (Tb.put1 t.cnt a.block (t.count a.block - 1)) b).getD 0 ≤ 1000000 := by
     rw[Tb.look_put1];split
     ·show-1<=t.count a.block-1/\t.count a.block-1<=1000000;omega
     ·have:=hc b;unfold Tb.count at this;omega
  refine J.q λ_=>?_;refine J.mapUpdate hX a2Z a3p b 3 rfl rfl rfl rfl rfl rfl rfl rfl rfl rfl rfl rfl (λ_=>rfl) (by rw[a7n];rfl) ⟨trivial,?_⟩;refine J.pq (.of [0,4,8,13,16,21,25,28,32,37,40,45,48,55]) [13] [1,2,3,4,5,6] λ_ _=>?_;refine J.mapUpdate hX a2Z a1L e.lpn 2 rfl rfl rfl rfl rfl rfl rfl rfl rfl rfl rfl rfl (λ_=>rfl) (show _=some (_::_::B3 _ _ (O1 _ _ (atV ⟨b,r,s,m,e.seq,e.role⟩))::_)from rfl) ⟨trivial,?_⟩;rw[b0F];refine J.pq (.of [0,5,8,12,16,21,24]) [] [1,2,3,4,5,6] λ_ _=>?_;have hput:Tb.put t e b r s m=⟨t.logical,Tb.put1 t.at_ e.lpn ⟨b,r,s,m,e.seq,e.role⟩,Tb.put1 (Tb.put1 t.cnt a.block (t.count a.block-1)) b ((Tb.look (Tb.put1 t.cnt a.block (t.count a.block-1)) b).getD 0+1),if e.seq>=t.next then e.seq+1 else t.next⟩:=by
   rw[Tb.put,if_pos hp,Tb.cnt2,hc1]
  refine J.qd (λ_ h5=>?_) λ_ h5=>?_
  ·refine J.q λ_=>?_;refine J.cl (λx:Nat×Nat=>TbP q ⟨t.logical,Tb.put1 t.at_ e.lpn ⟨b,r,s,m,e.seq,e.role⟩,Tb.put1 (Tb.put1 t.cnt a.block (t.count a.block-1)) b ((Tb.look (Tb.put1 t.cnt a.block (t.count a.block-1)) b).getD 0+1),e.seq+1⟩ x) x [1,2,3] ?_;refine J.qr [1] λ_=>?_;exact⟨by rw[hp],by rw[hput,if_pos (by simpa only[decide_eq_true_eq,decide_eq_false_iff_not]using h5)];rfl⟩
  ·refine J.cl (λx:Nat×Nat=>TbP q ⟨t.logical,Tb.put1 t.at_ e.lpn ⟨b,r,s,m,e.seq,e.role⟩,Tb.put1 (Tb.put1 t.cnt a.block (t.count a.block-1)) b ((Tb.look (Tb.put1 t.cnt a.block (t.count a.block-1)) b).getD 0+1),t.next⟩ x) x [1,2,3] ?_;refine J.qr [1] λ_=>?_;exact⟨by rw[hp],by rw[hput,if_neg (by simpa only[decide_eq_true_eq,decide_eq_false_iff_not]using h5)];rfl⟩
theorem b2N (q:Nat) (t:Tb) (n:Nat) (hlog:t.logical=(n:Int)) (hn:n<=65536) (b:Int):FP 193 [pp q,iI b] [TbA q t]
  (λv As=>∃a c,v=slv a (t.ins b).length c/\As=[TbA q t,c9 3 1 a (t.ins b).length c (f6 (t.ins b))]):=by
 refine FE [2,0] Tryz.func193 λX F hX=>?_;refine J.qp (H3 q t b) [1] λ_=>?_;refine J.turn1 [] rfl (As:=[c9 3 1 none 0 0 (f6 [])]) (λh s=>Sep.one ⟨rfl,rfl,rfl⟩) rfl ?_;refine J.qd (λ_ h1=>?_) λ_ h1=>?_
 ·simp only[beq_iff_eq]at h1;refine J.qr [1,2] λ_=>?_;have:t.ins b=[]:=by unfold Tb.ins;rw[if_pos h1]
  rw[this];exact⟨none,0,rfl,rfl⟩
 simp only[beq_eq_false_iff_ne,ne_eq]at h1;have hins:t.ins b=t.inK b n:=by unfold Tb.ins;rw[if_neg h1,hlog];rfl
 refine J.o (α:=(Nat×Nat)) 1 λx=>?_;refine J.q λ_=>?_;refine J.l (α:=(Nat×Option Nat×Nat)) (λz=>z.1<=n) (λz=>[si 17 z.1,si 16 t.logical,sv 5 (slv z.2.1 (t.inK b z.1).length z.2.2),⟨0,pp q,2, .tt⟩,si 1 b]) [2] (λz=>[c9 3 1 z.2.1 (t.inK b z.1).length z.2.2 (f6 (t.inK b z.1))]) (λz=>n-z.1) ((0,none,0)) (Nat.zero_le _) λz hI=>?_;obtain⟨k,a1,c1⟩:=z;dsimp only at hI ⊢;refine J.qd (λ_ h2=>?_) λ_ h2=>?_
 ·simp only[decide_eq_true_eq]at h2;have hkl:=t.inK_len b k;refine J.q λ_=>?_;refine J.v (.tuple #[atV ((Tb.look t.at_ k).getD AtV.zero), .bool (Tb.look t.at_ k).isSome]) rfl rfl (λhg a w he hs=>?_) ?_
  ·refine(l9 (key:=(k:Int)) a2Z a1L (z:=atV AtV.zero) (λw=>by kernel_rfl) rfl rfl rfl rfl he rfl rfl (hs.get (i:=3) rfl)).trans ?_;simp only[a4M,a2c,a3Y]
  have hin:((Tb.look t.at_ k).isSome&&(((Tb.look t.at_ k).getD AtV.zero).block==b))=t.inB b k:=by
   unfold Tb.inB;cases Tb.look t.at_ k<;>rfl
  refine J.qd (λ_ h3=>?_) λ_ h3=>?_
  ·have hs:t.inK b (k+1)=t.inK b k++[(k:Int)]:=by rw[Tb.inK_succ,if_pos (hin.symm.trans h3)]
   refine J.q λ_=>?_;refine J.append hX tk 2 6 0 rfl rfl rfl rfl rfl rfl rfl rfl rfl rfl rfl rfl rfl rfl rfl rfl ?_ ?_ (λ_=>rfl) λa3 c3=>⟨_,(congrArg (λz=>p9 _ 2 (c9 _ _ _ _ _ z)) (M5 _ (k:Int)).symm).trans rfl,trivial,?_⟩
   ·simp only[maxLen];omega
   ·omega
   rw[<- hs,show(t.inK b k).length+1=(t.inK b (k+1)).length from by rw[hs];simp];refine J.q λ_=>?_;refine J.n ((k+1,a3,c3)) (by dsimp only;omega) (by dsimp only;omega) [0,1,2,3,4]
  ·have hs:t.inK b (k+1)=t.inK b k:=by rw[Tb.inK_succ,if_neg (by rw[<- hin,h3];simp)]
   rw[<- hs];refine J.q λ_=>?_;refine J.n ((k+1,a1,c1)) (by dsimp only;omega) (by dsimp only;omega) [0,1,2,3,4]
 ·simp only[decide_eq_false_iff_not]at h2;obtain rfl:k=n:=by omega
  refine J.q λ_=>?_;refine J.cl (λx:Nat×Nat=>TbP q t x) x [1,3,4] ?_;refine J.qr [1,2] λ_=>?_;rw[hins];exact⟨a1,c1,rfl,rfl⟩
theorem a4f (z:Array Value) (n:Nat):(madeCells z (n*z.size)).toList=(List.replicate n z.toList).flatten:=by
 have e0:∀k,(madeCells z k).toList=(List.range k).map λi=>z[i % z.size]!:=λk=>by simp[madeCells]
 induction n with
 | zero=>rw[e0];simp
 | succ n ih=>
  rw[e0]at ih ⊢;rw[Nat.succ_mul,List.range_add,List.map_append,ih,List.replicate_succ',List.flatten_append,List.flatten_singleton];congr 1;apply List.ext_getElem?;intro i;rw[List.map_map,List.getElem?_map]
  by_cases h:i<z.size
  ·rw[List.getElem?_range h,Option.map_some];simp only[Function.comp,Nat.mul_comm n,Nat.mul_add_mod,Nat.mod_eq_of_lt h];rw[Array.getElem?_toList,Array.getElem?_eq_getElem h,getElem!_pos z i h]
  ·rw[List.getElem?_eq_none (by rw[List.length_range];omega),Option.map_none,List.getElem?_eq_none (by rw[Array.length_toList];omega)]
section
variable {X : Cx} {P : Program} {K : List KI} {E : Env} {L : List Atom} {N : Nat} {F : HP} {Post : Value → List Atom → Prop} {rs : List ResultVar}
theorem J.makeMany {T:Tab} (hX:IsCx X P rs N F Post) (hT:TabOK P T) {ops:Array Oper} {C:Cl} {lt:Bool} {i:Nat} {t:PT} {o:Oper} {g:G} {st e by_ size:Nat} {x y:Operand} {k1 k2 t1 t2 n s1 b1:Nat} {kl kc:IntKind} {g1 g2:G} {z1 z:List Value} {td:TD} {E':Value->Env} {L2:Nat->List Atom} (tag:Nat)
  (ho:n9 ops.toList i=some o) (hg:gd ops.toList E o=some g) (hgo:g.on=true) (hop:o.op= .makeSlice st x y) (hx:ev E x=some ⟨k1, .int kl n,t1,g1⟩) (v1:g1.on=true) (hy:ev E y=some ⟨k2, .int kc n,t2,g2⟩) (v2:g2.on=true)
  (hst:T.get st=some ⟨.slice e size,s1,z1,b1⟩) (he:T.get e=some ⟨td,size,z,by_⟩) (hzs:Nat.beq z.length size=true) (h63:n<=maxLen) (hbytes:by_*n<=281474976710656)
  (hL2:∀b,a0f b1o L (.pt b e (List.replicate n z).flatten)=some (L2 b,tag)) (hd:∀v,D7 N o.dst v tag .tt E=some (E' v)) (hJ:∀b,Conj (t8 lt C (L2 b))/\J X (.reg ops C t::K) (E' (.slice (some ⟨b,0,none⟩) n n)) (L2 b)):J X (.reg ops C (.alt lt i t .non)::K) E L:=by
 refine J.op hX (S:=λv' L'=>∃b,v'= .slice (some ⟨b,0,none⟩) n n/\L'=L++[.pt b e (List.replicate n z).flatten]) tag ho hg hgo (λa0 w hen hs=>?_) hd (λv L' ⟨b,e1,e2⟩=>by subst e1;subst e2;rw[<- Q0 (hL2 b)];exact hJ b);have ex:=j3 hen hx;have ey:=j3 hen hy;simp only[Slot.val,v1,v2]at ex ey;obtain⟨d,f,zv,ok⟩:=g7 (hT.get hst);obtain⟨fe,rfl,g1',g2'⟩:=ok.slice rfl;obtain⟨d',f',zv',ok'⟩:=g7 (hT.get he);have hf:fe=f':=by have:=g1'.symm.trans ok'.hf;injection this
 subst hf;have hb2:(fe.bytes:Int)*(n:Int)<=281474976710656:=by
  rw[<- ok'.hbytes];have h:((by_*n:Nat):Int)<=281474976710656:=by omega
  rwa [Int.natCast_mul]at h
 have hr:=run_make (P:=P) w st e fe zv' ok.hd ok'.hf ok'.hz kl kc n n (by omega) (Int.le_refl _) hb2 (by simp[maxLen]at h63;omega);have hz:zv'.cells.toList=z:=ok'.hzero.symm;have hs1:fe.size=size:=ok'.hsize.symm;have hzl:zv'.cells.size=size:=by rw[<- Array.length_toList,hz];exact Nat.eq_of_beq_eq_true hzs
 simp only[Int.toNat_natCast,hs1]at hr;rw[<- hzl]at hr;refine⟨_,_, .value (.slice (some ⟨w.heap.size,0,none⟩) n n),w.alloc (.cells (madeCells zv'.cells (n*zv'.cells.size)) e),⟨w.heap.size,rfl,rfl⟩,?_, .inl rfl,?_,⟨rfl,rfl,rfl,by show w.heap.size<=(w.heap.push _).size;simp⟩⟩
 ·simp only[execOp,hop,ex,ey,hr,Sem.run_bind,Result.andThen_ok,Sem.run_pure]
 ·have e1:Obj.cells (madeCells zv'.cells (n*zv'.cells.size)) e (0,0)=Obj.cells (List.replicate n z).flatten.toArray e (0,0):=by
   congr 1;apply Array.toList_inj.1;rw[a4f,hz]
  show Sep _ (hl {w with heap:=w.heap.push (Obj.cells (madeCells zv'.cells (n*zv'.cells.size)) e (0,0))});rw[e1,a1w];exact hs.snoc (a1x w) (λh' hh=>hh)
end
structure Sb where
 wear:Int
 bad:Int
 used:Bool
 held:Bool
def Sb.zero:Sb:=⟨0,0,false,false⟩
def sbL (s:Sb):List Value:=[iI s.wear,iI s.bad, .bool s.used, .bool s.held]
structure Tl where
 d:Nat
 b:Nat
 p:Nat
 l:List Sb
 dead:Int
namespace Tl
def new (d b p:Nat):Tl:=⟨d,b,p,List.replicate b Sb.zero,0⟩
def has (t:Tl) (k:Int):Bool:=decide (0<=k)&&decide (k<t.b)
def at_ (t:Tl) (k:Int):Sb:=t.l.getD k.toNat Sb.zero
def adr (t:Tl) (g:Nat) (k:Int):Option Addr:=if t.has k=true then some ⟨g,k.toNat*4,none⟩else none
def set (t:Tl) (k:Int) (s:Sb):Tl:=if t.has k=true then⟨t.d,t.b,t.p,t.l.set k.toNat s,t.dead⟩else t
def wear (t:Tl) (k:Int):Int:=if t.has k=true then(t.at_ k).wear else 0
def hasDie (t:Tl) (d:Int):Bool:=decide (0<=d)&&decide (d<t.d)
end Tl
def TlP (q:Nat) (t:Tl) (g:Nat):List Atom:=[.pt q 197 [iI t.d,iI t.b,iI t.p, .slice (some ⟨g,0,none⟩) t.b t.b,iI t.dead], .pt g 207 (t.l.flatMap sbL)]
def TlA (q:Nat) (t:Tl):Atom:=exA λg:Nat=>TlP q t g
theorem V8 {α:Type} (f:α->List Value) (w:Nat) (hw:∀x,(f x).length=w):∀{l:List α} {k:Nat} {x:α},l[k]? =some x->∀j,j<w->(l.flatMap f)[k*w+j]? =(f x)[j]?
 | [],k,x,h,j,hj=>by simp at h
 | y::l,0,x,h,j,hj=>by
  simp only[List.getElem?_cons_zero,Option.some.injEq]at h;subst h;rw[Nat.zero_mul,Nat.zero_add,List.flatMap_cons,List.getElem?_append_left (by rw[hw];exact hj)]
 | y::l,k+1,x,h,j,hj=>by
  rw[List.flatMap_cons,List.getElem?_append_right (by rw[hw,Nat.succ_mul];omega),hw,show(k+1)*w+j-w=k*w+j by rw[Nat.succ_mul];omega];exact V8 f w hw (by simpa using h) j hj
theorem x9 {α:Type} (f:α->List Value) (w:Nat) (hw:∀x,(f x).length=w) (j:Nat) (v:Value):∀{l:List α} {k:Nat} {x y:α},l[k]? =some x->j<w->(f x).set j v=f y->(l.flatMap f).set (k*w+j) v=(l.set k y).flatMap f
 | [],k,x,y,h,hj,e=>by simp at h
 | z::l,0,x,y,h,hj,e=>by
  simp only[List.getElem?_cons_zero,Option.some.injEq]at h;subst h;rw[Nat.zero_mul,Nat.zero_add,List.flatMap_cons,List.set_append_left _ _ (by rw[hw];exact hj),e];rfl
 | z::l,k+1,x,y,h,hj,e=>by
  rw[List.flatMap_cons,List.set_append_right _ _ (by rw[hw,Nat.succ_mul];omega),hw,show(k+1)*w+j-w=k*w+j by rw[Nat.succ_mul];omega,x9 f w hw j v (by simpa using h) hj e];rfl
theorem a6u (s:Sb):(sbL s).length=4:=rfl
namespace Tl
theorem get_at {t:Tl} (hl:t.l.length=t.b) {k:Int} (h:t.has k=true):t.l[k.toNat]? =some (t.at_ k):=by
 simp only[has,Bool.and_eq_true,decide_eq_true_eq]at h;rw[at_,List.getD_eq_getElem?_getD,List.getElem?_eq_getElem (by omega),Option.getD_some]
theorem cell_at {t:Tl} (hl:t.l.length=t.b) {k:Int} (h:t.has k=true) (j:Nat) (hj:j<4):(t.l.flatMap sbL)[k.toNat*4+j]? =(sbL (t.at_ k))[j]?:=V8 sbL 4 a6u (get_at hl h) j hj
theorem set_at {t:Tl} (hl:t.l.length=t.b) {k:Int} (h:t.has k=true) (j:Nat) (hj:j<4) (v:Value) (s:Sb) (e:(sbL (t.at_ k)).set j v=sbL s):(t.l.flatMap sbL).set (k.toNat*4+j) v=((t.set k s).l.flatMap sbL):=by
 rw[set,if_pos h];exact x9 sbL 4 a6u j v (get_at hl h) hj e
end Tl
namespace Tl
theorem len_l (t:Tl):(t.l.flatMap sbL).length=t.l.length*4:=by
 induction t.l with
 | nil=>rfl
 | cons x l ih=>rw[List.flatMap_cons,List.length_append,ih,a6u,List.length_cons];omega
theorem set_d (t:Tl) (k:Int) (s:Sb):(t.set k s).d=t.d:=by unfold set;split<;>rfl
theorem set_b (t:Tl) (k:Int) (s:Sb):(t.set k s).b=t.b:=by unfold set;split<;>rfl
theorem set_p (t:Tl) (k:Int) (s:Sb):(t.set k s).p=t.p:=by unfold set;split<;>rfl
theorem set_dead (t:Tl) (k:Int) (s:Sb):(t.set k s).dead=t.dead:=by unfold set;split<;>rfl
def wore (t:Tl) (k n:Int):Tl:=t.set k {t.at_ k with wear:=if n>(t.at_ k).wear then n else(t.at_ k).wear}
def bad (t:Tl) (d k:Int):Tl:=if t.hasDie d=true then t.set k {t.at_ k with bad:=L.with_ (t.at_ k).bad d}else t
def andN (a b:Int):Int:=IntKind.i64.wrap ((BitVec.ofInt IntKind.i64.bits a&&& ~~~BitVec.ofInt IntKind.i64.bits b).toNat:Int)
def alive (t:Tl):Int:=andN (L.all t.d) t.dead
def mask (t:Tl) (k:Int):Int:=if t.has k=true then andN t.alive (t.at_ k).bad else 0
def usable (t:Tl) (k:Int):Bool:=decide (G.slots (t.mask k)>0)
def blank (t:Tl) (k:Int):Bool:=t.has k&& !(t.at_ k).used
def held (t:Tl) (k:Int):Bool:=t.has k&&(t.at_ k).held
end Tl
theorem a8T (d b p:Nat) (hg:y6 d b p=true):FP 117 [.agg #[iI d,iI b,iI p]] [] (λv As=>∃q,v=pp q/\As=[TlA q (Tl.new d b p)]):=by
 have hbd:(3<=d/\d<=6)/\(8<=b/\b<=16)/\(2<=p/\p<=8):=by simp[y6]at hg;omega
 refine FE [0] Tryz.func117 λX F hX=>?_;refine J.qp (a2M d b p) [] λ_=>?_;rw[hg];refine J.qF λ_=>?_;refine J.pq (.of [1,4,9,14,16,23,24]) [4,5,6] [1] λ_ _=>?_;refine J.makeMany hX tk 3 rfl rfl rfl rfl rfl rfl rfl rfl rfl rfl rfl ?_ ?_ (λ_=>rfl) (λ_=>rfl) λdd=>⟨⟨rfl,trivial⟩,?_⟩
 ·simp only[maxLen];omega
 ·omega
 refine J.q λnn=>?_;rw[show(List.replicate b [Value.int .i64 0,Value.int .i64 0,Value.bool false,Value.bool false]).flatten=(Tl.new d b p).l.flatMap sbL from by rw[Tl.new,List.flatMap_def,List.map_replicate];rfl];refine J.cl (λg:Nat=>TlP (nn 0) (Tl.new d b p) g) dd [3,2] ?_;refine J.qr [3] λ_=>?_;exact⟨nn 0,rfl,rfl⟩
theorem b5B:FP 117 [.agg #[iI 0,iI 0,iI 0]] [] (Ps (.pointer none) []):=by
 refine FE [0] Tryz.func117 λX F hX=>?_;refine J.qp (a2M 0 0 0) [] λ_=>?_;rw[show y6 0 0 0=false from by decide];refine J.qT λ_=>?_;exact J.qx []
theorem a2s (q:Nat) (t:Tl) (hb:t.b<=1000) (g:Nat) (k:Int):FP 124 [pp q,iI k] (TlP q t g) (Ps (.pointer (t.adr g k)) (TlP q t g)):=by
 refine FE [2,0] Tryz.func124 λX F hX=>?_;refine J.run hX tk 400 (λb9=>rfl) (λb9=>?_) (λb9=>?_)
 ·(repeat' (first | exact Conj.nil | refine Conj.cons ?_ ?_ | exact rfl | exact hq | (rw[hq];rfl) | (rw[(Bool.not_eq_true' _).mp hq]) | intro hq | omega | (simp;done) | (simp_all;done)))
 refine J.qd (λ_ h1=>?_) λ_ h1=>?_
 ·have hh:t.has k=false:=by simp[Tl.has]at h1 ⊢;omega
  refine J.qr [1,2] λ_=>?_;exact⟨by rw[Tl.adr,hh];rfl,rfl⟩
 ·have hh:t.has k=true:=by simp[Tl.has]at h1 ⊢;omega
  have hh2:=hh;simp only[Tl.has,Bool.and_eq_true,decide_eq_true_eq]at hh2;refine J.qr [1,2] λ_=>?_;exact⟨by rw[Tl.adr,hh,if_pos rfl];simp,rfl⟩
theorem a1e (q:Nat) (t:Tl) (hb:t.b<=1000) (hl:t.l.length=t.b) (k:Int):FP 191 [pp q,iI k] [TlA q t] (Ps (iI (t.wear k)) [TlA q t]):=by
 refine FE [2,0] Tryz.func191 λX F hX=>?_;refine J.o (α:=Nat) 1 λg=>?_;refine J.qp (a2s q t hb g k) [1,2] λ_=>?_;cases hh:t.has k with
 | false=>
  rw[Tl.adr,hh,if_neg (by simp)];refine J.qF λ_=>?_;refine J.q λ_=>?_;refine J.cl (λg:Nat=>TlP q t g) g [1,2] ?_;refine J.qr [1] λ_=>?_;exact⟨by rw[Tl.wear,hh];rfl,rfl⟩
 | true=>
  rw[Tl.adr,hh,if_pos rfl];refine J.qT λ_=>?_;refine J.q λ_=>?_;refine J.v (iI (t.at_ k).wear) rfl rfl (λhg a w he hs=>?_) ?_
  ·exact i7 tk rfl rfl he rfl rfl rfl (hs.get (i:=2) rfl) (t.cell_at hl hh 0 (by omega))
  refine J.cl (λg:Nat=>TlP q t g) g [1,2] ?_;refine J.qr [1] λ_=>?_;exact⟨by rw[Tl.wear,hh];rfl,rfl⟩
theorem a6o (q:Nat) (t:Tl) (hb:t.b<=1000) (hl:t.l.length=t.b) (k n:Int):FP 118 [pp q,iI k,iI n] [TlA q t] (Ps (.tuple #[]) [TlA q (t.wore k n)]):=by
 refine FE [2,0,0] Tryz.func118 λX F hX=>?_;refine J.o (α:=Nat) 1 λg=>?_;refine J.qp (a2s q t hb g k) [1,2] λ_=>?_;cases hh:t.has k with
 | false=>
  rw[Tl.adr,hh,if_neg (by simp)];refine J.qF λ_=>?_;refine J.q λ_=>?_;refine J.cl (λg:Nat=>TlP q t g) g [1,2] ?_;refine J.q λ_=>?_;refine J.f [1] ?_;exact⟨rfl,by rw[Tl.wore,Tl.set,hh];rfl⟩
 | true=>
  rw[Tl.adr,hh,if_pos rfl];refine J.qT λ_=>?_;refine J.q λ_=>?_;refine J.v (iI (t.at_ k).wear) rfl rfl (λhg a w he hs=>?_) ?_
  ·exact i7 tk rfl rfl he rfl rfl rfl (hs.get (i:=2) rfl) (t.cell_at hl hh 0 (by omega))
  refine J.q λ_=>?_;refine J.s1 2 ((t.wore k n).l.flatMap sbL) ?_ ?_ ?_
  ·rw[t.len_l,hl];simp only[Tl.has,Bool.and_eq_true,decide_eq_true_eq]at hh;omega
  ·exact t.set_at hl hh 0 (by omega) _ _ rfl
  refine J.close (f:=λg:Nat=>TlP q (t.wore k n) g) g [1,2] rfl (by simp only[TlP,Tl.wore,Tl.set_d,Tl.set_b,Tl.set_p,Tl.set_dead];rfl) rfl ?_;refine J.q λ_=>?_;refine J.f [1] ?_;exact⟨rfl,rfl⟩
theorem b2H (q:Nat) (t:Tl) (g:Nat) (k:Int):FP 146 [pp q,iI k] (TlP q t g) (Ps (.bool (t.hasDie k)) (TlP q t g)):=by
 refine FE [2,0] Tryz.func146 λX F hX=>?_;refine J.run hX tk 400 (λb30=>rfl) (λb30=>?_) (λb30=>?_)
 ·(repeat' (first | exact Conj.nil | refine Conj.cons ?_ ?_ | exact rfl | exact hq | (rw[hq];rfl) | (rw[(Bool.not_eq_true' _).mp hq]) | intro hq | omega | (simp;done) | (simp_all;done)))
 refine J.qr [1,2] λ_=>?_;exact⟨by simp[Tl.hasDie],rfl⟩
theorem a8U (q:Nat) (t:Tl) (hb:t.b<=1000) (hl:t.l.length=t.b) (d k:Int):FP 185 [pp q,iI d,iI k] [TlA q t] (Ps (.tuple #[]) [TlA q (t.bad d k)]):=by
 refine FE [2,0,0] Tryz.func185 λX F hX=>?_;refine J.o (α:=Nat) 1 λg=>?_;refine J.qp (a2s q t hb g k) [1,2] λ_=>?_;cases hh:t.has k with
 | false=>
  rw[Tl.adr,hh,if_neg (by simp)];refine J.q λ_=>?_;refine J.v (.bool false) rfl rfl (λhg a w he hs=>absurd hg (by simp[G.on])) ?_;refine J.qF λ_=>?_;refine J.q λ_=>?_;refine J.cl (λg:Nat=>TlP q t g) g [1,2] ?_;refine J.q λ_=>?_;refine J.f [1] ?_;exact⟨rfl,by rw[Tl.bad,Tl.set,hh];simp;rfl⟩
 | true=>
  rw[Tl.adr,hh,if_pos rfl];refine J.qp (b2H q t g d) [1,2] λ_=>?_;refine J.qd (λ_ h2=>?_) λ_ h2=>?_
  ·simp only[Bool.not_false,Bool.true_and]at h2;refine J.q λ_=>?_;refine J.v (iI (t.at_ k).bad) rfl rfl (λhg a w he hs=>?_) ?_
   ·exact i7 tk rfl rfl he rfl rfl rfl (hs.get (i:=2) rfl) (t.cell_at hl hh 1 (by omega))
   refine J.qp (a6O (t.at_ k).bad d) [] λ_=>?_;refine J.q λ_=>?_;have he:t.bad d k=t.set k {t.at_ k with bad:=L.with_ (t.at_ k).bad d}:=by rw[Tl.bad,h2];rfl
   refine J.s1 2 ((t.bad d k).l.flatMap sbL) ?_ ?_ ?_
   ·rw[t.len_l,hl];simp only[Tl.has,Bool.and_eq_true,decide_eq_true_eq]at hh;omega
   ·rw[he];exact t.set_at hl hh 1 (by omega) _ _ rfl
   refine J.close (f:=λg:Nat=>TlP q (t.bad d k) g) g [1,2] rfl (by simp only[he,TlP,Tl.set_d,Tl.set_b,Tl.set_p,Tl.set_dead];rfl) rfl ?_;refine J.q λ_=>?_;refine J.f [1] ?_;exact⟨rfl,rfl⟩
  ·simp only[Bool.not_false,Bool.true_and]at h2;refine J.cl (λg:Nat=>TlP q t g) g [1,2] ?_;refine J.q λ_=>?_;refine J.f [1] ?_;exact⟨rfl,by rw[Tl.bad,h2];rfl⟩
theorem b0S (q:Nat) (t:Tl) (g:Nat):FP 173 [pp q] (TlP q t g) (Ps (iI t.alive) (TlP q t g)):=by
 refine FE [2] Tryz.func173 λX F hX=>?_;refine J.qF λ_=>?_;refine J.p (.of [0,4,8,12,17,24,28,32,37,22,40,44]) [11] [1,2] λ_=>?_;refine J.qp (b0u t.d) [] λ_=>?_;exact J.qx [1,2]
theorem a3x (q:Nat) (t:Tl) (hb:t.b<=1000) (hl:t.l.length=t.b) (k:Int):FP 182 [pp q,iI k] [TlA q t] (Ps (.bool (t.blank k)) [TlA q t]):=by
 refine FE [2,0] Tryz.func182 λX F hX=>?_;refine J.o (α:=Nat) 1 λg=>?_;refine J.qp (a2s q t hb g k) [1,2] λ_=>?_;cases hh:t.has k with
 | false=>
  rw[Tl.adr,hh,if_neg (by simp)];refine J.q λ_=>?_;refine J.v (pp g) rfl rfl (λhg a w he hs=>absurd hg (by simp[G.on])) ?_;refine J.q λ_=>?_;refine J.v (.bool false) rfl rfl (λhg a w he hs=>absurd hg (by simp[G.on])) ?_;refine J.q λ_=>?_;refine J.cl (λg:Nat=>TlP q t g) g [1,2] ?_;refine J.qr [1] λ_=>?_;exact⟨by rw[Tl.blank,hh];rfl,rfl⟩
 | true=>
  rw[Tl.adr,hh,if_pos rfl];refine J.q λ_=>?_;refine J.v (.bool (t.at_ k).used) rfl rfl (λhg a w he hs=>?_) ?_
  ·exact i7 tk rfl rfl he rfl rfl rfl (hs.get (i:=2) rfl) (t.cell_at hl hh 2 (by omega))
  refine J.q λ_=>?_;refine J.cl (λg:Nat=>TlP q t g) g [1,2] ?_;refine J.qr [1] λ_=>?_;exact⟨by rw[Tl.blank,hh];rfl,rfl⟩
theorem a9Y (q:Nat) (t:Tl) (hb:t.b<=1000) (hl:t.l.length=t.b) (k:Int):FP 183 [pp q,iI k] [TlA q t] (Ps (.bool (t.held k)) [TlA q t]):=by
 refine FE [2,0] Tryz.func183 λX F hX=>?_;refine J.o (α:=Nat) 1 λg=>?_;refine J.qp (a2s q t hb g k) [1,2] λ_=>?_;cases hh:t.has k with
 | false=>
  rw[Tl.adr,hh,if_neg (by simp)];refine J.q λ_=>?_;refine J.v (pp g) rfl rfl (λhg a w he hs=>absurd hg (by simp[G.on])) ?_;refine J.q λ_=>?_;refine J.v (.bool false) rfl rfl (λhg a w he hs=>absurd hg (by simp[G.on])) ?_;refine J.q λ_=>?_;refine J.cl (λg:Nat=>TlP q t g) g [1,2] ?_;refine J.qr [1] λ_=>?_;exact⟨by rw[Tl.held,hh];rfl,rfl⟩
 | true=>
  rw[Tl.adr,hh,if_pos rfl];refine J.q λ_=>?_;refine J.v (.bool (t.at_ k).held) rfl rfl (λhg a w he hs=>?_) ?_
  ·exact i7 tk rfl rfl he rfl rfl rfl (hs.get (i:=2) rfl) (t.cell_at hl hh 3 (by omega))
  refine J.q λ_=>?_;refine J.cl (λg:Nat=>TlP q t g) g [1,2] ?_;refine J.qr [1] λ_=>?_;exact⟨by rw[Tl.held,hh];rfl,rfl⟩
theorem b2I (q:Nat) (t:Tl):FP 173 [pp q] [TlA q t] (Ps (iI t.alive) [TlA q t]):=by
 refine FE [2] Tryz.func173 λX F hX=>?_;refine J.o (α:=Nat) 1 λg=>?_;refine J.qF λ_=>?_;refine J.p (.of [0,4,8,12,17,24,28,32,37,22,40,44]) [11] [1,2] λ_=>?_;refine J.qp (b0u t.d) [] λ_=>?_;refine J.q λ_=>?_;refine J.cl (λg:Nat=>TlP q t g) g [1,2] ?_;exact J.qx [1]
theorem a3u (q:Nat) (t:Tl):FP 128 [pp q] [TlA q t] (Ps (.agg #[iI t.d,iI t.b,iI t.p]) [TlA q t]):=by
 refine FE [2] Tryz.func128 λX F hX=>?_;refine J.o (α:=Nat) 1 λg=>?_;refine J.qF λ_=>?_;refine J.q λ_=>?_;refine J.cl (λg:Nat=>TlP q t g) g [1,2] ?_;exact J.qx [1]
theorem R6 (q:Nat) (t:Tl) (hb:t.b<=1000) (hl:t.l.length=t.b) (k:Int):FP 121 [pp q,iI k] [TlA q t] (Ps (iI (t.mask k)) [TlA q t]):=by
 refine FE [2,0] Tryz.func121 λX F hX=>?_;refine J.o (α:=Nat) 1 λg=>?_;refine J.qp (a2s q t hb g k) [1,2] λ_=>?_;cases hh:t.has k with
 | false=>
  rw[Tl.adr,hh,if_neg (by simp)];refine J.qT λ_=>?_;refine J.cl (λg:Nat=>TlP q t g) g [1,2] ?_;refine J.qr [1] λ_=>?_;exact⟨by rw[Tl.mask,hh];rfl,rfl⟩
 | true=>
  rw[Tl.adr,hh,if_pos rfl];refine J.qF λ_=>?_;refine J.pq (.of [0,8,12,16,21,6,24,28]) [6,7] [1,2] λ_ _=>?_;refine J.vT (iI (t.at_ k).bad) rfl rfl (λhg a w he hC=>?_) ?_
  ·exact i7 tk rfl rfl he hg rfl rfl (hC rfl _ (f9 (i:=2) rfl)) (t.cell_at hl hh 1 (by omega))
  refine J.qp (b0S q t g) [1,2] λ_=>?_;refine J.q λ_=>?_;refine J.cl (λg:Nat=>TlP q t g) g [1,2] ?_;refine J.qr [1] λ_=>?_;exact⟨by rw[Tl.mask,hh];rfl,rfl⟩
theorem a0u (q:Nat) (t:Tl) (hb:t.b<=1000) (hl:t.l.length=t.b) (k:Int):FP 181 [pp q,iI k] [TlA q t] (Ps (.bool (t.usable k)) [TlA q t]):=by
 refine FE [2,0] Tryz.func181 λX F hX=>?_;refine J.qp (R6 q t hb hl k) [1] λ_=>?_;refine J.qp (L6 (t.mask k)) [] λ_=>?_;exact J.qx [1]
def f7 (kind:Int->Bool) (open_:Int) (k:Nat):List Int:=((List.range k).filter λi:Nat=>((i:Int) !=open_)&&kind i).map λi:Nat=>(i:Int)
theorem M2 (kind:Int->Bool) (o:Int) (k:Nat):f7 kind o (k+1)=if(((k:Int) !=o)&&kind k)=true then f7 kind o k++[(k:Int)]else f7 kind o k:=by
 unfold f7;rw[List.range_succ,List.filter_append,List.map_append];cases h:(((k:Int) !=o)&&kind k)<;>simp[List.filter_cons,h]
theorem H9 (kind:Int->Bool) (o:Int) (k:Nat):(f7 kind o k).length<=k:=by
 unfold f7;rw[List.length_map];exact Nat.le_trans (List.length_filter_le _ _) (by rw[List.length_range];exact Nat.le_refl _)
theorem a6F (q:Nat) (t:Tl) (hb:t.b<=1000) (o:Int) (c:Nat) (cs:List Value) (kind:Int->Bool) (A:Atom) (hcal:n6 Tryz.prog c=true) (hf:∀x,Fn Tryz.prog c (iI x::cs) [TlA q t,A] (Ps (.bool (kind x)) [TlA q t,A])):FP 179 [pp q,iI o,fnC c cs] [TlA q t,A]
  (λv As=>∃a cc,v=slv a (f7 kind o t.b).length cc/\As=[TlA q t,A,c9 3 1 a (f7 kind o t.b).length cc (f6 (f7 kind o t.b))]):=by
 refine FE [2,0,0] Tryz.func179 λX F hX=>?_;refine J.qp (a3u q t) [1] λ_=>?_;refine J.turn1 [] rfl (As:=[c9 3 1 none 0 0 (f6 [])]) (λh s=>Sep.one ⟨rfl,rfl,rfl⟩) rfl ?_;refine J.q λ_=>?_;refine J.l (α:=(Nat×Option Nat×Nat)) (λz=>z.1<=t.b) (λz=>[si 12 z.1,si 11 t.b,sv 7 (slv z.2.1 (f7 kind o z.1).length z.2.2),si 1 o,⟨2,fnC c cs,0, .tt⟩]) [3] (λz=>[c9 3 1 z.2.1 (f7 kind o z.1).length z.2.2 (f6 (f7 kind o z.1))]) (λz=>t.b-z.1) ((0,none,0)) (Nat.zero_le _) λz hI=>?_;obtain⟨k,a1,c1⟩:=z;dsimp only at hI ⊢;refine J.qd (λ_ h2=>?_) λ_ h2=>?_
 ·simp only[decide_eq_true_eq,Int.ofNat_lt]at h2;have hkl:=H9 kind o k;refine J.q λ_=>?_;cases ho:((k:Int) !=o)with
  | false=>
   refine J.v (.bool false) rfl rfl (λhg a w he hs=>absurd hg (by simp[G.on])) ?_;refine J.qF λ_=>?_;have hs:f7 kind o (k+1)=f7 kind o k:=by rw[M2,if_neg (by rw[ho];simp)]
   rw[<- hs];refine J.q λ_=>?_;refine J.n ((k+1,a1,c1)) (by dsimp only;omega) (by dsimp only;omega) [0,1,2,3]
  | true=>
   refine J.call hX hcal (hf (k:Int)) [1,2] 0 rfl rfl rfl rfl (by(repeat' (first | exact Conj.nil | refine Conj.cons ?_ ?_ | omega | exact hq0 | (simpa using hq0) | (exactλh=>h) | exact rfl | (intro hq;have hq0:=hq;try simp only[Bool.and_eq_true,Bool.or_eq_true,decide_eq_true_eq,Bool.not_eq_true',decide_eq_false_iff_not]at hq) | (simp;done) | (simp;omega) | decide))) rfl rfl (λ_=>rfl) ?_;refine cpq ⟨_,rfl,trivial,?_⟩;refine J.qd (λ_ h3=>?_) λ_ h3=>?_
   ·have hs:f7 kind o (k+1)=f7 kind o k++[(k:Int)]:=by rw[M2,if_pos (by rw[ho];exact h3)]
    refine J.q λ_=>?_;refine J.append hX tk 3 4 0 rfl rfl rfl rfl rfl rfl rfl rfl rfl rfl rfl rfl rfl rfl rfl rfl ?_ ?_ (λ_=>rfl) λa3 c3=>⟨_,(congrArg (λz=>p9 _ 3 (c9 _ _ _ _ _ z)) (M5 _ (k:Int)).symm).trans rfl,trivial,?_⟩
    ·simp only[maxLen];omega
    ·omega
    rw[<- hs,show(f7 kind o k).length+1=(f7 kind o (k+1)).length from by rw[hs];simp];refine J.q λ_=>?_;refine J.n ((k+1,a3,c3)) (by dsimp only;omega) (by dsimp only;omega) [0,1,2,3]
   ·have hs:f7 kind o (k+1)=f7 kind o k:=by rw[M2,if_neg (by rw[ho,h3];simp)]
    rw[<- hs];refine J.q λ_=>?_;refine J.n ((k+1,a1,c1)) (by dsimp only;omega) (by dsimp only;omega) [0,1,2,3]
 ·simp only[decide_eq_false_iff_not,Int.ofNat_lt]at h2;obtain rfl:k=t.b:=by omega
  refine J.qr [1,2,3] λ_=>?_;exact⟨a1,c1,rfl,rfl⟩
def O3 (f:Int->Int->Int):List Int->Int->Int
 | [],m=>m
 | x::l,m=>O3 f l (if f x m<0 then x else m)
theorem b8y (c:Nat) (cs:List Value) (f:Int->Int->Int) (A:Atom) (hcal:n6 Tryz.prog c=true) (hf:∀x y,Fn Tryz.prog c (iI x::iI y::cs) [A] (Ps (iI (f x y)) [A]))
  (a:Option Nat) (cap:Nat) (x:Int) (l:List Int) (hn:l.length<1000000):FP 240 [slv a (x::l).length cap,fnC c cs] [c9 3 1 a (x::l).length cap (f6 (x::l)),A]
  (Ps (iI (O3 f l x)) [c9 3 1 a (x::l).length cap (f6 (x::l)),A]):=by
 refine FE [0,0] Tryz.func240 λX F hX=>?_;cases a with
 | none=>
  refine J.know (λh' s=>(s.get (i:=1) rfl).2.1) λhn0=>?_;simp at hn0
 | some g=>
  refine J.qd (λ_ h0=>?_) λ_ h0=>?_
  ·simp only[decide_eq_true_eq,List.length_cons]at h0;omega
  refine J.q λ_=>?_;refine J.v (iI x) rfl rfl (λhg a w he hs=>?_) ?_
  ·exact l8 tk rfl rfl he rfl rfl rfl (hs.get (i:=1) rfl) rfl
  refine J.q λ_=>?_;refine J.l (α:=(Nat×Int)) (λz=>z.1<=l.length/\O3 f (l.drop z.1) z.2=O3 f l x) (λz=>[⟨6,iI ((z.1+1:Nat):Int),0, .tt⟩,si 5 z.2,sv 0 (slv (some g) (x::l).length cap),⟨1,fnC c cs,0, .tt⟩]) [] (λz=>[]) (λz=>l.length-z.1) ((0,x)) (⟨Nat.zero_le _,rfl⟩) λz hI=>?_;obtain⟨j,m⟩:=z;dsimp only at hI ⊢;refine J.qd (λ_ h1=>?_) λ_ h1=>?_
  ·simp only[decide_eq_true_eq,Int.ofNat_lt,List.length_cons]at h1;have hj:j<l.length:=by omega
   have hk:(x::l)[j+1]? =some (l.getD j 0):=by rw[List.getElem?_cons_succ,List.getD_eq_getElem?_getD,List.getElem?_eq_getElem hj,Option.getD_some]
   have hget:(f6 (x::l))[0+((j+1:Nat):Int).toNat*1]? =some (iI (l.getD j 0)):=by
    rw[show 0+((j+1:Nat):Int).toNat*1=j+1 from by omega,f6,List.getElem?_map,hk];rfl
   have hstep:O3 f (l.drop (j+1)) (if f (l.getD j 0) m<0 then l.getD j 0 else m)=O3 f l x:=by
    rw[<- hI.2,List.drop_eq_getElem_cons hj,O3];have:l.getD j 0=l[j]:=by rw[List.getD_eq_getElem?_getD,List.getElem?_eq_getElem hj,Option.getD_some]
    rw[this]
   refine J.q λ_=>?_;refine J.v (iI (l.getD j 0)) rfl rfl (λhg a w he hs=>?_) ?_
   ·exact l8 tk rfl rfl he rfl rfl rfl (hs.get (i:=1) rfl) hget
   refine J.q λ_=>?_;refine J.call hX hcal (hf (l.getD j 0) m) [2] 0 rfl rfl rfl rfl (by(repeat' (first | exact Conj.nil | refine Conj.cons ?_ ?_ | omega | exact hq0 | (simpa using hq0) | (exactλh=>h) | exact rfl | (intro hq;have hq0:=hq;try simp only[Bool.and_eq_true,Bool.or_eq_true,decide_eq_true_eq,Bool.not_eq_true',decide_eq_false_iff_not]at hq) | (simp;done) | (simp;omega) | decide))) rfl rfl (λ_=>rfl) ?_;refine cpq ⟨_,rfl,trivial,?_⟩;refine J.qd (λ_ h2=>?_) λ_ h2=>?_
   ·simp only[decide_eq_true_eq]at h2;refine J.q λ_=>?_;refine J.v (iI (l.getD j 0)) rfl rfl (λhg a w he hs=>?_) ?_
    ·exact l8 tk rfl rfl he rfl rfl rfl (hs.get (i:=1) rfl) hget
    rw[if_pos h2]at hstep;refine J.q λ_=>?_;refine J.n ((j+1,l.getD j 0)) (⟨by dsimp only;omega,hstep⟩) (by dsimp only;omega) [0,1,2]
   ·simp only[decide_eq_false_iff_not]at h2;rw[if_neg h2]at hstep;refine J.q λ_=>?_;refine J.n ((j+1,m)) (⟨by dsimp only;omega,hstep⟩) (by dsimp only;omega) [0,1,2]
  ·simp only[decide_eq_false_iff_not,Int.ofNat_lt,List.length_cons]at h1;obtain rfl:j=l.length:=by omega
   have:=hI.2;rw[List.drop_length,O3]at this;refine J.qr [1,2] λ_=>?_;exact⟨by rw[this],rfl⟩
def H7 (f:Int->Int->Int) (l:List Int):Int:=match l with
 | []=> -1
 | x::l=>O3 f l x
theorem b0h (c:Nat) (cs:List Value) (f:Int->Int->Int) (A:Atom) (hcal:n6 Tryz.prog c=true) (hf:∀x y,Fn Tryz.prog c (iI x::iI y::cs) [A] (Ps (iI (f x y)) [A]))
  (a:Option Nat) (cap:Nat) (l:List Int) (hn:l.length<1000000):FP 188 [slv a l.length cap,fnC c cs] [c9 3 1 a l.length cap (f6 l),A]
  (Ps (iI (H7 f l)) [c9 3 1 a l.length cap (f6 l),A]):=by
 refine FE [0,0] Tryz.func188 λX F hX=>?_;cases l with
 | nil=>
  refine J.qT λ_=>?_;exact J.qx [1,2]
 | cons x l=>
  refine J.qd (λ_ h0=>?_) λ_ h0=>?_
  ·simp only[beq_iff_eq,List.length_cons]at h0;omega
  refine J.qp (b8y c cs f A hcal hf a cap x l (by simp at hn;omega)) [1,2] λ_=>?_;exact J.qx [1,2]
def PkE (bt q bl r:Nat) (T:Tb):Atom:= .hp (HP.of [.pt bt 119 [pp q], .pt bl 113 [pp r],TbA r T])
theorem PkE_un {bt q bl r:Nat} {T:Tb} {h:Hl}:Sep [PkE bt q bl r T] h↔Sep [.pt bt 119 [pp q], .pt bl 113 [pp r],TbA r T] h:=Sep.hpOf
def y9 (t:Tl) (T:Tb) (k:Int):Bool:=t.usable k&&t.blank k&&(T.count k==0)
def A9 (t:Tl) (T:Tb) (k:Int):Bool:=decide (T.count k>0)&& !t.held k
def j5 (t:Tl) (T:Tb) (k:Int):Bool:=t.usable k&& !t.blank k&& !t.held k&&(T.count k==0)
theorem b5V (q:Nat) (t:Tl) (hb:t.b<=1000) (hl:t.l.length=t.b) (bt bl r:Nat) (T:Tb) (k:Int):FP 239 [iI k,pp bt,pp bl] [TlA q t,PkE bt q bl r T]
  (Ps (.bool (y9 t T k)) [TlA q t,PkE bt q bl r T]):=by
 refine FE [0,3,4] Tryz.func239 λX F hX=>?_;refine J.turn1 [2] rfl (λh s=>PkE_un.1 s) rfl ?_;refine J.qp (a0u q t hb hl k) [1] λ_=>?_;cases h3:t.usable k with
 | false=>
  refine J.q λ_=>?_;refine J.v (.bool false) rfl rfl (λhg a w he hs=>absurd hg (by simp[G.on])) ?_;refine J.q λ_=>?_;refine J.v (iI 0) rfl rfl (λhg a w he hs=>absurd hg (by simp[G.on])) ?_;refine J.q λ_=>?_;refine J.turn1 [2,3,4] rfl (λh s=>PkE_un.2 s) rfl ?_;refine J.qr [1,2] λ_=>?_;exact⟨by simp[y9,h3],rfl⟩
 | true=>
  refine J.qp (a3x q t hb hl k) [1] λ_=>?_;cases h2:t.blank k with
  | false=>
   refine J.q λ_=>?_;refine J.v (iI 0) rfl rfl (λhg a w he hs=>absurd hg (by simp[G.on])) ?_;refine J.q λ_=>?_;refine J.turn1 [2,3,4] rfl (λh s=>PkE_un.2 s) rfl ?_;refine J.qr [1,2] λ_=>?_;exact⟨by simp[y9,h3,h2],rfl⟩
  | true=>
   refine J.qp (H3 r T k) [4] λ_=>?_;refine J.q λ_=>?_;refine J.turn1 [2,3,4] rfl (λh s=>PkE_un.2 s) rfl ?_;refine J.qr [1,2] λ_=>?_;exact⟨by simp[y9,h3,h2],rfl⟩
theorem b3p (q:Nat) (t:Tl) (hb:t.b<=1000) (hl:t.l.length=t.b) (bt bl r:Nat) (T:Tb) (k:Int):FP 180 [iI k,pp bt,pp bl] [TlA q t,PkE bt q bl r T]
  (Ps (.bool (j5 t T k)) [TlA q t,PkE bt q bl r T]):=by
 refine FE [0,3,4] Tryz.func180 λX F hX=>?_;refine J.turn1 [2] rfl (λh s=>PkE_un.1 s) rfl ?_;refine J.qp (a0u q t hb hl k) [1] λ_=>?_;cases h4:t.usable k with
 | false=>
  refine J.q λ_=>?_;refine J.v (.bool false) rfl rfl (λhg a w he hs=>absurd hg (by simp[G.on])) ?_;refine J.q λ_=>?_;refine J.v (.bool false) rfl rfl (λhg a w he hs=>absurd hg (by simp[G.on])) ?_;refine J.q λ_=>?_;refine J.v (iI 0) rfl rfl (λhg a w he hs=>absurd hg (by simp[G.on])) ?_;refine J.q λ_=>?_;refine J.turn1 [2,3,4] rfl (λh s=>PkE_un.2 s) rfl ?_;refine J.qr [1,2] λ_=>?_;exact⟨by simp[j5,h4],rfl⟩
 | true=>
  refine J.qp (a3x q t hb hl k) [1] λ_=>?_;cases h3:t.blank k with
  | true=>
   refine J.q λ_=>?_;refine J.v (.bool false) rfl rfl (λhg a w he hs=>absurd hg (by simp[G.on])) ?_;refine J.q λ_=>?_;refine J.v (iI 0) rfl rfl (λhg a w he hs=>absurd hg (by simp[G.on])) ?_;refine J.q λ_=>?_;refine J.turn1 [2,3,4] rfl (λh s=>PkE_un.2 s) rfl ?_;refine J.qr [1,2] λ_=>?_;exact⟨by simp[j5,h4,h3],rfl⟩
  | false=>
   refine J.qp (a9Y q t hb hl k) [1] λ_=>?_;cases h2:t.held k with
   | true=>
    refine J.q λ_=>?_;refine J.v (iI 0) rfl rfl (λhg a w he hs=>absurd hg (by simp[G.on])) ?_;refine J.q λ_=>?_;refine J.turn1 [2,3,4] rfl (λh s=>PkE_un.2 s) rfl ?_;refine J.qr [1,2] λ_=>?_;exact⟨by simp[j5,h4,h3,h2],rfl⟩
   | false=>
    refine J.qp (H3 r T k) [4] λ_=>?_;refine J.q λ_=>?_;refine J.turn1 [2,3,4] rfl (λh s=>PkE_un.2 s) rfl ?_;refine J.qr [1,2] λ_=>?_;exact⟨by simp[j5,h4,h3,h2],rfl⟩
theorem b5U (q:Nat) (t:Tl) (hb:t.b<=1000) (hl:t.l.length=t.b) (bt bl r:Nat) (T:Tb) (k:Int):FP 187 [iI k,pp bl,pp bt] [TlA q t,PkE bt q bl r T]
  (Ps (.bool (A9 t T k)) [TlA q t,PkE bt q bl r T]):=by
 refine FE [0,4,3] Tryz.func187 λX F hX=>?_;refine J.turn1 [2] rfl (λh s=>PkE_un.1 s) rfl ?_;refine J.qp (H3 r T k) [4] λ_=>?_;refine J.q λ_=>?_;cases hc:decide (T.count k>0)with
 | false=>
  refine J.v (.bool false) rfl rfl (λhg a w he hs=>absurd hg (by simp[G.on])) ?_;refine J.q λ_=>?_;refine J.turn1 [2,3,4] rfl (λh s=>PkE_un.2 s) rfl ?_;refine J.qr [1,2] λ_=>?_;exact⟨by simp only[A9,hc];rfl,rfl⟩
 | true=>
  refine J.qp (a9Y q t hb hl k) [1] λ_=>?_;refine J.q λ_=>?_;refine J.turn1 [2,3,4] rfl (λh s=>PkE_un.2 s) rfl ?_;refine J.qr [1,2] λ_=>?_;exact⟨by simp only[A9,hc],rfl⟩
def b4s (p:Int->Bool) (l:List Int):Int:=match l.findIdx? p with
 | some k=>k
 | none=> -1
theorem b1I {p:Int->Bool} {l:List Int} {k:Nat} {x:Int} (h:l[k]? =some x) (h0:∀i<k,p (l.getD i 0)=false) (hp:p x=true):l.findIdx? p=some k:=by
 rw[List.findIdx?_eq_some_iff_getElem];obtain⟨h1,h2⟩:=List.getElem?_eq_some_iff.1 h;refine⟨h1,by rw[h2];exact hp,λj hj=>?_⟩;have:=h0 j hj;rw[List.getD_eq_getElem?_getD,List.getElem?_eq_getElem (by omega),Option.getD_some]at this;simp[this]
theorem b1J {p:Int->Bool} {l:List Int} (h0:∀i<l.length,p (l.getD i 0)=false):l.findIdx? p=none:=by
 rw[List.findIdx?_eq_none_iff];intro x hx;obtain⟨i,hi,rfl⟩:=List.mem_iff_getElem.1 hx;have:=h0 i hi
 rwa [List.getD_eq_getElem?_getD,List.getElem?_eq_getElem hi,Option.getD_some]at this
theorem b4r (p:Int->Bool) (l:List Int):decide (b4s p l>=0)=l.any p:=by
 unfold b4s;cases h:l.findIdx? p with
 | none=>
  rw[List.findIdx?_eq_none_iff]at h;have:l.any p=false:=by rw[List.any_eq_false];exactλx hx=>by simp[h x hx]
  rw[this];rfl
 | some k=>
  rw[List.findIdx?_eq_some_iff_getElem]at h;obtain⟨h1,h2,_⟩:=h;have:l.any p=true:=List.any_eq_true.2 ⟨l[k],List.getElem_mem _,h2⟩;rw[this];simp
theorem b2r (c:Nat) (cs:List Value) (p:Int->Bool) (A:Atom) (hcal:n6 Tryz.prog c=true) (l:List Int) (hf:∀x∈l,Fn Tryz.prog c (iI x::cs) [A] (Ps (.bool (p x)) [A]))
  (a:Option Nat) (n cap:Nat) (hl:l.length=n) (hn:n<=4611686018427387904):FP 216 [slv a n cap,fnC c cs] [c9 3 1 a n cap (f6 l),A]
  (Ps (iI (b4s p l)) [c9 3 1 a n cap (f6 l),A]):=by
 refine FE [0,0] Tryz.func216 λX F hX=>?_;refine J.q λ_=>?_;refine J.l (α:=Nat) (λk=>k<=n/\∀i<k,p (l.getD i 0)=false) (λk=>[si 8 k,si 7 n,sv 0 (slv a n cap),⟨1,fnC c cs,0, .tt⟩]) [] (λk=>[]) (λk=>n-k) (0) (⟨by omega,by omega⟩) λk hI=>?_;refine J.qd (λ_ h1=>?_) λ_ h1=>?_
 ·simp only[decide_eq_true_eq,Int.ofNat_lt]at h1;cases a with
  | none=>
   refine J.know (λh' s=>(s.get (i:=1) rfl).2.1) λhn0=>?_;omega
  | some g=>
   have hk:l[k]? =some (l.getD k 0):=by rw[List.getD_eq_getElem?_getD,List.getElem?_eq_getElem (by omega),Option.getD_some]
   refine J.q λ_=>?_;refine J.v (iI (l.getD k 0)) rfl rfl (λhg a w he hs=>?_) ?_
   ·exact l8 tk rfl rfl he rfl rfl rfl (hs.get (i:=1) rfl) (by rw[show 0+(k:Int).toNat*1=k from by omega,f6,List.getElem?_map,hk];rfl)
   refine J.q λ_=>?_;refine J.call hX hcal (hf (l.getD k 0) (List.mem_of_getElem? hk)) [2] 0 rfl rfl rfl rfl (by(repeat' (first | exact Conj.nil | refine Conj.cons ?_ ?_ | omega | exact hq0 | (simpa using hq0) | (exactλh=>h) | exact rfl | (intro hq;have hq0:=hq;try simp only[Bool.and_eq_true,Bool.or_eq_true,decide_eq_true_eq,Bool.not_eq_true',decide_eq_false_iff_not]at hq) | (simp;done) | (simp;omega) | decide))) rfl rfl (λ_=>rfl) ?_;refine cpq ⟨_,rfl,trivial,?_⟩;refine J.qd (λ_ h2=>?_) λ_ h2=>?_
   ·refine J.qr [1,2] λ_=>?_;exact⟨by rw[b4s,b1I hk hI.2 h2],rfl⟩
   ·refine J.q λ_=>?_;refine J.nx (k+1) (⟨by omega,λi hi=>by
     rcases Nat.lt_succ_iff_lt_or_eq.1 hi with h3 | h3
     ·exact hI.2 i h3
     ·rw[h3];exact h2⟩) (by omega) (λ_ s=>s)
 ·simp only[decide_eq_false_iff_not,Int.ofNat_lt]at h1;refine J.qr [1,2] λ_=>?_;exact⟨by rw[b4s,b1J (λi hi=>hI.2 i (by omega))],rfl⟩
theorem a2q (c:Nat) (cs:List Value) (p:Int->Bool) (A:Atom) (hcal:n6 Tryz.prog c=true) (l:List Int) (hf:∀x∈l,Fn Tryz.prog c (iI x::cs) [A] (Ps (.bool (p x)) [A]))
  (a:Option Nat) (n cap:Nat) (hl:l.length=n) (hn:n<=4611686018427387904):FP 162 [slv a n cap,fnC c cs] [c9 3 1 a n cap (f6 l),A]
  (Ps (.bool (l.any p)) [c9 3 1 a n cap (f6 l),A]):=by
 refine FE [0,0] Tryz.func162 λX F hX=>?_;refine J.qp (b2r c cs p A hcal l hf a n cap hl hn) [1,2] λ_=>?_;refine J.qr [1,2] λ_=>?_;exact⟨by rw[<- b4r],rfl⟩
theorem b3q (q:Nat) (t:Tl) (hb:t.b<=1000) (hl:t.l.length=t.b) (r:Nat) (T:Tb) (o:Int):FP 186 [pp q,pp r,iI o] [TlA q t,TbA r T]
  (λv As=>∃a c,v=slv a (f7 (y9 t T) o t.b).length c/\As=[TlA q t,TbA r T,c9 3 1 a (f7 (y9 t T) o t.b).length c (f6 (f7 (y9 t T) o t.b))]):=by
 refine FE [2,3,0] Tryz.func186 λX F hX=>?_;refine J.q λbb=>?_;refine J.turn1 [3,4,2] rfl (As:=[PkE (bb 0) q (bb (0+1)) r T]) (λh s=>PkE_un.2 s) rfl ?_;refine J.qc (a6F q t hb o 239 [pp (bb 0),pp (bb (0+1))] (y9 t T) (PkE (bb 0) q (bb (0+1)) r T) (by kernel_rfl) (λx=>b5V q t hb hl (bb 0) (bb (0+1)) r T x)) [1,3] λ_=>?_;rintro v As ⟨a,c,rfl,rfl⟩;refine⟨_,rfl,trivial,?_⟩;refine J.turn1 [3] rfl (λh s=>PkE_un.1 s) rfl ?_;refine J.qr [1,7,5] λ_=>?_;exact⟨a,c,rfl,rfl⟩
theorem b3s (q:Nat) (t:Tl) (hb:t.b<=1000) (hl:t.l.length=t.b) (r:Nat) (T:Tb) (o:Int):FP 129 [pp q,pp r,iI o] [TlA q t,TbA r T]
  (λv As=>v=iI (f7 (y9 t T) o t.b).length/\As=[TlA q t,TbA r T]):=by
 refine FE [2,3,0] Tryz.func129 λX F hX=>?_;refine J.qc (b3q q t hb hl r T o) [1,2] λ_=>?_;rintro v As ⟨a,c,rfl,rfl⟩;refine⟨_,rfl,trivial,?_⟩;exact J.qx [1,2]
theorem b5Y (q:Nat) (t:Tl) (hb:t.b<=1000) (hl:t.l.length=t.b) (bt:Nat) (x y:Int):FP 248 [iI x,iI y,pp bt] [.pt bt 119 [pp q],TlA q t]
  (λv As=>v=iI (C1 (t.wear x) (t.wear y))/\As=[.pt bt 119 [pp q],TlA q t]):=by
 refine FE [0,0,2] Tryz.func248 λX F hX=>?_;refine J.p (.of [1,4,13,16,10,23,27,28]) [5,6,7] [1,2] λ_=>?_;refine J.qp (a1e q t hb hl x) [2] λ_=>?_;refine J.qp (a1e q t hb hl y) [2] λ_=>?_;refine J.qp (K9 (t.wear x) (t.wear y)) [] λ_=>?_;exact J.qx [1,2]
theorem a9h (q:Nat) (t:Tl) (hb:t.b<=1000) (hl:t.l.length=t.b) (r:Nat) (T:Tb) (o:Int):FP 199 [pp q,pp r,iI o] [TlA q t,TbA r T]
  (λv As=>v=iI (H7 (λx y=>C1 (t.wear x) (t.wear y)) (f7 (y9 t T) o t.b))/\As=[TlA q t,TbA r T]):=by
 have hlen:=H9 (y9 t T) o t.b;refine FE [2,3,0] Tryz.func199 λX F hX=>?_;refine J.q λbb=>?_;refine J.cb (b3q q t hb hl r T o) [1,2] ?_;rintro v As ⟨a,c,rfl,rfl⟩;refine⟨_,rfl,trivial,?_⟩;refine J.q λ_=>?_;refine J.turn1 [3,1] rfl (As:=[.hp (HP.of [.pt (bb 0) 119 [pp q],TlA q t])]) (λh s=>Sep.hpOf.2 s) rfl ?_;refine J.q λ_=>?_;refine J.ca hX (by kernel_rfl) (b0h 248 [pp (bb 0)] (λx y=>C1 (t.wear x) (t.wear y)) _ (by kernel_rfl) (λx y=>Fn.pack (b5Y q t hb hl (bb 0) x y)) a c (f7 (y9 t T) o t.b) (by omega)) [4,3] 0 rfl rfl rfl rfl rfl rfl (λ_=>rfl) ?_;refine cpq ⟨_,rfl,trivial,?_⟩;refine J.turn1 [3] rfl (As:=[.pt (bb 0) 119 [pp q],TlA q t]) (λh s=>Sep.hpOf.1 s) rfl ?_;exact J.qx [5,2]
theorem b9f (b:Nat) (x y:Int):FP 190 [.slice (some ⟨b,0,none⟩) 2 2] [.pt b 3 [iI x,iI y]] (λv As=>v=iI (orI [x,y])/\As=[.pt b 3 [iI x,iI y]]):=by
 refine FE [2] Tryz.func190 λX F hX=>?_;refine J.q λ_=>?_;refine J.l (α:=Nat) (λk=>k<=2/\orI ([x,y].drop k)=orI [x,y]) (λk=>[si 8 k,si 7 2,⟨6, .slice (some ⟨b,0,none⟩) 2 2,2, .tt⟩,si 3 0]) [] (λk=>[]) (λk=>2-k) (0) (⟨by omega,rfl⟩) λk hI=>?_;refine J.qd (λ_ h1=>?_) λ_ h1=>?_
 ·simp only[decide_eq_true_eq]at h1;obtain⟨v,hv⟩:∃v,([x,y]:List Int)[k]? =some v:=⟨_,List.getElem?_eq_getElem (by simp;omega)⟩;have hd:([x,y]:List Int).drop k=v::([x,y]:List Int).drop (k+1):=by
   obtain⟨h2,h3⟩:=List.getElem?_eq_some_iff.1 hv;rw[List.drop_eq_getElem_cons h2,h3]
  refine J.q λ_=>?_;refine J.v (iI v) rfl rfl (λhg a w he hs=>?_) ?_
  ·exact i7 tk rfl rfl he rfl rfl rfl (hs.get (i:=1) rfl) (by
    rw[show 0+(k:Int).toNat*1=k from by omega,show([iI x,iI y]:List Value)=([x,y]:List Int).map (.int .i64)from rfl,List.getElem?_map,hv];rfl)
  refine J.qd (λ_ h2=>?_) λ_ h2=>?_
  ·simp only[bne_iff_ne,ne_eq]at h2;refine J.qr [1] λ_=>?_;refine⟨?_,rfl⟩;rw[<- hI.2,hd];simp[orI,h2]
  ·simp only[bne_eq_false_iff_eq]at h2;refine J.q λ_=>?_;refine J.nx (k+1) (⟨by omega,by rw[<- hI.2,hd,orI,if_neg (by simp[h2])]⟩) (by omega) (λ_ s=>s)
 ·simp only[decide_eq_false_iff_not]at h1;refine J.qr [1] λ_=>?_;refine⟨?_,rfl⟩;rw[<- hI.2,List.drop_of_length_le (by simp;omega)];rfl
theorem b1i (q:Nat) (t:Tl) (hb:t.b<=1000) (hl:t.l.length=t.b) (bt bl r:Nat) (T:Tb) (x y:Int):FP 189 [iI x,iI y,pp bl,pp bt] [TlA q t,PkE bt q bl r T]
  (λv As=>v=iI (orI [C1 (T.count x) (T.count y),C1 (t.wear x) (t.wear y)])/\As=[TlA q t,PkE bt q bl r T]):=by
 refine FE [0,0,4,3] Tryz.func189 λX F hX=>?_;refine J.turn1 [2] rfl (λh s=>PkE_un.1 s) rfl ?_;refine J.p (.of [1,4,13,16,29,32,41,44,10,22,26,38,51,55,59,63,64]) [12,13,14,15,16] [1,2,3,4] λ_=>?_;refine J.qp (H3 r T x) [4] λ_=>?_;refine J.qp (H3 r T y) [4] λ_=>?_;refine J.qp (K9 (T.count x) (T.count y)) [] λ_=>?_;refine J.qp (a1e q t hb hl x) [1] λ_=>?_;refine J.qp (a1e q t hb hl y) [1] λ_=>?_;refine J.qp (K9 (t.wear x) (t.wear y)) [] λ_=>?_;refine J.q λbs=>?_;refine J.cb (b9f (bs 0) (C1 (T.count x) (T.count y)) (C1 (t.wear x) (t.wear y))) [5] ?_;refine cpq ⟨_,rfl,(by first | exact trivial | (repeat' (first | exact trivial | refine⟨rfl,?_⟩))),?_⟩;refine J.q λ_=>?_;refine J.turn1 [2,3,4] rfl (λh s=>PkE_un.2 s) rfl ?_;exact J.qx [1,2]
theorem a7V (q:Nat) (t:Tl) (hb:t.b<=1000) (hl:t.l.length=t.b) (r:Nat) (T:Tb) (o:Int):FP 130 [pp q,pp r,iI o] [TlA q t,TbA r T]
  (λv As=>v=iI (H7 (λx y=>orI [C1 (T.count x) (T.count y),C1 (t.wear x) (t.wear y)]) (f7 (A9 t T) o t.b))/\As=[TlA q t,TbA r T]):=by
 have hlen:=H9 (A9 t T) o t.b;refine FE [2,3,0] Tryz.func130 λX F hX=>?_;refine J.q λbb=>?_;refine J.turn1 [3,4,2] rfl (As:=[PkE (bb 0) q (bb (0+1)) r T]) (λh s=>PkE_un.2 s) rfl ?_;refine J.qc (a6F q t hb o 187 [pp (bb (0+1)),pp (bb 0)] (A9 t T) (PkE (bb 0) q (bb (0+1)) r T) (by kernel_rfl) (λx=>b5U q t hb hl (bb 0) (bb (0+1)) r T x)) [1,3] λ_=>?_;rintro v As ⟨a,c,rfl,rfl⟩;refine⟨_,rfl,trivial,?_⟩;refine J.q λ_=>?_;refine J.turn1 [1,3] rfl (As:=[.hp (HP.of [TlA q t,PkE (bb 0) q (bb (0+1)) r T])]) (λh s=>Sep.hpOf.2 s) rfl ?_;refine J.q λ_=>?_;refine J.ca hX (by kernel_rfl) (b0h 189 [pp (bb (0+1)),pp (bb 0)] (λx y=>orI [C1 (T.count x) (T.count y),C1 (t.wear x) (t.wear y)]) _ (by kernel_rfl) (λx y=>Fn.pack (b1i q t hb hl (bb 0) (bb (0+1)) r T x y)) a c (f7 (A9 t T) o t.b) (by omega)) [5,1] 0 rfl rfl rfl rfl rfl rfl (λ_=>rfl) ?_;refine cpq ⟨_,rfl,trivial,?_⟩;refine J.turn1 [1] rfl (As:=[TlA q t,PkE (bb 0) q (bb (0+1)) r T]) (λh s=>Sep.hpOf.1 s) rfl ?_;refine J.turn1 [6] rfl (λh s=>PkE_un.1 s) rfl ?_;exact J.qx [1,8]
theorem b0i (q:Nat) (t:Tl) (hb:t.b<=1000) (hl:t.l.length=t.b) (r:Nat) (T:Tb) (o:Int):FP 126 [pp q,pp r,iI o] [TlA q t,TbA r T]
  (λv As=>∃a c,v=slv a (f7 (j5 t T) o t.b).length c/\As=[TlA q t,TbA r T,c9 3 1 a (f7 (j5 t T) o t.b).length c (f6 (f7 (j5 t T) o t.b))]):=by
 refine FE [2,3,0] Tryz.func126 λX F hX=>?_;refine J.q λbb=>?_;refine J.turn1 [3,4,2] rfl (As:=[PkE (bb 0) q (bb (0+1)) r T]) (λh s=>PkE_un.2 s) rfl ?_;refine J.qc (a6F q t hb o 180 [pp (bb 0),pp (bb (0+1))] (j5 t T) (PkE (bb 0) q (bb (0+1)) r T) (by kernel_rfl) (λx=>b3p q t hb hl (bb 0) (bb (0+1)) r T x)) [1,3] λ_=>?_;rintro v As ⟨a,c,rfl,rfl⟩;refine⟨_,rfl,trivial,?_⟩;refine J.turn1 [3] rfl (λh s=>PkE_un.1 s) rfl ?_;refine J.qr [1,7,5] λ_=>?_;exact⟨a,c,rfl,rfl⟩
def a9d (t:Tl) (T:Tb) (b i:Int):Bool:=IntKind.i64.wrap ((BitVec.ofInt IntKind.i64.bits ((Tb.look T.at_ i).getD AtV.zero).mask&&& BitVec.ofInt IntKind.i64.bits (Tl.andN (L.all t.d) (t.mask b))).toNat:Int) !=0
theorem b5Z (q:Nat) (t:Tl) (hb:t.b<=1000) (hl:t.l.length=t.b) (bt bl bb r:Nat) (T:Tb) (b i:Int):FP 207 [iI i,pp bl,pp bt,pp bb] [TlA q t, .pt bt 119 [pp q], .pt bl 113 [pp r],TbA r T, .pt bb 3 [iI b]]
  (λv As=>v= .bool (a9d t T b i)/\As=[TlA q t, .pt bt 119 [pp q], .pt bl 113 [pp r],TbA r T, .pt bb 3 [iI b]]):=by
 refine FE [0,4,3,6] Tryz.func207 λX F hX=>?_;refine J.qp (a1R r T i) [4] λ_=>?_;refine J.p (.of [1,17,21,6,8,14,27,28,32]) [6,7,8] [1,2,3,4,5] λ_=>?_;refine J.qp (a3u q t) [1] λ_=>?_;refine J.qp (b0u t.d) [] λ_=>?_;refine J.qp (R6 q t hb hl b) [1] λ_=>?_;exact J.qx [1,2,3,4,5]
def P8 (t:Tl) (T:Tb) (b:Int):Bool:=(T.ins b).any (a9d t T b)
theorem b6a (q:Nat) (t:Tl) (hb:t.b<=1000) (hl:t.l.length=t.b) (bt bl r:Nat) (T:Tb) (n:Nat) (hlog:T.logical=(n:Int)) (hn:n<=65536) (b:Int):FP 206 [iI b,pp bl,pp bt] [TlA q t,PkE bt q bl r T]
  (λv As=>v= .bool (P8 t T b)/\As=[TlA q t,PkE bt q bl r T]):=by
 have hlen:(T.ins b).length<=65536:=by
  unfold Tb.ins;split
  ·simp
  ·refine Nat.le_trans (T.inK_len b _) ?_;rw[hlog];omega
 refine FE [0,4,3] Tryz.func206 λX F hX=>?_;refine J.turn1 [2] rfl (λh s=>PkE_un.1 s) rfl ?_;refine J.q λbb=>?_;refine J.cb (b2N r T n hlog hn b) [4] ?_;rintro v As ⟨a,c,rfl,rfl⟩;refine⟨_,rfl,trivial,?_⟩;refine J.q λ_=>?_;refine J.turn1 [1,2,3,4,5] rfl (As:=[.hp (HP.of [TlA q t, .pt bt 119 [pp q], .pt bl 113 [pp r],TbA r T, .pt (bb 0) 3 [iI b]])]) (λh s=>Sep.hpOf.2 s) rfl ?_;refine J.q λ_=>?_;refine J.ca hX (by kernel_rfl) (a2q 207 [pp bl,pp bt,pp (bb 0)] (a9d t T b) _ (by kernel_rfl) (T.ins b) (λi _=>Fn.pack (b5Z q t hb hl bt bl (bb 0) r T b i)) a (T.ins b).length c rfl (by omega)) [6,1] 0 rfl rfl rfl rfl rfl rfl (λ_=>rfl) ?_;refine cpq ⟨_,rfl,trivial,?_⟩;refine J.turn1 [1] rfl (As:=[TlA q t, .pt bt 119 [pp q], .pt bl 113 [pp r],TbA r T, .pt (bb 0) 3 [iI b]]) (λh s=>Sep.hpOf.1 s) rfl ?_;refine J.turn1 [7,8,9] rfl (λh s=>PkE_un.2 s) rfl ?_;exact J.qx [1,7]
theorem a9i (q:Nat) (t:Tl) (hb:t.b<=1000) (hl:t.l.length=t.b) (r:Nat) (T:Tb) (n:Nat) (hlog:T.logical=(n:Int)) (hn:n<=65536):FP 145 [pp q,pp r] [TlA q t,TbA r T]
  (λv As=>∃a c,v=slv a (f7 (P8 t T) (-1) t.b).length c/\As=[TlA q t,TbA r T,c9 3 1 a (f7 (P8 t T) (-1) t.b).length c (f6 (f7 (P8 t T) (-1) t.b))]):=by
 refine FE [2,3] Tryz.func145 λX F hX=>?_;refine J.q λbb=>?_;refine J.turn1 [3,4,2] rfl (As:=[PkE (bb 0) q (bb (0+1)) r T]) (λh s=>PkE_un.2 s) rfl ?_;refine J.qc (a6F q t hb (-1) 206 [pp (bb (0+1)),pp (bb 0)] (P8 t T) (PkE (bb 0) q (bb (0+1)) r T) (by kernel_rfl) (λx=>b6a q t hb hl (bb 0) (bb (0+1)) r T n hlog hn x)) [1,3] λ_=>?_;rintro v As ⟨a,c,rfl,rfl⟩;refine⟨_,rfl,trivial,?_⟩;refine J.turn1 [3] rfl (λh s=>PkE_un.1 s) rfl ?_;refine J.qr [1,7,5] λ_=>?_;exact⟨a,c,rfl,rfl⟩
end Go.Proofs.YtgkpkpbnonmopaaGreat
namespace Go.Proofs.YtgkpkpbnonmopaaGreat
namespace Tb
def cntB (l:List (Int×AtV)) (b:Int):Nat:=l.countP λx=>x.2.block==b
structure Ok (t:Tb):Prop where
 keys:(t.at_.map (·.1)).Nodup
 rng:∀x∈t.at_,0<=x.1/\x.1<t.logical
 cnt:∀b,t.count b=(cntB t.at_ b:Int)
 log:0<=t.logical/\t.logical<=65536
theorem look_none {α:Type} {k:Int}:∀{l:List (Int×α)},look l k=none↔k∉l.map (·.1)
 | []=>by simp[look]
 | x::l=>by
  simp only[look,List.map_cons,List.mem_cons,not_or];split
  ·rename_i h;simp[h]
  ·rename_i h;rw[look_none];simp[h]
theorem look_mem {α:Type} {k:Int} {a:α}:∀{l:List (Int×α)},look l k=some a->(k,a)∈l
 | [],h=>by simp[look]at h
 | x::l,h=>by
  simp only[look]at h;split at h
  ·rename_i e;injection h with h;subst h;subst e;exact List.mem_cons_self ..
  ·exact List.mem_cons_of_mem _ (look_mem h)
theorem put1_new {α:Type} {k:Int} {v:α}:∀{l:List (Int×α)},look l k=none->put1 l k v=l++[(k,v)]
 | [],_=>rfl
 | x::l,h=>by
  simp only[look]at h;split at h
  ·cases h
  ·rename_i e;simp only[put1,if_neg e,put1_new h,List.cons_append]
theorem put1_keys {α:Type} {k:Int} {v:α}:∀{l:List (Int×α)},(look l k).isSome=true->(put1 l k v).map (·.1)=l.map (·.1)
 | [],h=>by simp[look]at h
 | x::l,h=>by
  simp only[look]at h;simp only[put1];split
  ·rename_i e;simp[e]
  ·rename_i e;rw[if_neg e]at h;simp only[List.map_cons,put1_keys h]
theorem cntB_put {k:Int} {v:AtV} (b:Int):∀{l:List (Int×AtV)},(l.map (·.1)).Nodup->(cntB (put1 l k v) b:Int)=(cntB l b:Int)-(match look l k with | some a=>if a.block=b then 1 else 0 | none=>0)+(if v.block=b then 1 else 0)
 | [],_=>by simp[put1,look,cntB];split<;>simp_all
 | x::l,h=>by
  simp only[put1,look]
  by_cases e:k=x.1
  ·rw[if_pos e,if_pos e];simp only[cntB,List.countP_cons,beq_iff_eq];split<;>split<;>omega
  ·rw[if_neg e,if_neg e];have:=cntB_put (k:=k) (v:=v) b (l:=l) (by simp only[List.map_cons,List.nodup_cons]at h;exact h.2);simp only[cntB,List.countP_cons]at this ⊢;rw[Int.natCast_add,Int.natCast_add,this];omega
theorem count_put1 (c:List (Int×Int)) (k v b:Int):(look (put1 c k v) b).getD 0=if b=k then v else(look c b).getD 0:=by
 rw[look_put1];split<;>rfl
theorem ok_spec {t:Tb} {e:En} (h:t.ok e=true):0<=e.lpn/\e.lpn<t.logical:=by
 simp only[ok,Bool.not_eq_true',Bool.or_eq_false_iff,decide_eq_false_iff_not]at h;omega
theorem Ok.new (n:Int):(Tb.new n).Ok:=⟨by simp[Tb.new],by simp[Tb.new],λb=>rfl,by simp only[Tb.new];omega⟩
theorem Ok.put {t:Tb} (h:t.Ok) (e:En) (b r s m:Int):(t.put e b r s m).Ok:=by
 unfold Tb.put;split
 ·rename_i hp;simp only[putB,Bool.and_eq_true]at hp;have ho:=ok_spec hp.1;have hk:(put1 t.at_ e.lpn ⟨b,r,s,m,e.seq,e.role⟩).map (·.1)=t.at_.map (·.1)\/look t.at_ e.lpn=none/\(put1 t.at_ e.lpn ⟨b,r,s,m,e.seq,e.role⟩).map (·.1)=t.at_.map (·.1)++[e.lpn]:=by
   cases hl:look t.at_ e.lpn with
   | none=>right;exact⟨rfl,by rw[put1_new hl];simp⟩
   | some a=>left;exact put1_keys (by rw[hl];rfl)
  refine⟨?_,?_,?_,h.log⟩
  ·rcases hk with hk | ⟨hn,hk⟩
   ·show((put1 _ _ _).map _).Nodup;rw[hk];exact h.keys
   ·show((put1 _ _ _).map _).Nodup;rw[hk,List.nodup_append];exact⟨h.keys,by simp,λa ha c hc=>by simp at hc;subst hc;exactλe=>look_none.1 hn (e▸ha)⟩
  ·intro x hx;have hx:x.1∈(put1 t.at_ e.lpn ⟨b,r,s,m,e.seq,e.role⟩).map (·.1):=List.mem_map_of_mem hx;have hr:∀k∈t.at_.map (·.1),0<=k/\k<t.logical:=λk hk=>by
    obtain⟨y,hy,rfl⟩:=List.mem_map.1 hk;exact h.rng y hy
   rcases hk with hk | ⟨_,hk⟩
   ·rw[hk]at hx;exact hr _ hx
   ·rw[hk,List.mem_append]at hx;rcases hx with hx | hx
    ·exact hr _ hx
    ·simp at hx;rw[hx];exact ho
  ·intro c;show(look (cnt2 t e b) c).getD 0=(cntB (put1 t.at_ e.lpn ⟨b,r,s,m,e.seq,e.role⟩) c:Int);rw[cntB_put c h.keys];have h1:∀d,(look (cnt1 t e) d).getD 0=(cntB t.at_ d:Int)-(match look t.at_ e.lpn with | some a=>if a.block=d then 1 else 0 | none=>0):=by
    intro d;have hd:(look t.cnt d).getD 0=(cntB t.at_ d:Int):=h.cnt d;unfold cnt1;cases hl:look t.at_ e.lpn with
    | none=>dsimp only;rw[hd];omega
    | some a=>
     dsimp only;rw[count_put1];split
     ·rename_i e1;subst e1;rw[if_pos rfl,h.cnt]
     ·rename_i e1;rw[if_neg (λe=>e1 e.symm),hd];omega
   unfold cnt2;rw[count_put1,h1 b,h1 c];dsimp only
   by_cases e1:c=b
   ·subst e1;rw[if_pos rfl,if_pos rfl]
   ·rw[if_neg e1,if_neg (λe=>e1 e.symm)];omega
 ·exact h
theorem countP_one {p q:Nat->Bool} {i0:Nat} (h1:∀i,i≠i0->p i=q i) (h2:q i0=false):∀n,(List.range n).countP p=(List.range n).countP q+(if i0<n/\p i0=true then 1 else 0)
 | 0=>by simp
 | n+1=>by
  rw[List.range_succ,List.countP_append,List.countP_append,countP_one h1 h2 n];simp only[List.countP_singleton]
  by_cases e:n=i0
  ·subst e;rw[h2];cases p n<;>simp
  ·rw[h1 n e]
   by_cases e2:i0<n
   ·simp[e2,show i0<n+1 by omega];omega
   ·simp[e2,show¬i0<n+1 by omega]
theorem at_cnt {α:Type} (n:Nat):∀l:List (Int×α),(l.map (·.1)).Nodup->(∀x∈l,0<=x.1/\x.1<(n:Int))->l.length=(List.range n).countP λi:Nat=>(look l (i:Int)).isSome
 | [],_,_=>by simp[look]
 | x::l,h1,h2=>by
  simp only[List.map_cons,List.nodup_cons]at h1;have ih:=at_cnt n l h1.2 (λy hy=>h2 y (List.mem_cons_of_mem _ hy));have hx:=h2 x (List.mem_cons_self ..);have hn:look l x.1=none:=look_none.2 h1.1;rw[countP_one (q:=λi:Nat=>(look l (i:Int)).isSome) (i0:=x.1.toNat)]
  ·rw[<- ih];have:((x.1.toNat:Nat):Int)=x.1:=by omega
   simp only[this,look,if_true,Option.isSome_some,and_true,List.length_cons];rw[if_pos (by omega)]
  ·intro i hi;simp only[look];rw[if_neg (by omega)]
  ·have:((x.1.toNat:Nat):Int)=x.1:=by omega
   simp only[this,hn];rfl
theorem len_le {α:Type} (n:Nat) (l:List (Int×α)) (h1:(l.map (·.1)).Nodup) (h2:∀x∈l,0<=x.1/\x.1<(n:Int)):l.length<=n:=by
 rw[at_cnt n l h1 h2];have:=List.countP_le_length (p:=λi:Nat=>(look l (i:Int)).isSome) (l:=List.range n)
 rwa [List.length_range]at this
theorem Ok.len {t:Tb} (h:t.Ok):t.at_.length<=65536:=by
 have:=len_le t.logical.toNat t.at_ h.keys (λx hx=>by have:=h.rng x hx;omega);have:=h.log;omega
theorem Ok.bd {t:Tb} (h:t.Ok) (k:Int):0<=t.count k/\t.count k<=1000000:=by
 rw[h.cnt];have:cntB t.at_ k<=t.at_.length:=List.countP_le_length;have:=h.len;omega
theorem range_cnt (b:Int) (n:Nat):∀l:List (Int×AtV),(l.map (·.1)).Nodup->(∀x∈l,0<=x.1/\x.1<(n:Int))->(List.range n).countP (λi:Nat=>match look l (i:Int)with | some a=>a.block==b | none=>false)=cntB l b
 | [],_,_=>by simp[look,cntB]
 | x::l,h1,h2=>by
  simp only[List.map_cons,List.nodup_cons]at h1;have ih:=range_cnt b n l h1.2 (λy hy=>h2 y (List.mem_cons_of_mem _ hy));have hx:=h2 x (List.mem_cons_self ..);have hn:look l x.1=none:=look_none.2 h1.1;rw[countP_one (q:=λi:Nat=>match look l (i:Int)with | some a=>a.block==b | none=>false) (i0:=x.1.toNat)]
  ·rw[ih,cntB,cntB,List.countP_cons];have:((x.1.toNat:Nat):Int)=x.1:=by omega
   simp only[this,look,if_true];have hlt:x.1.toNat<n:=by omega
   simp only[hlt,true_and]
  ·intro i hi;simp only[look];rw[if_neg (by omega)]
  ·have:((x.1.toNat:Nat):Int)=x.1:=by omega
   simp only[this,hn]
theorem Ok.inK_len {t:Tb} (h:t.Ok) (b:Int):((inK t b t.logical.toNat).length:Int)=t.count b:=by
 rw[h.cnt,inK,List.length_map,<- List.countP_eq_length_filter,<- range_cnt b t.logical.toNat t.at_ h.keys (λx hx=>by have:=h.rng x hx;omega)];rfl
theorem Ok.ins {t:Tb} (h:t.Ok) (b:Int):t.ins b=inK t b t.logical.toNat:=by
 unfold Tb.ins;split
 ·rename_i h0;have:=h.inK_len b;rw[h0]at this;have:(inK t b t.logical.toNat).length=0:=by omega
  exact(List.eq_nil_of_length_eq_zero this).symm
 ·rfl
theorem Ok.ins_len {t:Tb} (h:t.Ok) (b:Int):((t.ins b).length:Int)=t.count b:=by rw[h.ins,h.inK_len]
theorem put_logical (t:Tb) (e:En) (b r s m:Int):(t.put e b r s m).logical=t.logical:=by unfold Tb.put;split<;>rfl
end Tb
end Go.Proofs.YtgkpkpbnonmopaaGreat
