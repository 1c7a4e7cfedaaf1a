/- Helpers, proved here. No condition. -/
import Derived.Test.YtkdlnfdjjifedaaGreatD06
import Derived.Test.YtkdlnfdjjifedaaGreatD12
set_option maxRecDepth 20000
set_option linter.all false
namespace Go.Proofs.YtkdlnfdjjifedaaGreat
open Go Go.RowKit
def cellsE (l:List En):List Value:=l.flatMap enL
theorem enL_len (e:En):(enL e).length=19:=rfl
theorem cellsE_at:∀(l:List En) (r:List Value) (k:Nat) (x:En),l[k]? =some x->((cellsE l++r).drop (k*19)).take 19=enL x
 | [],_,_,_,h=>by simp at h
 | y::l,r,0,x,h=>by
  simp at h;subst h;rw[Nat.zero_mul,List.drop_zero];simp only[cellsE,List.flatMap_cons,List.append_assoc];exact List.take_left' rfl
 | y::l,r,k+1,x,h=>by
  have:=cellsE_at l r k x (by simpa using h);rw[show(k+1)*19=19+k*19 from by omega,<- List.drop_drop];simp only[cellsE,List.flatMap_cons,List.append_assoc]at this ⊢;rw[List.drop_left' (enL_len y)];exact this
theorem cellsS_snoc (l:List Sh) (s:Sh):cellsS (l++[s])=cellsS l++shL s:=by simp[cellsS]
namespace W
def parS (b r m:Int) (l:List En):Sh:=
 let x:=over (l.map (sh b r m))
 ⟨x.1,(x.2.toNat/72057594037927936:Nat),(x.2.toNat/1099511627776 % 65536:Nat),(x.2.toNat % 1099511627776:Nat),2,b,r,m⟩
def parB (b r m:Int) (l:List En):Bool:=decide ((l.length:Int)=G.slots m)&& !l.isEmpty&&l.all (ok b r m)
def par (b r m:Int) (l:List En):Sh:=if parB b r m l then parS b r m l else Sh.zero
end W
theorem ovM_bd (m x:Int):0<=W.ovM m x/\W.ovM m x<18446744073709551616:=by
 have:W.ovM m x=((BitVec.ofInt 64 m ^^^ BitVec.ofInt 64 x).toNat:Int) % 18446744073709551616:=by simp[W.ovM,IntKind.wrap,IntKind.bits,IntKind.signed]
 rw[this];omega
theorem over_nat:∀(l:List Sh) (x:List UInt8×Int),0<=x.2/\x.2<18446744073709551616->∃k:Nat,(l.foldl W.over1 x).2=k/\k<18446744073709551616
 | [],x,h=>⟨x.2.toNat,by simp only[List.foldl_nil];omega,by omega⟩
 | s::l,x,_=>over_nat l _ (ovM_bd _ _)
theorem gslots_bd (m:Int):0<=G.slots m/\G.slots m<=7:=by
 have:=L.count_le m;unfold G.slots;split<;>omega
theorem w_Parity (b r m:Int) (A:Atom) (a:Option Addr) (n cap:Nat) (l:List En) (hA:Rd A a 19 n (cellsE l)) (hl:l.length=n) (hd:∀s∈l,s.data.length=16):Fn Tryz.prog 227 [.int .i64 b, .int .i64 r, .int .i64 m, .slice a n cap] [A]
  (λv As=>v= .tuple #[shV (W.par b r m l), .bool (W.parB b r m l)]/\As=[A]):=by
 refine Fn.enter [0,0,0,0] Tryz.func227 rfl rfl rfl λX F hX=>?_;refine J.q hX λbb=>?_;refine J.cb hX (g_Slots m) [] ?_;refine cpq ⟨_,rfl,trivial,?_⟩;refine J.q hX λ_=>?_;refine J.cond rfl (λh1=>?_) (λh1=>?_)
 ·refine J.q hX λ_=>?_;refine J.ru hX [1] ?_;have:W.parB b r m l=false:=by
   simp only[Bool.or_eq_true,bne_iff_ne,ne_eq,beq_iff_eq]at h1;unfold W.parB;rw[hl];rcases h1 with h1 | h1
   ·simp[h1]
   ·have:l=[]:=List.eq_nil_of_length_eq_zero (by omega);subst this;simp
  exact⟨by rw[W.par,this];rfl,rfl⟩
 simp only[Bool.or_eq_false_iff,bne_eq_false_iff_eq,beq_eq_false_iff_ne,ne_eq]at h1;have hn:n<=1000:=by have:=gslots_bd m;omega
 refine J.turn1 [] rfl (As:=[ownA 225 23 none 0 0 (cellsS [])]) (λh s=>Sep.one ⟨rfl,rfl,rfl⟩) rfl ?_;refine J.q hX λ_=>?_;refine J.lo (α:=(Nat×Option Nat×Nat)) (λz=>z.1<=n/\(l.take z.1).all (W.ok b r m)=true) (λz=>[⟨31, .int .i64 z.1,0, .tt⟩,⟨30, .int .i64 n,0, .tt⟩,⟨29, .slice a n cap,0, .tt⟩,⟨10,slv z.2.1 z.1 z.2.2,0, .tt⟩,⟨8, .pointer (some ⟨bb 0,0,none⟩),3, .tt⟩,⟨0, .int .i64 b,0, .tt⟩,⟨1, .int .i64 r,0, .tt⟩,⟨2, .int .i64 m,0, .tt⟩]) [3] (λz=>[ownA 225 23 z.2.1 z.1 z.2.2 (cellsS ((l.take z.1).map (W.sh b r m)))]) (λz=>n-z.1) ((0,none,0)) (⟨Nat.zero_le _,rfl⟩) rfl ?_ (λ_=>rfl) λz hI=>?_
 ·rfl
 obtain⟨k,a',cap'⟩:=z;dsimp only at hI ⊢;refine J.q hX λ_=>?_;refine J.cond rfl (λh2=>?_) (λh2=>?_)
 ·simp only[decide_eq_true_eq,Int.ofNat_lt]at h2;obtain⟨e,he0⟩:∃e,l[k]? =some e:=⟨_,List.getElem?_eq_getElem (by omega)⟩;have hel:e.data.length=16:=hd e (List.mem_of_getElem? he0);refine J.know (p:=∃g o,a=some ⟨g,o,none⟩) (λh' s=>Rd.addr (hA _ (s.get (i:=1) rfl)) (by omega)) λhk=>?_;obtain⟨g,o,rfl⟩:=hk;refine J.q hX λ_=>?_;refine J.val hX (enV e) 0 rfl rfl (λhg a w he hw=>?_) rfl trivial ?_
  ·exact rdN_run tk rfl rfl he rfl rfl rfl (hA _ (hw.get (i:=1) rfl)) (by omega) (j:=k*19) (by omega) (by have:=cellsE_at l [] k e he0;rwa [List.append_nil]at this) rfl
  refine J.q hX λ_=>?_;refine J.cb hX (w_Own b r m e hel) [] ?_;refine cpq ⟨_,rfl,trivial,?_⟩;have htk:l.take (k+1)=l.take k++[e]:=by rw[List.take_add_one,he0];rfl
  refine J.q hX λ_=>?_;refine J.cond rfl (λh3=>?_) (λh3=>?_)
  ·simp only[Bool.not_eq_true']at h3;refine J.q hX λ_=>?_;refine J.ru hX [1] ?_;have:W.parB b r m l=false:=by
    unfold W.parB;have:l.all (W.ok b r m)=false:=by
     rw[List.all_eq_false];exact⟨e,List.mem_of_getElem? he0,by simp[h3]⟩
    rw[this];simp
   exact⟨by rw[W.par,this];rfl,rfl⟩
  ·simp only[Bool.not_eq_false']at h3;rw[show W.own b r m e=W.sh b r m e from if_pos h3];refine J.q hX λ_=>?_;refine J.append hX tk 3 6 0 rfl rfl rfl rfl rfl rfl rfl rfl rfl rfl rfl rfl rfl rfl rfl rfl ?_ ?_ (λ_=>rfl) λa2 cap2=>⟨_,(congrArg (λz=>lset _ 3 (ownA _ _ _ _ _ z)) (cellsS_snoc _ (W.sh b r m e)).symm).trans rfl,trivial,?_⟩
   ·simp only[maxLen];omega
   ·omega
   rw[show(l.take k).map (W.sh b r m)++[W.sh b r m e]=(l.take (k+1)).map (W.sh b r m)from by rw[htk,List.map_append];rfl];refine J.q hX λ_=>?_;refine J.nS ((k+1,a2,cap2)) (⟨by dsimp only;omega,by dsimp only;rw[htk,List.all_append,hI.2];simp[h3]⟩) (by dsimp only;omega) [0,1,2,3] rfl rfl
 ·simp only[decide_eq_false_iff_not,Int.ofNat_lt]at h2;obtain rfl:k=n:=by omega
  rw[show l.take k=l from List.take_of_length_le (by omega)]at*;refine J.q hX λ_=>?_;refine J.cb hX (w_Over a' k cap' (l.map (W.sh b r m)) (by rw[List.length_map,hl]) hn (λs hs=>by obtain⟨e,he,rfl⟩:=List.mem_map.1 hs;exact hd e he)) [3] ?_;refine cpq ⟨_,rfl,trivial,?_⟩;obtain⟨mm,hm1,hm2⟩:=over_nat (l.map (W.sh b r m)) (zeros16,0) ⟨by decide,by decide⟩;have hm1:(W.over (l.map (W.sh b r m))).2=(mm:Int):=hm1;rw[hm1];refine J.q hX λ_=>?_;refine J.cb hX (h_Of mm hm2) [] ?_;refine cpq ⟨_,rfl,trivial,?_⟩;refine J.q hX λ_=>?_;refine J.ru hX [1] ?_;have hB:W.parB b r m l=true:=by
   unfold W.parB;rw[hl,hI.2];have:l.isEmpty=false:=by
    cases l with
    | nil=>simp at hl;omega
    | cons x l=>rfl
   rw[this];simp[h1.1]
  refine⟨?_,rfl⟩;have hx:mm=(W.over (l.map (W.sh b r m))).2.toNat:=by rw[hm1];rfl
  rw[W.par,hB,if_pos rfl,W.parS,<- hx];rfl
theorem readV_len {N:Nand} (hN:N.Ok) (x y z:Int):(N.readV x y z).length=32:=by
 unfold Nand.readV;split
 ·rfl
 ·rename_i h;simp only[ne_eq,Decidable.not_not]at h;obtain⟨_,_,hr⟩:=Nand.refuses_zero h;split
  ·rfl
  ·rename_i c hc;split
   ·rfl
   ·exact(hN.cells _ _ (by omega) (by omega)).2 c (List.mem_of_getElem? hc)
namespace M
def bad (s:Sh) (x y z:Int):Bool:=s.block !=y||s.row !=z|| !L.has s.mask x||(G.parity s.mask s.block s.row==x) !=(s.kind==2)
def look (N:Nand) (x y z:Int):Sh×Int:=
 let e:=N.readE x y z
 if e=0 then
  let p:=N.readV x y z
  if S.getE p≠0\/bad (S.getV p) x y z=true then(Sh.zero,3)else(S.getV p,1)
 else if e=5 then(Sh.zero,2)
 else if e=8\/e=9\/e=3\/e=12 then(Sh.zero,4)
 else(Sh.zero,3)
end M
theorem m_Look (p:Nat) (N:Nand) (hN:N.Ok) (hR:N.Room) (x y z:Int):Fn Tryz.prog 163 [.pointer (some ⟨p,0,none⟩), .agg #[.int .i64 x, .int .i64 y, .int .i64 z]] [NandA p N]
  (λv As=>v= .tuple #[shV (M.look N x y z).1, .int .i64 (M.look N x y z).2]/\As=[NandA p N]):=by
 refine Fn.enter [2,0] Tryz.func163 rfl rfl rfl λX F hX=>?_;refine J.q hX λ_=>?_;refine J.cb hX (n_Read p N hN x y z) [1] ?_;refine cpq ⟨_,rfl,trivial,?_⟩;refine J.q hX λ_=>?_;refine J.cond rfl (λh1=>?_) (λh1=>?_)
 ·simp only[beq_iff_eq]at h1;refine J.q hX λ_=>?_;refine J.cb hX (h_Get (N.readV x y z) (readV_len hN x y z)) [] ?_;refine cpq ⟨_,rfl,trivial,?_⟩;refine J.q hX λ_=>?_;refine J.plan (.of [0,5,8,13,16,21,28,33,26,36,40]) [10] [1,2,3,4,5] (by rw[hX.hP];kernel_rfl) (by kernel_rfl) ?_;refine J.q hX λ_=>?_;refine J.cb hX (g_Parity (S.getV (N.readV x y z)).mask (S.getV (N.readV x y z)).block (S.getV (N.readV x y z)).row) [] ?_;refine cpq ⟨_,rfl,⟨rfl,rfl,rfl,rfl,rfl,trivial⟩,?_⟩;have hlk:M.look N x y z=if S.getE (N.readV x y z)≠0\/M.bad (S.getV (N.readV x y z)) x y z=true then(Sh.zero,3)else(S.getV (N.readV x y z),1):=by simp only[M.look];rw[if_pos h1]
  generalize hE:S.getE (N.readV x y z)=ge at hlk;generalize hS:S.getV (N.readV x y z)=s at hlk;refine J.q hX λ_=>?_;refine J.gcase hX rfl rfl rfl trivial (λhb=>?_) (λhb=>?_)
  ·have hb2:(ge !=0||s.block !=y||s.row !=z)=false:=by rw[Bool.not_eq_true']at hb;exact hb
   rw[hb2];refine J.q hX λ_=>?_;refine J.cb hX (l_Has s.mask x) [] ?_;refine cpq ⟨_,rfl,trivial,?_⟩;have hcond:(false|| !L.has s.mask x||(G.parity s.mask s.block s.row==x) !=(s.kind==2))=true->ge≠0\/M.bad s x y z=true:=λh=>by
    simp only[Bool.or_eq_false_iff]at hb2;right;unfold M.bad;rw[hb2.1.2,hb2.2];exact h
   have hcond2:(false|| !L.has s.mask x||(G.parity s.mask s.block s.row==x) !=(s.kind==2))=false->¬(ge≠0\/M.bad s x y z=true):=λh=>by
    simp only[Bool.or_eq_false_iff]at hb2;have h0:ge=0:=by simpa using hb2.1.1
    have h2:M.bad s x y z=false:=by unfold M.bad;rw[hb2.1.2,hb2.2];exact h
    simp[h0,h2]
   refine J.q hX λ_=>?_;refine J.cond rfl (λh5=>?_) (λh5=>?_)
   ·refine J.q hX λ_=>?_;refine J.ru hX [1] ?_;have hc:ge≠0\/M.bad s x y z=true:=hcond h5;rw[hlk,if_pos hc];exact⟨rfl,rfl⟩
   ·refine J.q hX λ_=>?_;refine J.ru hX [1] ?_;have hc:¬(ge≠0\/M.bad s x y z=true):=hcond2 h5;rw[hlk,if_neg hc];exact⟨rfl,rfl⟩
  ·have hb2:(ge !=0||s.block !=y||s.row !=z)=true:=by rw[Bool.not_eq_false']at hb;exact hb
   rw[hb2];refine J.q hX λ_=>?_;refine J.val hX (.bool false) 0 rfl rfl (λhg a w he hw=>by simp[G.on]at hg) rfl trivial ?_;have hc:ge≠0\/M.bad s x y z=true:=by
    simp only[Bool.or_eq_true,bne_iff_ne,ne_eq]at hb2;rcases hb2 with(h | h) | h
    ·exact .inl h
    ·right;simp[M.bad,h]
    ·right;simp[M.bad,h]
   rw[if_pos hc]at hlk;refine J.q hX λ_=>?_;refine J.cond rfl (λh5=>?_) (λh5=>?_)
   ·refine J.q hX λ_=>?_;refine J.ru hX [1] ?_;rw[hlk];exact⟨rfl,rfl⟩
   ·simp at h5
 simp only[beq_eq_false_iff_ne,ne_eq]at h1;refine J.q hX λ_=>?_;refine J.cond rfl (λh2=>?_) (λh2=>?_)
 ·simp only[beq_iff_eq]at h2;refine J.q hX λ_=>?_;refine J.ru hX [1] ?_;exact⟨by simp only[M.look];rw[if_neg h1,if_pos h2];rfl,rfl⟩
 simp only[beq_eq_false_iff_ne,ne_eq]at h2;have hgone:(N.readE x y z=8\/N.readE x y z=9\/N.readE x y z=3\/N.readE x y z=12)->M.look N x y z=(Sh.zero,4):=λh=>by simp only[M.look];rw[if_neg h1,if_neg h2,if_pos h]
 have hbad:¬(N.readE x y z=8\/N.readE x y z=9\/N.readE x y z=3\/N.readE x y z=12)->M.look N x y z=(Sh.zero,3):=λh=>by simp only[M.look];rw[if_neg h1,if_neg h2,if_neg h]
 refine J.q hX λ_=>?_;refine J.cond rfl (λg8=>?_) (λg8=>?_)
 ·rw[g8];refine J.q hX λ_=>?_;refine J.cT ?_;refine J.q hX λ_=>?_;refine J.ru hX [1] ?_;simp only[beq_iff_eq]at g8;rw[hgone (by simp[g8])];exact⟨rfl,rfl⟩
 refine J.q hX λ_=>?_;refine J.cond rfl (λg9=>?_) (λg9=>?_)
 ·rw[g9];refine J.q hX λ_=>?_;refine J.cT ?_;refine J.q hX λ_=>?_;refine J.ru hX [1] ?_;simp only[beq_iff_eq]at g9;rw[hgone (by simp[g9])];exact⟨rfl,rfl⟩
 refine J.q hX λ_=>?_;refine J.cond rfl (λg3=>?_) (λg3=>?_)
 ·rw[g3];refine J.q hX λ_=>?_;refine J.cT ?_;refine J.q hX λ_=>?_;refine J.ru hX [1] ?_;simp only[beq_iff_eq]at g3;rw[hgone (by simp[g3])];exact⟨rfl,rfl⟩
 refine J.q hX λ_=>?_;refine J.cond rfl (λg12=>?_) (λg12=>?_)
 ·refine J.q hX λ_=>?_;refine J.ru hX [1] ?_;simp only[beq_iff_eq]at g12;rw[hgone (by simp[g12])];exact⟨rfl,rfl⟩
 refine J.q hX λ_=>?_;refine J.ru hX [1] ?_;simp only[beq_eq_false_iff_ne,ne_eq]at g8 g9 g3 g12;rw[hbad (by simp[g8,g9,g3,g12])];exact⟨rfl,rfl⟩
def cellsI (l:List Int):List Value:=l.map (.int .i64)
theorem cellsI_snoc (l:List Int) (x:Int):cellsI (l++[x])=cellsI l++[.int .i64 x]:=by simp[cellsI]
namespace M
def rowN (N:Nand) (b r:Int) (k:Nat):List (Sh×Int):=(List.range k).map λd:Nat=>look N (d:Int) b r
end M
theorem rowN_succ (N:Nand) (b r:Int) (k:Nat):M.rowN N b r (k+1)=M.rowN N b r k++[M.look N (k:Int) b r]:=by simp[M.rowN,List.range_succ]
theorem m_Row (p:Nat) (N:Nand) (hN:N.Ok) (hR:N.Room) (b r:Int):Fn Tryz.prog 159 [.pointer (some ⟨p,0,none⟩), .int .i64 b, .int .i64 r] [NandA p N]
  (λv As=>∃a1 c1 a2 c2,v= .tuple #[slv a1 N.dies c1,slv a2 N.dies c2]/\As=[NandA p N,ownA 225 23 a1 N.dies c1 (cellsS ((M.rowN N b r N.dies).map (·.1))),ownA 3 1 a2 N.dies c2 (cellsI ((M.rowN N b r N.dies).map (·.2)))]):=by
 have hbd:=hN.bd;refine Fn.enter [2,0,0] Tryz.func159 rfl rfl rfl λX F hX=>?_;refine J.q hX λ_=>?_;refine J.cb hX (n_Geo p N) [1] ?_;refine cpq ⟨_,rfl,trivial,?_⟩;refine J.turn1 [] rfl (As:=[ownA 225 23 none 0 0 (cellsS []),ownA 3 1 none 0 0 (cellsI [])]) (λh s=>⟨λ_=>0,λi A hA=>by
  match i,hA with
  | 0,hA=>simp at hA;subst hA;exact⟨rfl,rfl,rfl⟩
  | 1,hA=>simp at hA;subst hA;exact⟨rfl,rfl,rfl⟩
  | k+2,hA=>simp at hA⟩) rfl ?_
 refine J.q hX λ_=>?_;refine J.lo (α:=(Nat×(Option Nat×Nat)×(Option Nat×Nat))) (λz=>z.1<=N.dies) (λz=>[⟨16, .int .i64 z.1,0, .tt⟩,⟨15, .int .i64 N.dies,0, .tt⟩,⟨8,slv z.2.1.1 z.1 z.2.1.2,0, .tt⟩,⟨9,slv z.2.2.1 z.1 z.2.2.2,0, .tt⟩,⟨0, .pointer (some ⟨p,0,none⟩),2, .tt⟩,⟨1, .int .i64 b,0, .tt⟩,⟨2, .int .i64 r,0, .tt⟩]) [2,3] (λz=>[ownA 225 23 z.2.1.1 z.1 z.2.1.2 (cellsS ((M.rowN N b r z.1).map (·.1))),ownA 3 1 z.2.2.1 z.1 z.2.2.2 (cellsI ((M.rowN N b r z.1).map (·.2)))]) (λz=>N.dies-z.1) ((0,(none,0),(none,0))) (Nat.zero_le _) rfl ?_ (λ_=>rfl) λz hI=>?_
 ·rfl
 obtain⟨k,⟨a1,c1⟩,⟨a2,c2⟩⟩:=z;dsimp only at hI ⊢;refine J.q hX λ_=>?_;refine J.cond rfl (λh1=>?_) (λh1=>?_)
 ·simp only[decide_eq_true_eq,Int.ofNat_lt]at h1;refine J.q hX λ_=>?_;refine J.cb hX (m_Look p N hN hR k b r) [1] ?_;refine cpq ⟨_,rfl,trivial,?_⟩;refine J.q hX λ_=>?_;refine J.append hX tk 2 5 0 rfl rfl rfl rfl rfl rfl rfl rfl rfl rfl rfl rfl rfl rfl rfl rfl ?_ ?_ (λ_=>rfl) λa3 c3=>⟨_,(congrArg (λz=>lset _ 2 (ownA _ _ _ _ _ z)) (cellsS_snoc _ (M.look N k b r).1).symm).trans rfl,trivial,?_⟩
  ·simp only[maxLen];omega
  ·omega
  refine J.q hX λ_=>?_;refine J.append hX tk 3 6 0 rfl rfl rfl rfl rfl rfl rfl rfl rfl rfl rfl rfl rfl rfl rfl rfl ?_ ?_ (λ_=>rfl) λa4 c4=>⟨_,(congrArg (λz=>lset _ 3 (ownA _ _ _ _ _ z)) (cellsI_snoc _ (M.look N k b r).2).symm).trans rfl,trivial,?_⟩
  ·simp only[maxLen];omega
  ·omega
  rw[show(M.rowN N b r k).map (·.1)++[(M.look N k b r).1]=(M.rowN N b r (k+1)).map (·.1)from by rw[rowN_succ,List.map_append];rfl,show(M.rowN N b r k).map (·.2)++[(M.look N k b r).2]=(M.rowN N b r (k+1)).map (·.2)from by rw[rowN_succ,List.map_append];rfl];refine J.q hX λ_=>?_;refine J.nS ((k+1,(a3,c3),(a4,c4))) (by dsimp only;omega) (by dsimp only;omega) [0,1,2,3] rfl rfl
 ·simp only[decide_eq_false_iff_not,Int.ofNat_lt]at h1;obtain rfl:k=N.dies:=by omega
  refine J.q hX λ_=>?_;refine J.ru hX [1,2,3] ?_;exact⟨a1,c1,a2,c2,rfl,rfl⟩
theorem c_Less (x y:Int):Fn Tryz.prog 222 [.int .i64 x, .int .i64 y] [] (λv As=>v= .bool (decide (x<y))/\As=[]):=by
 refine Fn.enter [] Tryz.func222 rfl rfl rfl λX F hX=>?_;refine J.q hX λ_=>?_;refine J.cb hX (c_isNaN x) [] ?_;refine cpq ⟨_,rfl,trivial,?_⟩;refine J.q hX λ_=>?_;refine J.gcase hX rfl rfl rfl trivial (λhb=>by cases hb) (λ_=>?_);refine J.q hX λ_=>?_;refine J.val hX (.bool false) 0 rfl rfl (λhg a w he hw=>by simp[G.on]at hg) rfl trivial ?_;refine J.q hX λ_=>?_;refine J.ru hX [] ?_;exact⟨by simp,rfl⟩
theorem cellsI_len (l:List Int):(cellsI l).length=l.length:=by simp[cellsI]
theorem cellsI_at (l:List Int) (r:List Value) (k:Nat) (x:Int) (h:l[k]? =some x):(cellsI l++r)[k]? =some (.int .i64 x):=by
 obtain⟨h1,h2⟩:=List.getElem?_eq_some_iff.1 h;rw[List.getElem?_append_left (by rw[cellsI_len];exact h1),cellsI,List.getElem?_map,h];rfl
theorem cellsI_set (l:List Int) (r:List Value) (k:Nat) (x:Int) (h:k<l.length):(cellsI l++r).set k (.int .i64 x)=cellsI (l.set k x)++r:=by
 rw[List.set_append_left _ _ (by rw[cellsI_len];exact h),cellsI,cellsI,List.map_set]
def swpI (l:List Int) (j:Nat):List Int:=(l.set j (l.getD (j-1) 0)).set (j-1) (l.getD j 0)
def sinkI:Nat->List Int->List Int
 | 0,l=>l
 | j+1,l=>if l.getD (j+1) 0<l.getD j 0 then sinkI j (swpI l (j+1))else l
def isortI (l:List Int):Nat->List Int
 | 0=>l
 | k+1=>sinkI (k+1) (isortI l k)
def isortL (l:List Int):List Int:=isortI l (l.length-1)
theorem swpI_len (l:List Int) (j:Nat):(swpI l j).length=l.length:=by simp[swpI]
theorem sinkI_len:∀(j:Nat) (l:List Int),(sinkI j l).length=l.length
  | 0,l=>rfl
  | j + 1, l => by unfold sinkI; split
                   · rw[sinkI_len j,swpI_len]
                   · rfl
theorem isortI_len (l:List Int):∀k,(isortI l k).length=l.length
 | 0=>rfl
 | k+1=>by rw[isortI,sinkI_len,isortI_len l k]
theorem i_SortI (g n cap:Nat) (l:List Int) (hl:l.length=n) (hn:n<=4611686018427387904) (r:List Value):Fn Tryz.prog 216 [.slice (some ⟨g,0,none⟩) n cap, .int .i64 0, .int .i64 n] [.pt g 3 (cellsI l++r)]
  (λv As=>v= .tuple #[]/\As=[.pt g 3 (cellsI (isortL l)++r)]):=by
 refine Fn.enter [2,0,0] Tryz.func216 rfl rfl rfl λX F hX=>?_;refine J.q hX λ_=>?_;refine J.lo (α:=Nat) (λi=>1<=i/\i<=max 1 n) (λi=>[⟨6, .int .i64 i,0, .tt⟩,⟨0, .slice (some ⟨g,0,none⟩) n cap,2, .tt⟩,⟨1, .int .i64 0,0, .tt⟩,⟨2, .int .i64 n,0, .tt⟩]) [1] (λi=>[.pt g 3 (cellsI (isortI l (i-1))++r)]) (λi=>n-i) (1) (⟨by omega,by omega⟩) rfl ?_ (λ_=>rfl) λi hI=>?_
 ·rfl
 refine J.q hX λ_=>?_;refine J.cond rfl (λh1=>?_) (λh1=>?_)
 ·simp only[decide_eq_true_eq,Int.ofNat_lt]at h1;refine J.q hX λ_=>?_;refine J.lo (α:=(Nat×List Int)) (λy=>y.1<=i/\y.2.length=n/\sinkI y.1 y.2=isortI l i) (λy=>[⟨7, .int .i64 y.1,0, .tt⟩,⟨6, .int .i64 i,0, .tt⟩,⟨0, .slice (some ⟨g,0,none⟩) n cap,2, .tt⟩,⟨1, .int .i64 0,0, .tt⟩,⟨2, .int .i64 n,0, .tt⟩]) [1] (λy=>[.pt g 3 (cellsI y.2++r)]) (λy=>y.1) ((i,isortI l (i-1))) (⟨Nat.le_refl _,by rw[isortI_len,hl],by obtain⟨k,rfl⟩:∃k,i=k+1:=⟨i-1,by omega⟩;rfl⟩) rfl ?_ (λ_=>rfl) λy hI=>?_
  ·rfl
  obtain⟨j,m⟩:=y;dsimp only at hI ⊢;have hget:∀e,e<n->m[e]? =some (m.getD e 0):=λe he=>by rw[List.getD_eq_getElem?_getD,List.getElem?_eq_getElem (by omega),Option.getD_some]
  rcases Nat.eq_zero_or_pos j with h2 | h2
  ·subst h2;refine J.q hX λ_=>?_;refine J.plan (.of [0,4,8,12,16,20,24,29,32,36,40,44,49,54,56]) [] [1] (by rw[hX.hP];kernel_rfl) (by kernel_rfl) ?_;refine J.qn hX 4 λ_=>?_;rw[show decide (((0:Nat):Int)>0)=false from rfl];refine J.q hX λ_=>?_;refine J.valT hX (.int .i64 0) 0 rfl rfl (λhg a w he hC=>by simp[G.on]at hg) rfl ?_;refine J.q hX λ_=>?_;refine J.valT hX (.int .i64 0) 0 rfl rfl (λhg a w he hC=>by simp[G.on]at hg) rfl ?_;refine J.q hX λ_=>?_;refine J.gcase hX rfl rfl rfl ⟨rfl,trivial⟩ (λh=>by cases h) (λ_=>?_);refine J.slot (k:=29) (s':=⟨29, .bool false,0, .when false⟩) rfl rfl rfl ?_;refine J.q hX λ_=>?_;refine J.cF ?_;have hm:m=isortI l (i+1-1):=hI.2.2;rw[hm];refine J.q hX λ_=>?_;refine J.nS (i+1) (⟨by omega,by omega⟩) (by omega) [0,1] rfl rfl
  ·obtain⟨j,rfl⟩:∃k,j=k+1:=⟨j-1,by omega⟩;refine J.q hX λ_=>?_;refine J.plan (.of [0,4,8,12,16,20,24,29,32,36,40,44,49,54,56]) [] [1] (by rw[hX.hP];kernel_rfl) (by kernel_rfl) ?_;refine J.qn hX 4 λ_=>?_;rw[show decide (((j+1:Nat):Int)>0)=true from decide_eq_true (by omega)];refine J.q hX λ_=>?_;refine J.valT hX (.int .i64 (m.getD (j+1) 0)) 0 rfl rfl (λhg a w he hC=>?_) rfl ?_
   ·exact load1_run tk rfl rfl he hg rfl rfl (hC rfl _ (cget_mem (i:=1) rfl)) (by rw[show 0+((j+1:Nat):Int).toNat*1=j+1 from by omega];exact cellsI_at m r _ _ (hget _ (by omega)))
   refine J.q hX λ_=>?_;refine J.valT hX (.int .i64 (m.getD j 0)) 0 rfl rfl (λhg a w he hC=>?_) rfl ?_
   ·exact load1_run tk rfl rfl he hg rfl rfl (hC rfl _ (cget_mem (i:=1) rfl)) (by rw[show 0+(((j+1:Nat):Int)-1).toNat*1=j from by omega];exact cellsI_at m r _ _ (hget _ (by omega)))
   refine J.q hX λ_=>?_;refine J.call hX (by kernel_rfl) (c_Less (m.getD (j+1) 0) (m.getD j 0)) [] 0 rfl rfl rfl rfl (by(repeat' (first | exact Conj.nil | refine Conj.cons ?_ ?_ | omega | exact hq0 | (simpa using hq0) | (exactλh=>h) | exact rfl | (intro hq;have hq0:=hq;try simp only[Bool.and_eq_true,Bool.or_eq_true,decide_eq_true_eq,Bool.not_eq_true',decide_eq_false_iff_not]at hq) | (simp;done) | (simp;omega) | decide))) rfl rfl (λ_=>rfl) ?_;refine cpq ⟨_,rfl,⟨rfl,trivial⟩,?_⟩;refine J.q hX λ_=>?_;refine J.cond rfl (λh3=>?_) (λh3=>?_)
   ·simp only[Bool.true_and,decide_eq_true_eq]at h3;refine J.q hX λ_=>?_;refine J.plan (.take true 0 (.take true 1 (.take true 2 (.take true 3 (.take true 4 (.take true 5 (.take true 6 (.take true 7 (.take true 8 (.take true 10 (.take true 11 (.take true 12 (.alt false 9 ((.of [54,56,62,64,71])) (.alt false 13 ((.of [38,56,62,64,71])) .non)))))))))))))) [16,17] [] (by rw[hX.hP];kernel_rfl) (by kernel_rfl) ?_;refine J.q hX λ_=>?_;refine J.alts ?_ ?_
    ·refine J.val hX (.int .i64 (m.getD j 0)) 0 rfl rfl (λhg a w he hs=>?_) rfl trivial ?_
     ·exact load1_run tk rfl rfl he hg rfl rfl (hs.get (i:=1) rfl) (by rw[show 0+(((j+1:Nat):Int)-1).toNat*1=j from by omega];exact cellsI_at m r _ _ (hget _ (by omega)))
     refine J.q hX λ_=>?_;refine J.val hX (.int .i64 (m.getD (j+1) 0)) 0 rfl rfl (λhg a w he hs=>?_) rfl trivial ?_
     ·exact load1_run tk rfl rfl he hg rfl rfl (hs.get (i:=1) rfl) (by rw[show 0+((j+1:Nat):Int).toNat*1=j+1 from by omega];exact cellsI_at m r _ _ (hget _ (by omega)))
     refine J.q hX λ_=>?_;refine J.store1 hX tk 1 rfl rfl rfl rfl rfl rfl rfl rfl rfl rfl rfl rfl rfl ?_ (cellsI (m.set (j+1) (m.getD j 0))++r) ?_ rfl (λ_=>rfl) ⟨trivial,?_⟩
     ·rw[List.length_append,cellsI_len];show 0+((j+1:Nat):Int).toNat*1<_;omega
     ·rw[show 0+((j+1:Nat):Int).toNat*1=j+1 from by omega];exact cellsI_set m r (j+1) _ (by omega)
     refine J.q hX λ_=>?_;refine J.store1 hX tk 1 rfl rfl rfl rfl rfl rfl rfl rfl rfl rfl rfl rfl rfl ?_ (cellsI (swpI m (j+1))++r) ?_ rfl (λ_=>rfl) ⟨trivial,?_⟩
     ·rw[List.length_append,cellsI_len,List.length_set];show 0+(((j+1:Nat):Int)-1).toNat*1<_;omega
     ·rw[show 0+(((j+1:Nat):Int)-1).toNat*1=j from by omega];exact cellsI_set _ r j _ (by rw[List.length_set];omega)
     refine J.q hX λ_=>?_;rw[show((j+1:Nat):Int)-1=(j:Int)from by omega];refine J.q hX λ_=>?_;refine J.nS ((j,swpI m (j+1))) (⟨by dsimp only;omega,by rw[swpI_len];exact hI.2.1,by rw[<- hI.2.2];exact(if_pos h3).symm⟩) (by dsimp only;omega) [0,1] rfl rfl
    ·refine J.val hX (.int .i64 (m.getD (j+1) 0)) 0 rfl rfl (λhg a w he hs=>?_) rfl trivial ?_
     ·exact load1_run tk rfl rfl he hg rfl rfl (hs.get (i:=1) rfl) (by rw[show 0+((j+1:Nat):Int).toNat*1=j+1 from by omega];exact cellsI_at m r _ _ (hget _ (by omega)))
     refine J.q hX λ_=>?_;refine J.val hX (.int .i64 (m.getD j 0)) 0 rfl rfl (λhg a w he hs=>?_) rfl trivial ?_
     ·exact load1_run tk rfl rfl he hg rfl rfl (hs.get (i:=1) rfl) (by rw[show 0+(((j+1:Nat):Int)-1).toNat*1=j from by omega];exact cellsI_at m r _ _ (hget _ (by omega)))
     refine J.q hX λ_=>?_;refine J.store1 hX tk 1 rfl rfl rfl rfl rfl rfl rfl rfl rfl rfl rfl rfl rfl ?_ (cellsI (m.set (j+1) (m.getD j 0))++r) ?_ rfl (λ_=>rfl) ⟨trivial,?_⟩
     ·rw[List.length_append,cellsI_len];show 0+((j+1:Nat):Int).toNat*1<_;omega
     ·rw[show 0+((j+1:Nat):Int).toNat*1=j+1 from by omega];exact cellsI_set m r (j+1) _ (by omega)
     refine J.q hX λ_=>?_;refine J.store1 hX tk 1 rfl rfl rfl rfl rfl rfl rfl rfl rfl rfl rfl rfl rfl ?_ (cellsI (swpI m (j+1))++r) ?_ rfl (λ_=>rfl) ⟨trivial,?_⟩
     ·rw[List.length_append,cellsI_len,List.length_set];show 0+(((j+1:Nat):Int)-1).toNat*1<_;omega
     ·rw[show 0+(((j+1:Nat):Int)-1).toNat*1=j from by omega];exact cellsI_set _ r j _ (by rw[List.length_set];omega)
     refine J.q hX λ_=>?_;rw[show((j+1:Nat):Int)-1=(j:Int)from by omega];refine J.q hX λ_=>?_;refine J.nS ((j,swpI m (j+1))) (⟨by dsimp only;omega,by rw[swpI_len];exact hI.2.1,by rw[<- hI.2.2];exact(if_pos h3).symm⟩) (by dsimp only;omega) [0,1] rfl rfl
   ·simp only[Bool.true_and,decide_eq_false_iff_not]at h3;have hm:m=isortI l (i+1-1):=by rw[show i+1-1=i from rfl,<- hI.2.2];exact(if_neg h3).symm
    rw[hm];refine J.q hX λ_=>?_;refine J.nS (i+1) (⟨by omega,by omega⟩) (by omega) [0,1] rfl rfl
 ·simp only[decide_eq_false_iff_not,Int.ofNat_lt]at h1;have hi:isortI l (i-1)=isortL l:=by
   rw[isortL,hl,show i-1=n-1 from by omega]
  rw[hi];refine J.q hX λ_=>?_;refine J.fi hX tk [1] rfl rfl rfl ?_;exact⟨rfl,rfl⟩
theorem isortL_len (l:List Int):(isortL l).length=l.length:=isortI_len l _
theorem p_SortI (g n cap:Nat) (l:List Int) (hl:l.length=n) (hn:n<=12) (r:List Value) (k:Nat):Fn Tryz.prog 167 [.slice (some ⟨g,0,none⟩) n cap, .int .i64 0, .int .i64 n, .int .i64 k] [.pt g 3 (cellsI l++r)]
  (λv As=>v= .tuple #[]/\As=[.pt g 3 (cellsI (isortL l)++r)]):=by
 refine Fn.enter [2,0,0,0] Tryz.func167 rfl rfl rfl λX F hX=>?_;refine J.q hX λ_=>?_;refine J.lo (α:=Nat) (λy=>True) (λy=>[⟨0, .slice (some ⟨g,0,none⟩) n cap,2, .tt⟩,⟨1, .int .i64 0,0, .tt⟩,⟨2, .int .i64 n,0, .tt⟩,⟨3, .int .i64 k,0, .tt⟩]) [1] (λy=>[.pt g 3 (cellsI l++r)]) (λy=>0) (0) (trivial) rfl ?_ (λ_=>rfl) λy hI=>?_
 ·rfl
 refine J.q hX λ_=>?_;refine J.cond rfl (λh1=>?_) (λh1=>?_)
 ·refine J.q hX λ_=>?_;rw[show(n:Int)-0=n from by omega]at*;refine J.q hX λ_=>?_;refine J.cb hX (i_SortI g n cap l hl (by omega) r) [1] ?_;refine cpq ⟨_,rfl,trivial,?_⟩;refine J.q hX λ_=>?_;exact J.ru hX [1] ⟨rfl,rfl⟩
 ·simp only[decide_eq_false_iff_not]at h1;omega
theorem p_SortI0 (d:Value) (k:Nat):Fn Tryz.prog 167 [d, .int .i64 0, .int .i64 0, .int .i64 k] [] (λv As=>v= .tuple #[]/\As=[]):=by
 have h0:Fn Tryz.prog 216 [d, .int .i64 0, .int .i64 0] [] (λv As=>v= .tuple #[]/\As=[]):=by
  refine Fn.enter [0,0,0] Tryz.func216 rfl rfl rfl λX F hX=>?_;refine J.q hX λ_=>?_;refine J.lo (α:=Nat) (λy=>True) (λy=>[⟨6, .int .i64 (0+1),0, .tt⟩,⟨0,d,0, .tt⟩,⟨1, .int .i64 0,0, .tt⟩,⟨2, .int .i64 0,0, .tt⟩]) [] (λy=>[]) (λy=>0) (0) (trivial) rfl ?_ (λ_=>rfl) λy hI=>?_
  ·rfl
  refine J.q hX λ_=>?_;refine J.cond rfl (λh1=>?_) (λh1=>?_)
  ·simp at h1
  ·refine J.q hX λ_=>?_;refine J.fi hX tk [] rfl rfl rfl ?_;exact⟨rfl,rfl⟩
 refine Fn.enter [0,0,0,0] Tryz.func167 rfl rfl rfl λX F hX=>?_;refine J.q hX λ_=>?_;refine J.lo (α:=Nat) (λy=>True) (λy=>[⟨0,d,0, .tt⟩,⟨1, .int .i64 0,0, .tt⟩,⟨2, .int .i64 0,0, .tt⟩,⟨3, .int .i64 k,0, .tt⟩]) [] (λy=>[]) (λy=>0) (0) (trivial) rfl ?_ (λ_=>rfl) λy hI=>?_
 ·rfl
 refine J.q hX λ_=>?_;refine J.cond rfl (λh1=>?_) (λh1=>?_)
 ·refine J.q hX λ_=>?_;refine J.cb hX (h0) [] ?_;refine cpq ⟨_,rfl,trivial,?_⟩;refine J.q hX λ_=>?_;exact J.ru hX [] ⟨rfl,rfl⟩
 ·simp at h1
theorem s_SortInts (a:Option Nat) (n cap:Nat) (l:List Int) (hl:l.length=n) (hn:n<=12):Fn Tryz.prog 114 [slv a n cap] [ownA 3 1 a n cap (cellsI l)]
  (λv As=>v= .tuple #[]/\As=[ownA 3 1 a n cap (cellsI (isortL l))]):=by
 refine Fn.enter [0] Tryz.func114 rfl rfl rfl λX F hX=>?_;refine J.q hX λ_=>?_;refine J.cb hX (b_Len n hn) [] ?_;rintro v As ⟨⟨k,hk,rfl⟩,rfl⟩;refine⟨_,rfl,trivial,?_⟩;refine J.q hX λ_=>?_;cases a with
 | none=>
  refine J.know (λh' s=>(s.get (i:=1) rfl).2.1) λhn0=>?_;subst hn0;have:l=[]:=List.eq_nil_of_length_eq_zero hl;subst this;refine J.q hX λ_=>?_;refine J.cb hX (p_SortI0 (slv none 0 cap) k) [] ?_;refine cpq ⟨_,rfl,trivial,?_⟩;refine J.q hX λ_=>?_;refine J.fi hX tk [1] rfl rfl rfl ?_;exact⟨rfl,rfl⟩
 | some g=>
  refine J.openOwn 1 rfl rfl (λ_=>rfl) λr q1 q2 q3 q4=>?_;refine J.q hX λ_=>?_;refine J.cb hX (p_SortI g n cap l hl hn r k) [1] ?_;refine cpq ⟨_,rfl,trivial,?_⟩;refine J.closeOwn (e:=3) (size:=1) (n:=n) (cap:=cap) (xs:=cellsI (isortL l)) 1 rfl rfl (by rw[cellsI_len,isortL_len l,hl,Nat.mul_one]) q2 q3 (by rw[List.length_append,cellsI_len,isortL_len l];rw[cellsI_len]at q4;exact q4) (by rw[List.take_left' (by rw[cellsI_len,isortL_len l,hl,Nat.mul_one])]) rfl ?_;refine J.q hX λ_=>?_;refine J.fi hX tk [1] rfl rfl rfl ?_;exact⟨rfl,rfl⟩
def dedFrom (p:Int):List Int->List Int
 | []=>[]
 | x::r=>if x=p then dedFrom x r else x::dedFrom x r
def compactI:List Int->List Int
 | []=>[]
 | x::r=>x::dedFrom x r
def CpI (l m:List Int) (k j:Nat):Prop:=m.length=l.length/\1<=k/\k+1<=j/\j<=l.length/\m.drop (j-1)=l.drop (j-1)/\m.take k++dedFrom (l.getD (j-1) 0) (l.drop j)=compactI l
theorem ded_at {l:List Int} {k:Nat} (hk:1<=k) (hl:k<l.length) (h:l.take k++dedFrom (l.getD (k-1) 0) (l.drop k)=compactI l) (hne:l.getD k 0≠l.getD (k-1) 0):l.take (k+1)++dedFrom (l.getD k 0) (l.drop (k+1))=compactI l:=by
 have hx:l.getD k 0=l[k]:=by rw[List.getD_eq_getElem?_getD,List.getElem?_eq_getElem hl,Option.getD_some]
 rw[List.drop_eq_getElem_cons hl,dedFrom,if_neg (by rw[<- hx];exact hne)]at h;rw[<- h,hx,List.take_add_one,List.getElem?_eq_getElem hl];simp only[Option.toList_some,List.append_assoc,List.singleton_append]
theorem CpI.start {l:List Int} {k:Nat} (hk:1<=k) (hl:k<l.length) (h:l.take k++dedFrom (l.getD (k-1) 0) (l.drop k)=compactI l) (he:l.getD k 0=l.getD (k-1) 0):CpI l l k (k+1):=by
 have hx:l.getD k 0=l[k]:=by rw[List.getD_eq_getElem?_getD,List.getElem?_eq_getElem hl,Option.getD_some]
 refine⟨rfl,hk,by omega,by omega,rfl,?_⟩;rw[List.drop_eq_getElem_cons hl,dedFrom,if_pos (by rw[<- hx];exact he)]at h;rw[Nat.add_sub_cancel,hx];exact h
theorem CpI.get {l m:List Int} {k j:Nat} (h:CpI l m k j) (i:Nat) (hi:j-1<=i):m.getD i 0=l.getD i 0:=by
 have h5:=h.2.2.2.2.1;have e:m[i]? =l[i]?:=by
  have:=congrArg (λz=>z[i-(j-1)]?) h5;simp only[List.getElem?_drop]at this
  rwa [show j-1+(i-(j-1))=i from by omega]at this
 rw[List.getD_eq_getElem?_getD,e,List.getD_eq_getElem?_getD]
theorem CpI.skip {l m:List Int} {k j:Nat} (h:CpI l m k j) (hj:j<l.length) (he:l.getD j 0=l.getD (j-1) 0):CpI l m k (j+1):=by
 obtain⟨h1,h2,h3,h4,h5,h6⟩:=h;have hx:l.getD j 0=l[j]:=by rw[List.getD_eq_getElem?_getD,List.getElem?_eq_getElem hj,Option.getD_some]
 refine⟨h1,h2,by omega,by omega,?_,?_⟩
 ·have:=congrArg (List.drop 1) h5;rw[List.drop_drop,List.drop_drop]at this
  rwa [show j-1+1=j+1-1 from by omega]at this
 ·rw[List.drop_eq_getElem_cons hj,dedFrom,if_pos (by rw[<- hx];exact he)]at h6;rw[Nat.add_sub_cancel,hx];exact h6
theorem CpI.keep {l m:List Int} {k j:Nat} (h:CpI l m k j) (hj:j<l.length) (he:l.getD j 0≠l.getD (j-1) 0):CpI l (m.set k (l.getD j 0)) (k+1) (j+1):=by
 obtain⟨h1,h2,h3,h4,h5,h6⟩:=h;have hx:l.getD j 0=l[j]:=by rw[List.getD_eq_getElem?_getD,List.getElem?_eq_getElem hj,Option.getD_some]
 refine⟨by simp[h1],by omega,by omega,by omega,?_,?_⟩
 ·rw[List.drop_set_of_lt (by omega)];have:=congrArg (List.drop 1) h5;rw[List.drop_drop,List.drop_drop]at this
  rwa [show j-1+1=j+1-1 from by omega]at this
 ·rw[List.drop_eq_getElem_cons hj,dedFrom,if_neg (by rw[<- hx];exact he)]at h6;rw[Nat.add_sub_cancel,hx,<- h6,List.take_set,List.take_add_one,List.getElem?_eq_getElem (by omega),List.set_append_right _ _ (by simp;omega)];simp[List.length_take,Nat.min_eq_left (show k<=m.length by omega)]
theorem compactI_short {l:List Int} (h:l.length<2):compactI l=l:=by
 match l,h with
 | [],_=>rfl
 | [x],_=>rfl
theorem x_Compact (a:Option Nat) (n cap:Nat) (l:List Int) (hl:l.length=n) (hn:n<=4611686018427387904):Fn Tryz.prog 115 [slv a n cap] [ownA 3 1 a n cap (cellsI l)]
  (λv As=>∃l',l'=compactI l/\v=slv a l'.length cap/\As=[ownA 3 1 a l'.length cap (cellsI l')]):=by
 refine Fn.enter [0] Tryz.func115 rfl rfl rfl λX F hX=>?_;refine J.q hX λ_=>?_;refine J.cond rfl (λh0=>?_) (λh0=>?_)
 ·simp only[decide_eq_true_eq]at h0;refine J.q hX λ_=>?_;refine J.ru hX [1] ?_;have hs:compactI l=l:=compactI_short (by omega);exact⟨l,hs.symm,by rw[hl],by rw[hl];rfl⟩
 simp only[decide_eq_false_iff_not]at h0;cases a with
 | none=>
  refine J.know (λh' s=>(s.get (i:=1) rfl).2.1) λhn0=>?_;omega
 | some g=>
  refine J.openOwn 1 rfl rfl (λ_=>rfl) λr q1 q2 q3 q4=>?_;refine J.q hX λ_=>?_;refine J.lo (α:=Nat) (λk=>1<=k/\k<=n/\l.take k++dedFrom (l.getD (k-1) 0) (l.drop k)=compactI l) (λk=>[⟨3, .int .i64 k,0, .tt⟩,⟨0,slv (some g) n cap,0, .tt⟩]) [] (λk=>[]) (λk=>n-k) (1) (⟨by omega,by omega,by cases l with | nil=>simp at hl;omega | cons x l=>rfl⟩) rfl ?_ (λ_=>rfl) λk hI=>?_
  ·rfl
  have hget:∀e,e<n->(cellsI l++r)[e]? =some (.int .i64 (l.getD e 0)):=λe he=>cellsI_at l r e _ (by rw[List.getD_eq_getElem?_getD,List.getElem?_eq_getElem (by omega),Option.getD_some]);refine J.q hX λ_=>?_;refine J.cond rfl (λh1=>?_) (λh1=>?_)
  ·simp only[decide_eq_true_eq,Int.ofNat_lt]at h1;refine J.q hX λ_=>?_;refine J.plan (.of [0,4,8,13,16,20,24,28,33,36]) [] [1] (by rw[hX.hP];kernel_rfl) (by kernel_rfl) ?_;refine J.q hX λ_=>?_;refine J.valT hX (.int .i64 (l.getD k 0)) 0 rfl rfl (λhg a w he hC=>?_) rfl ?_
   ·exact load1_run tk rfl rfl he hg rfl rfl (hC rfl _ (cget_mem (i:=1) rfl)) (by rw[show 0+(k:Int).toNat*1=k from by omega];exact hget k h1)
   refine J.q hX λ_=>?_;refine J.valT hX (.int .i64 (l.getD (k-1) 0)) 0 rfl rfl (λhg a w he hC=>?_) rfl ?_
   ·exact load1_run tk rfl rfl he hg rfl rfl (hC rfl _ (cget_mem (i:=1) rfl)) (by rw[show 0+((k:Int)-1).toNat*1=k-1 from by omega];exact hget (k-1) (by omega))
   refine J.q hX λ_=>?_;refine J.cond rfl (λh2=>?_) (λh2=>?_)
   ·simp only[beq_iff_eq]at h2;refine J.q hX λ_=>?_;rw[show(k:Int).toNat=k from Int.toNat_natCast k];refine J.q hX λ_=>?_;refine J.lo (α:=(Nat×Nat×List Int)) (λz=>CpI l z.2.2 z.1 (k+z.2.1)/\1<=z.2.1) (λz=>[⟨5, .int .i64 z.2.1,0, .tt⟩,⟨4, .slice (some ⟨g,0+k*1,none⟩) (n-k) (cap-k),0, .tt⟩,⟨3, .int .i64 z.1,0, .tt⟩,⟨0,slv (some g) n cap,0, .tt⟩]) [1] (λz=>[.pt g 3 (cellsI z.2.2++r)]) (λz=>n-z.2.1) ((k,1,l)) (⟨CpI.start hI.1 (by omega) hI.2.2 h2,Nat.le_refl _⟩) rfl ?_ (λ_=>rfl) λz hI=>?_
    ·rfl
    obtain⟨kk,q,m⟩:=z;dsimp only at hI ⊢;obtain⟨hI,hq⟩:=hI;have hml:m.length=n:=hI.1.trans hl;have hc1:=hI.2.1;have hc2:=hI.2.2.1;have hc3:=hI.2.2.2.1;have hgm:∀e,e<n->(cellsI m++r)[e]? =some (.int .i64 (m.getD e 0)):=λe he=>cellsI_at m r e _ (by rw[List.getD_eq_getElem?_getD,List.getElem?_eq_getElem (by omega),Option.getD_some]);refine J.q hX λ_=>?_;refine J.cond rfl (λh3=>?_) (λh3=>?_)
    ·simp only[decide_eq_true_eq,Int.ofNat_lt]at h3;have hgj:=hI.get (k+q) (by omega);have hgj1:=hI.get (k+q-1) (by omega);have h3':k+q<n:=by omega
     refine J.q hX λ_=>?_;refine J.plan (.of [0,4,8,13,16,20,24,28,33,36]) [] [1] (by rw[hX.hP];kernel_rfl) (by kernel_rfl) ?_;refine J.q hX λ_=>?_;refine J.valT hX (.int .i64 (m.getD (k+q) 0)) 0 rfl rfl (λhg a w he hC=>?_) rfl ?_
     ·exact load1_run tk rfl rfl he hg rfl rfl (hC rfl _ (cget_mem (i:=1) rfl)) (by rw[show 0+k*1+(q:Int).toNat*1=k+q from by omega];exact hgm _ h3')
     refine J.q hX λ_=>?_;refine J.valT hX (.int .i64 (m.getD (k+q-1) 0)) 0 rfl rfl (λhg a w he hC=>?_) rfl ?_
     ·exact load1_run tk rfl rfl he hg rfl rfl (hC rfl _ (cget_mem (i:=1) rfl)) (by rw[show 0+k*1+((q:Int)-1).toNat*1=k+q-1 from by omega];exact hgm _ (by omega))
     refine J.q hX λ_=>?_;refine J.cond rfl (λh4=>?_) (λh4=>?_)
     ·simp only[bne_iff_ne,ne_eq,hgj,hgj1]at h4;refine J.q hX λ_=>?_;refine J.val hX (.int .i64 (m.getD (k+q) 0)) 0 rfl rfl (λhg a w he hw=>?_) rfl trivial ?_
      ·exact load1_run tk rfl rfl he rfl rfl rfl (hw.get (i:=1) rfl) (by rw[show 0+k*1+(q:Int).toNat*1=k+q from by omega];exact hgm _ h3')
      refine J.q hX λ_=>?_;refine J.store1 hX tk 1 rfl rfl rfl rfl rfl rfl rfl rfl rfl rfl rfl rfl rfl ?_ (cellsI (m.set kk (l.getD (k+q) 0))++r) ?_ rfl (λ_=>rfl) ⟨trivial,?_⟩
      ·rw[List.length_append,cellsI_len];show 0+(kk:Int).toNat*1<_;omega
      ·rw[show 0+(kk:Int).toNat*1=kk from by omega,hgj];exact cellsI_set m r kk _ (by omega)
      refine J.q hX λ_=>?_;refine J.nS ((kk+1,q+1,m.set kk (l.getD (k+q) 0))) (⟨hI.keep (by omega) h4,by dsimp only;omega⟩) (by dsimp only;omega) [0,1] rfl rfl
     ·simp only[bne_eq_false_iff_eq,hgj,hgj1]at h4;refine J.q hX λ_=>?_;refine J.nS ((kk,q+1,m)) (⟨hI.skip (by omega) h4,by dsimp only;omega⟩) (by dsimp only;omega) [0,1] rfl rfl
    ·simp only[decide_eq_false_iff_not,Int.ofNat_lt]at h3;have hj:k+q=n:=by omega
     have hfin:m.take kk=compactI l:=by
      have h6:=hI.2.2.2.2.2;rw[List.drop_of_length_le (by omega)]at h6;simpa[dedFrom]using h6
     refine J.q hX λ_=>?_;refine J.clear hX tk 1 rfl rfl rfl rfl rfl rfl rfl rfl rfl rfl rfl ?_ (λ_=>rfl) (λ_=>rfl) λcs' z1 z2=>⟨trivial,?_⟩
     ·rw[List.length_append,cellsI_len];rw[cellsI_len]at q4;show 0+(kk:Int).toNat*1+(n-(kk:Int).toNat)*1<=_;omega
     have hklen:(compactI l).length=kk:=by rw[<- hfin,List.length_take];omega
     refine J.closeOwn (e:=3) (size:=1) (n:=kk) (cap:=cap) (xs:=cellsI (compactI l)) 1 rfl rfl (by rw[cellsI_len,hklen,Nat.mul_one]) (by omega) q3 (by rw[z1,List.length_append,cellsI_len,hml];rw[cellsI_len,hl]at q4;exact q4) ?_ rfl ?_
     ·have z3:(0+(kk:Int).toNat*1)=kk:=by omega
      rw[z3]at z2;rw[Nat.mul_one,z2,List.take_append_of_le_length (by rw[cellsI_len];omega),<- hfin,cellsI,cellsI,List.map_take]
     refine J.q hX λ_=>?_;refine J.ru hX [1] ?_;exact⟨_,rfl,by rw[hklen];rfl,by rw[hklen];rfl⟩
   ·simp only[beq_eq_false_iff_ne,ne_eq]at h2;refine J.q hX λ_=>?_;refine J.nx (k+1) (⟨by omega,by omega,by rw[Nat.add_sub_cancel];exact ded_at hI.1 (by omega) hI.2.2 h2⟩) (by omega) (λ_ s=>s)
  ·simp only[decide_eq_false_iff_not,Int.ofNat_lt]at h1;obtain rfl:k=n:=by omega
   have hs:compactI l=l:=by
    have:=hI.2.2;rw[List.take_of_length_le (by omega),List.drop_of_length_le (by omega)]at this;simpa[dedFrom]using this.symm
   refine J.closeOwn (e:=3) (size:=1) (n:=k) (cap:=cap) (xs:=cellsI l) 1 rfl rfl q1 q2 q3 (by rw[List.length_append];exact q4) (by rw[List.take_left' q1]) rfl ?_;refine J.q hX λ_=>?_;refine J.ru hX [1] ?_;exact⟨l,hs.symm,by rw[hl],by rw[hl];rfl⟩
end Go.Proofs.YtkdlnfdjjifedaaGreat
namespace Go.Proofs.YtkdlnfdjjifedaaGreat
open Go
def En.zero:En:=⟨0,0,0,zeros16⟩
def Sh.en (s:Sh):En:=⟨s.lpn,s.seq,s.role,s.data⟩
namespace W
def alien (p s:Sh):Bool:=s.kind !=1|| !S.may s||s.block !=p.block||s.row !=p.row||s.mask !=p.mask
def backS (p:Sh) (l:List Sh):En:=
 let x:=over (l++[p])
 ⟨(x.2.toNat/1099511627776 % 65536:Nat),(x.2.toNat % 1099511627776:Nat),(x.2.toNat/72057594037927936:Nat),x.1⟩
def backB (p:Sh) (l:List Sh):Bool:=p.kind==2&&S.may p&& !l.any (alien p)&&decide ((l.length:Int)=G.slots p.mask-1)&&ok p.block p.row p.mask (backS p l)
def back (p:Sh) (l:List Sh):En:=if backB p l then backS p l else En.zero
end W
structure Fd where
 slots:List Sh
 good:List Bool
 parity:Sh
 whole:Bool
structure Fnd where
 en:En
 block:Int
 row:Int
 slot:Int
 mask:Int
 whole:Bool
 mended:Bool
namespace M
def maskOf (x:Sh×Int):Option Int:=if x.2=1 then some x.1.mask else none
def masks (N:Nand) (b r:Int):List Int:=compactI (isortL ((rowN N b r N.dies).filterMap maskOf))
end M
namespace R
def job (b r m:Int) (l:List En):List (Int×Sh):=(List.range l.length).map (λk=>(G.die m b r (k:Nat),W.sh b r m (l.getD k En.zero)))++[(G.parity m b r,W.parS b r m l)]
def go (b r:Int):List (Int×Sh)->Nand->Int->Nand×Int×Int
 | [],N,f=>(N,f,if f=0 then 0 else 7)
 | (d,s)::q,N,f=>
  if N.progE d b r=0 then go b r q (N.progN d b r (putP s)) f
  else if N.progE d b r=9 then(N.progN d b r (putP s),f,9)
  else go b r q (N.progN d b r (putP s)) (L.with_ f d)
def write (N:Nand) (b r m:Int) (l:List En):Nand×Int×Int:=if W.parB b r m l then go b r (job b r m l) N 0 else(N,0,1)
def one (N:Nand) (b r m d:Int):Sh×Bool:=((M.look N d b r).1,(M.look N d b r).2==1&&(M.look N d b r).1.mask==m)
def ones (N:Nand) (b r m:Int) (k:Nat):List (Sh×Bool):=(List.range k).map λi:Nat=>one N b r m (G.die m b r i)
def look (N:Nand) (b r m:Int):Fd:=⟨(ones N b r m (G.slots m).toNat).map (·.1),(ones N b r m (G.slots m).toNat).map (·.2),(one N b r m (G.parity m b r)).1,(one N b r m (G.parity m b r)).2⟩
def rest (f:Fd) (k:Nat):Bool:=(List.range f.slots.length).all λi=>i==k||f.good.getD i false
def mendB (f:Fd) (k:Nat):Bool:=rest f k&&f.whole&&W.backB f.parity (f.slots.eraseIdx k)
def mend (f:Fd) (k:Nat):En:=if rest f k&&f.whole then W.back f.parity (f.slots.eraseIdx k)else En.zero
def read (N:Nand) (b r s m:Int):En×Int:=
 if G.die m b r s<0\/geoIn N.dies N.blocks N.pages 0 b r=false then(En.zero,3)
 else if N.off then(En.zero,9)
 else if(look N b r m).good.getD s.toNat false then(((look N b r m).slots.getD s.toNat Sh.zero).en,0)
 else if mendB (look N b r m) s.toNat then(mend (look N b r m) s.toNat,0)else(En.zero,10)
def enAt (f:Fd) (k:Nat):En:=if f.good.getD k false then(f.slots.getD k Sh.zero).en else mend f k
def okAt (f:Fd) (k:Nat):Bool:=f.good.getD k false||mendB f k
def fnd (f:Fd) (b r m:Int) (k:Nat):Option Fnd:=if okAt f k&&(enAt f k).role !=3 then some ⟨enAt f k,b,r,k,m,f.whole,!(f.good.getD k false)⟩else none
def allM (N:Nand) (b r m:Int):List Fnd:=(List.range (look N b r m).slots.length).filterMap (fnd (look N b r m) b r m)
def all (N:Nand) (b r:Int):List Fnd:=(M.masks N b r).flatMap (allM N b r)
end R
theorem look_len (N:Nand) (b r m:Int):(R.look N b r m).slots.length=(G.slots m).toNat/\(R.look N b r m).good.length=(G.slots m).toNat:=by simp[R.look,R.ones]
theorem mlook_len {N:Nand} (hN:N.Ok) (x y z:Int):(M.look N x y z).1.data.length=16:=by
 have hz:Sh.zero.data.length=16:=rfl;unfold M.look;dsimp only;split
 ·split
  ·exact hz
  ·exact getV_len _ (readV_len hN x y z)
 ·split
  ·exact hz
  ·split<;>exact hz
end Go.Proofs.YtkdlnfdjjifedaaGreat
namespace Go.Proofs.YtkdlnfdjjifedaaGreat
structure AtV where
 block:Int
 row:Int
 slot:Int
 mask:Int
 seq:Int
 role:Int
 deriving DecidableEq
def AtV.zero:AtV:=⟨0,0,0,0,0,0⟩
structure Tb where
 logical:Int
 at_:List (Int×AtV)
 cnt:List (Int×Int)
 next:Int
namespace Tb
def look {α:Type}:List (Int×α)->Int->Option α
 | [],_=>none
 | x::l,k=>if k=x.1 then some x.2 else look l k
def put1 {α:Type}:List (Int×α)->Int->α->List (Int×α)
 | [],k,v=>[(k,v)]
 | x::l,k,v=>if k=x.1 then(k,v)::l else x::put1 l k v
def new (n:Int):Tb:=⟨min (max n 0) 65536,[],[],1⟩
def count (t:Tb) (b:Int):Int:=(look t.cnt b).getD 0
def ok (t:Tb) (e:En):Bool:=!(decide (e.lpn<0)||decide (e.lpn>=t.logical)||(e.role !=1&&e.role !=2&&e.role !=4))
def elder (t:Tb) (e:En):Bool:=match look t.at_ e.lpn with
 | some a=>decide (e.seq<a.seq)
 | none=>false
def cnt1 (t:Tb) (e:En):List (Int×Int):=match look t.at_ e.lpn with
 | some a=>put1 t.cnt a.block (t.count a.block-1)
 | none=>t.cnt
def cnt2 (t:Tb) (e:En) (b:Int):List (Int×Int):=put1 (cnt1 t e) b ((look (cnt1 t e) b).getD 0+1)
def putB (t:Tb) (e:En):Bool:=ok t e&& !elder t e
def put (t:Tb) (e:En) (b r s m:Int):Tb:=if putB t e then⟨t.logical,put1 t.at_ e.lpn ⟨b,r,s,m,e.seq,e.role⟩,cnt2 t e b,if e.seq>=t.next then e.seq+1 else t.next⟩else t
def inB (t:Tb) (b:Int) (i:Int):Bool:=match look t.at_ i with
 | some a=>a.block==b
 | none=>false
def inK (t:Tb) (b:Int) (k:Nat):List Int:=((List.range k).filter λi:Nat=>inB t b i).map λi:Nat=>(i:Int)
theorem inK_succ (t:Tb) (b:Int) (k:Nat):inK t b (k+1)=if inB t b k then inK t b k++[(k:Int)]else inK t b k:=by
 unfold inK;rw[List.range_succ,List.filter_append,List.map_append];cases h:inB t b k<;>simp[h]
theorem inK_len (t:Tb) (b:Int) (k:Nat):(inK t b k).length<=k:=by
 unfold inK;rw[List.length_map];exact Nat.le_trans (List.length_filter_le _ _) (by rw[List.length_range];exact Nat.le_refl _)
def ins (t:Tb) (b:Int):List Int:=if t.count b=0 then[]else inK t b t.logical.toNat
theorem look_put1 {α:Type} (k:Int) (v:α) (j:Int):∀l:List (Int×α),look (put1 l k v) j=if j=k then some v else look l j
 | []=>by simp only[put1,look]
 | x::l=>by
  simp only[put1]
  by_cases h:k=x.1
  ·rw[if_pos h];simp only[look]
   by_cases h2:j=k
   ·rw[if_pos h2,if_pos h2]
   ·rw[if_neg h2,if_neg h2,if_neg (λe=>h2 (e.trans h.symm))]
  ·rw[if_neg h];simp only[look]
   by_cases h2:j=x.1
   ·rw[if_pos h2,if_pos h2,if_neg (λe=>h (e.symm.trans h2))]
   ·rw[if_neg h2,if_neg h2,look_put1 k v j l]
end Tb
namespace V
def behind (a b:Fnd):Bool:=if a.en.seq≠b.en.seq then decide (a.en.seq<b.en.seq)else b.whole&& !a.whole
def topsStep (out:List Fnd) (f:Fnd):List Fnd:=match out with
 | []=>[f]
 | h::t=>if behind h f then[f]else if behind f h then h::t else h::t++[f]
def tops (l:List Fnd):List Fnd:=l.foldl topsStep []
def all (N:Nand):List Fnd:=(List.range N.blocks).flatMap λb=>(List.range N.pages).flatMap λr=>R.all N (b:Nat) (r:Nat)
def of (l:List Fnd) (k:Int):List Fnd:=l.filter λf=>f.en.lpn==k
def holds (l:List Fnd):List Int:=(tops (l.filter λf=>f.whole)).map (·.block)
def blankRow (N:Nand) (b r:Int):Bool:=(M.rowN N b r N.dies).all λx=>x.2==2||x.2==4
def last (N:Nand) (f:Fnd):Bool:=((List.range N.pages).all λr:Nat=>decide ((r:Int)<=f.row)||blankRow N f.block r)&&(M.look N (G.parity f.mask f.block f.row) f.block f.row).2 !=4
end V
end Go.Proofs.YtkdlnfdjjifedaaGreat
