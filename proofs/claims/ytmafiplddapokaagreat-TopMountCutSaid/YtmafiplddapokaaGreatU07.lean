/- Helpers. No condition. -/
import Derived.Test.YtmafiplddapokaaGreatU06
set_option maxRecDepth 20000
set_option linter.all false
namespace Go.Proofs.YtmafiplddapokaaGreat
section
open Go Go.RowKit
theorem b3y (s:Sh):(shL s).length=23:=rfl
theorem a4k:∀(l:List Sh) (r:List Value) (k:Nat) (x:Sh),l[k]? =some x->((J1 l++r).drop (k*23)).take 23=shL x
 | [],_,_,_,h=>by simp at h
 | y::l,r,0,x,h=>by
  simp at h;subst h;rw[P8,a1t];simp only[J1,u0,m7];exact D6 (b3y y)
 | y::l,r,k+1,x,h=>by
  have:=a4k l r k x (by simpa using h);rw[show(k+1)*23=23+k*23 from by omega,<- C0];simp only[J1,u0,m7]at this ⊢;rw[T7 (b3y y)];exact this
theorem b0C {x s:List UInt8} (hx:x.length=16) (hs:s.length=16) (k:Nat) (hk:k<=16):(W.mix x s k).length=16:=by simp[W.mix,hx,hs];omega
theorem b9u {x s:List UInt8} (hx:x.length=16) (hs:s.length=16) {k:Nat} (hk:k<16):(W.mix x s k).getD k 0=x.getD k 0:=by
 have e:(W.mix x s k)[k]? =x[k]?:=by
  rw[W.mix,B2 (by simp[hx,hs];omega),K8];congr 1;simp[hx,hs];omega
 rw[d7,e,d7]
theorem b9t {x s:List UInt8} (hx:x.length=16) (hs:s.length=16) {k:Nat} (hk:k<16):(W.mix x s k).set k (x.getD k 0 ^^^ s.getD k 0)=W.mix x s (k+1):=by
 apply x9;intro j;rw[z8,b0C hx hs k (by omega)];simp only[W.mix,I9,j9,List.length_zipWith,hx,hs,Nat.min_self,C2,K8]
 by_cases e:k=j
 ·subst e;rw[d8 rfl,d8 hk,d8 (by omega),d8 (by omega)];simp[List.getElem?_zipWith,hx,hs,hk]
 ·rw[d6 e]
  by_cases h1:j<k
  ·rw[d8 (show j<min k 16 by omega),d8 h1,d8 (show j<min (k+1) 16 by omega),d8 (show j<k+1 by omega)]
  ·rw[d6 (show¬j<min k 16 by omega),d6 (show¬j<min (k+1) 16 by omega),show k+(j-min k 16)=j from by omega,show k+1+(j-min (k+1) 16)=j from by omega]
theorem u81:Tryz.prog.underlying 36=some (.array 16 5):=by kernel_rfl
theorem a9V {x:List UInt8} (h:x.length=16) {k:Nat} (hk:k<16):(I3 x)[k]? =some (bv (x.getD k 0)):=by
 rw[a1o x h,i9];simp[h,hk]
theorem b5y {x:List UInt8} (h:x.length=16) {k:Nat} {b:UInt8}:(I3 x).set k (bv b)=I3 (x.set k b):=by
 rw[a1o x h,a1o _ (by simpa using h),L7]
theorem b8v (b c:UInt8):IntKind.u8.wrap ((BitVec.ofInt IntKind.u8.bits (b.toNat:Int) ^^^ BitVec.ofInt IntKind.u8.bits (c.toNat:Int)).toNat:Int)=((b ^^^ c).toNat:Int):=by
 have h:=b5I b (c.toNat:Int);have h1:((c.toNat:Int) % 256)=c.toNat:=by have:=c.toNat_lt;omega
 have h2:IntKind.u8.wrap (c.toNat:Int)=(c.toNat:Int):=by
  have:IntKind.u8.wrap (c.toNat:Int)=(c.toNat:Int) % 256:=by simp[IntKind.wrap,IntKind.bits,IntKind.signed]
  rw[this,h1]
 rw[h2,h1]at h;simpa using h
theorem a2H {l:List Sh} (hd:∀s∈l,s.data.length=16):∀(x:List UInt8×Int),x.1.length=16->(l.foldl W.over1 x).1.length=16:=by
 induction l with
 | nil=>intro x h;exact h
 | cons s l ih=>intro x h;exact ih (λt ht=>hd t (by simp[ht])) _ (b0C h (hd s (by simp)) 16 (by omega))
theorem a1G (a:Option Nat) (n cap:Nat) (l:List Sh) (hl:l.length=n) (hn:n<=1000) (hd:∀s∈l,s.data.length=16):FP 228 [slv a n cap] [m9 212 23 a n cap (J1 l)]
  (Ps (.tuple #[.agg (I3 (W.over l).1).toArray, .int .u64 (W.over l).2]) [m9 212 23 a n cap (J1 l)]):=by
 refine FE [0] Tryz.func228 λX F hX=>?_;refine J.q λbb=>?_;refine J.l (α:=Nat) (λk=>k<=n) (λk=>[si 12 k,si 11 n,sv 10 (slv a n cap),⟨5, .int .u64 ((l.take k).foldl W.over1 (zeros16,0)).2,0, .tt⟩,⟨4,pp (bb (0+1)),4, .tt⟩,⟨2,pp (bb 0),3, .tt⟩]) [3] (λk=>[.pt (bb (0+1)) 36 (I3 ((l.take k).foldl W.over1 (zeros16,0)).1)]) (λk=>n-k) (0) (j7 _) λk hI=>?_;have hxl:((l.take k).foldl W.over1 (zeros16,0)).1.length=16:=a2H (λt ht=>hd t (I8 ht)) _ rfl;refine J.qd (λ_ h1=>?_) λ_ h1=>?_
 ·simp only[d5,i5]at h1;obtain⟨s,hs⟩:∃s,l[k]? =some s:=⟨_,c9 (by omega)⟩;have hsl:s.data.length=16:=hd s (j8 hs);have hnext:(l.take (k+1)).foldl W.over1 (zeros16,0)=W.over1 ((l.take k).foldl W.over1 (zeros16,0)) s:=by
   rw[D3,hs];simp
  generalize(l.take k).foldl W.over1 (zeros16,0)=x at hxl hnext;cases a with
  | none=>
   refine J.know (λh' s=>(s.get (i:=1) rfl).2.1) λhn0=>?_;omega
  | some g=>
   refine J.q λ_=>?_;refine J.v (shV s) rfl rfl (λhg a w he hw=>?_) ?_
   ·exact J8 tk rfl rfl he rfl rfl rfl (hw.get (i:=1) rfl) (by rw[show 0+(k:Int).toNat*23=k*23 from by omega];have:=a4k l [] k s hs;rwa [m6]at this) rfl
   refine J.q λcc=>?_;refine J.lo (α:=Nat) (λi=>i<=16) (λi=>[si 18 i,⟨17, .agg (I3 s.data).toArray,0, .tt⟩,⟨7,pp (cc 0),5, .tt⟩,si 12 k,si 11 n,sv 10 (slv (some g) n cap),⟨5, .int .u64 x.2,0, .tt⟩,⟨4,pp (bb (0+1)),4, .tt⟩,⟨2,pp (bb 0),3, .tt⟩]) [3] (λi=>[.pt (bb (0+1)) 36 (I3 (W.mix x.1 s.data i))]) (λi=>16-i) (0) (j7 _) rfl ?_ (λ_=>rfl) λi hI=>?_
   ·rw[show W.mix x.1 s.data 0=x.1 from by simp[W.mix]];rfl
   have hml:=b0C hxl hsl i hI;refine J.qd (λ_ h2=>?_) λ_ h2=>?_
   ·simp only[d5]at h2;have h3:i<16:=by omega
    refine J.q λ_=>?_;refine J.v (bv (s.data.getD i 0)) rfl rfl (λhg a w he hw=>?_) ?_
    ·exact a2Z tk rfl rfl rfl he rfl rfl u81 rfl rfl rfl (by omega) (by omega) (by rw[j4];have:=a9V hsl h3;simpa using this)
    refine J.q λ_=>?_;refine J.v (bv (x.1.getD i 0)) rfl rfl (λhg a w he hw=>?_) ?_
    ·exact D4 tk rfl rfl he rfl rfl rfl (hw.get (i:=3) rfl) (by rw[show 0+(i:Int).toNat*1=i from by omega,a9V hml h3,b9u hxl hsl h3])
    refine J.q λ_=>?_;refine J.s1 3 (I3 (W.mix x.1 s.data (i+1))) ?_ ?_ ?_
    ·show 0+(i:Int).toNat*1<16;omega
    ·rw[show 0+(i:Int).toNat*1=i from by omega,b8v,<- b9t hxl hsl h3];exact b5y hml
    refine J.q λ_=>?_;refine J.nx (i+1) (by omega) (by omega) (λ_ s=>s)
   ·simp only[c8]at h2;obtain rfl:i=16:=by omega
    refine J.qp (b7N s.role s.lpn s.seq) [] λ_=>?_;refine J.q λ_=>?_;have e1:W.mix x.1 s.data 16=((l.take (k+1)).foldl W.over1 (zeros16,0)).1:=by rw[hnext];rfl
    have e2:IntKind.u64.wrap ((BitVec.ofInt IntKind.u64.bits x.2 ^^^ BitVec.ofInt IntKind.u64.bits (S.meta_ s.role s.lpn s.seq)).toNat:Int)=((l.take (k+1)).foldl W.over1 (zeros16,0)).2:=by rw[hnext];rfl
    rw[e1,e2];refine J.q λ_=>?_;refine J.n (k+1) (by omega) (by omega) [0,1,2,3]
 ·simp only[c8,i5]at h1;obtain rfl:k=l.length:=by omega
  rw[S8];exact J.qx [1]
def n7 (l:List En):List Value:=l.flatMap enL
theorem b9T (e:En):(enL e).length=19:=rfl
theorem a0e:∀(l:List En) (r:List Value) (k:Nat) (x:En),l[k]? =some x->((n7 l++r).drop (k*19)).take 19=enL x
 | [],_,_,_,h=>by simp at h
 | y::l,r,0,x,h=>by
  simp at h;subst h;rw[P8,a1t];simp only[n7,u0,m7];exact D6 rfl
 | y::l,r,k+1,x,h=>by
  have:=a0e l r k x (by simpa using h);rw[show(k+1)*19=19+k*19 from by omega,<- C0];simp only[n7,u0,m7]at this ⊢;rw[T7 (b9T y)];exact this
theorem Q5 (l:List Sh) (s:Sh):J1 (l++[s])=J1 l++shL s:=by simp[J1]
namespace W
def parS (b r m:Int) (l:List En):Sh:=
 let x:=over (l.map (sh b r m))
 ⟨x.1,(x.2.toNat/72057594037927936:Nat),(x.2.toNat/1099511627776 % 65536:Nat),(x.2.toNat % 1099511627776:Nat),2,b,r,m⟩
def parB (b r m:Int) (l:List En):Bool:=decide ((l.length:Int)=G.slots m)&& !l.isEmpty&&l.all (ok b r m)
def par (b r m:Int) (l:List En):Sh:=if parB b r m l then parS b r m l else Sh.zero
end W
theorem c0P (m x:Int):0<=W.ovM m x/\W.ovM m x<18446744073709551616:=by
 have:W.ovM m x=((BitVec.ofInt 64 m ^^^ BitVec.ofInt 64 x).toNat:Int) % 18446744073709551616:=by simp[W.ovM,IntKind.wrap,IntKind.bits,IntKind.signed]
 rw[this];omega
theorem a5b:∀(l:List Sh) (x:List UInt8×Int),0<=x.2/\x.2<18446744073709551616->∃k:Nat,(l.foldl W.over1 x).2=k/\k<18446744073709551616
 | [],x,h=>⟨x.2.toNat,by simp only[List.foldl_nil];omega,by omega⟩
 | s::l,x,_=>a5b l _ (c0P _ _)
theorem a0A (m:Int):0<=G.slots m/\G.slots m<=7:=by
 have:=L.count_le m;unfold G.slots;split<;>omega
theorem b1i (b r m:Int) (A:Atom) (a:Option Addr) (n cap:Nat) (l:List En) (hA:Rd A a 19 n (n7 l)) (hl:l.length=n) (hd:∀s∈l,s.data.length=16):FP 198 [iI b,iI r,iI m, .slice a n cap] [A]
  (λv As=>v= .tuple #[shV (W.par b r m l), .bool (W.parB b r m l)]/\As=[A]):=by
 refine FE [0,0,0,0] Tryz.func198 λX F hX=>?_;refine J.q λbb=>?_;refine J.cb (a1i m) [] ?_;refine cpq ⟨_,rfl,trivial,?_⟩;refine J.qd (λ_ h1=>?_) λ_ h1=>?_
 ·refine J.qr [1] λ_=>?_;have:W.parB b r m l=false:=by
   simp only[j6,E6,H5,A4]at h1;unfold W.parB;rw[hl];rcases h1 with h1 | h1
   ·simp[h1]
   ·have:l=[]:=n5 (by omega);subst this;simp
  exact⟨by rw[W.par,this];rfl,rfl⟩
 simp only[E5,z7,l8,H5]at h1;have hn:n<=1000:=by have:=a0A m;omega
 refine J.turn1 [] rfl (As:=[m9 212 23 none 0 0 (J1 [])]) (λh s=>Sep.one ⟨rfl,rfl,rfl⟩) rfl ?_;refine J.q λ_=>?_;refine J.l (α:=(Nat×Option Nat×Nat)) (λz=>z.1<=n/\(l.take z.1).all (W.ok b r m)=true) (λz=>[si 31 z.1,si 30 n,sv 29 (.slice a n cap),sv 10 (slv z.2.1 z.1 z.2.2),⟨8,pp (bb 0),3, .tt⟩,si 0 b,si 1 r,si 2 m]) [3] (λz=>[m9 212 23 z.2.1 z.1 z.2.2 (J1 ((l.take z.1).map (W.sh b r m)))]) (λz=>n-z.1) ((0,none,0)) (⟨j7 _,rfl⟩) λz hI=>?_;obtain⟨k,a',cap'⟩:=z;dsimp only at hI ⊢;refine J.qd (λ_ h2=>?_) λ_ h2=>?_
 ·simp only[d5,i5]at h2;obtain⟨e,he0⟩:∃e,l[k]? =some e:=⟨_,c9 (by omega)⟩;have hel:e.data.length=16:=hd e (j8 he0);refine J.know (p:=∃g o,a=some ⟨g,o,none⟩) (λh' s=>Rd.addr (hA _ (s.get (i:=1) rfl)) (by omega)) λhk=>?_;obtain⟨g,o,rfl⟩:=hk;refine J.q λ_=>?_;refine J.v (enV e) rfl rfl (λhg a w he hw=>?_) ?_
  ·exact a3Z tk rfl rfl he rfl rfl rfl (hA _ (hw.get (i:=1) rfl)) (by omega) (j:=k*19) (by omega) (by have:=a0e l [] k e he0;rwa [m6]at this) rfl
  refine J.qp (b1j b r m e hel) [] λ_=>?_;have htk:l.take (k+1)=l.take k++[e]:=by rw[D3,he0];rfl
  refine J.qd (λ_ h3=>?_) λ_ h3=>?_
  ·simp only[i4]at h3;refine J.qr [1] λ_=>?_;have:W.parB b r m l=false:=by
    unfold W.parB;have:l.all (W.ok b r m)=false:=by
     rw[List.all_eq_false];exact⟨e,j8 he0,by simp[h3]⟩
    rw[this];simp
   exact⟨by rw[W.par,this];rfl,rfl⟩
  ·simp only[A9]at h3;rw[show W.own b r m e=W.sh b r m e from d8 h3];refine J.q λ_=>?_;refine J.append hX tk 3 6 0 rfl rfl rfl rfl rfl rfl rfl rfl rfl rfl rfl rfl rfl rfl rfl rfl ?_ ?_ (λ_=>rfl) λa2 cap2=>⟨_,(congrArg (λz=>U3 _ 3 (m9 _ _ _ _ _ z)) (Q5 _ (W.sh b r m e)).symm).trans rfl,trivial,?_⟩
   ·simp only[maxLen];omega
   ·omega
   rw[show(l.take k).map (W.sh b r m)++[W.sh b r m e]=(l.take (k+1)).map (W.sh b r m)from by rw[htk,t7];rfl];refine J.q λ_=>?_;refine J.n ((k+1,a2,cap2)) (⟨by dsimp only;omega,by dsimp only;rw[htk,List.all_append,hI.2];simp[h3]⟩) (by dsimp only;omega) [0,1,2,3]
 ·simp only[c8,i5]at h2;obtain rfl:k=n:=by omega
  rw[show l.take k=l from B1 (by omega)]at*;refine J.qp (a1G a' k cap' (l.map (W.sh b r m)) (by rw[l7,hl]) hn (λs hs=>by obtain⟨e,he,rfl⟩:=List.mem_map.1 hs;exact hd e he)) [3] λ_=>?_;obtain⟨mm,hm1,hm2⟩:=a5b (l.map (W.sh b r m)) (zeros16,0) ⟨by decide,by decide⟩;have hm1:(W.over (l.map (W.sh b r m))).2=(mm:Int):=hm1;rw[hm1];refine J.qp (c1g mm hm2) [] λ_=>?_;refine J.qr [1] λ_=>?_;have hB:W.parB b r m l=true:=by
   unfold W.parB;rw[hl,hI.2];have:l.isEmpty=false:=by
    cases l with
    | nil=>simp at hl;omega
    | cons x l=>rfl
   rw[this];simp[h1.1]
  refine⟨?_,rfl⟩;have hx:mm=(W.over (l.map (W.sh b r m))).2.toNat:=by rw[hm1];rfl
  rw[W.par,hB,d8 rfl,W.parS,<- hx];rfl
theorem a9o {N:Nand} (hN:N.Ok) (x y z:Int):(N.readV x y z).length=32:=by
 unfold Nand.readV;split
 ·rfl
 ·rename_i h;simp only[H5,a1e]at h;obtain⟨_,_,hr⟩:=Nand.refuses_zero h;split
  ·rfl
  ·rename_i c hc;split
   ·rfl
   ·exact(hN.cells _ _ (by omega) (by omega)).2 c (j8 hc)
namespace M
def bad (s:Sh) (x y z:Int):Bool:=s.block !=y||s.row !=z|| !L.has s.mask x||(G.parity s.mask s.block s.row==x) !=(s.kind==2)
def look (N:Nand) (x y z:Int):Sh×Int:=
 let e:=N.readE x y z
 if e=0 then
  let p:=N.readV x y z
  if S.getE p≠0\/bad (S.getV p) x y z=true then(Sh.zero,3)else(S.getV p,1)
 else if e=5 then(Sh.zero,2)
 else if e=8\/e=9\/e=3\/e=12 then(Sh.zero,4)
 else(Sh.zero,3)
end M
theorem a5U (p:Nat) (N:Nand) (hN:N.Ok) (hR:N.Room) (x y z:Int):FP 166 [pp p, .agg #[iI x,iI y,iI z]] [B8 p N]
  (Ps (.tuple #[shV (M.look N x y z).1,iI (M.look N x y z).2]) [B8 p N]):=by
 refine FE [2,0] Tryz.func166 λX F hX=>?_;refine J.qp (a7Q p N hN x y z) [1] λ_=>?_;refine J.qd (λ_ h1=>?_) λ_ h1=>?_
 ·simp only[A4]at h1;refine J.qp (b7O (N.readV x y z) (a9o hN x y z)) [] λ_=>?_;refine J.p (.of [0,5,8,13,16,21,28,33,26,36,40]) [10] [1,2,3,4,5] λ_=>?_;refine J.qp (a1m (S.getV (N.readV x y z)).mask (S.getV (N.readV x y z)).block (S.getV (N.readV x y z)).row) [] λ_=>?_;have hlk:M.look N x y z=if S.getE (N.readV x y z)≠0\/M.bad (S.getV (N.readV x y z)) x y z=true then(Sh.zero,3)else(S.getV (N.readV x y z),1):=by simp only[M.look];rw[d8 h1]
  generalize hE:S.getE (N.readV x y z)=ge at hlk;generalize hS:S.getV (N.readV x y z)=s at hlk;refine J.q λ_=>?_;refine J.gcase hX rfl rfl rfl trivial (λhb=>?_) (λhb=>?_)
  ·have hb2:(ge !=0||s.block !=y||s.row !=z)=false:=by rw[i4]at hb;exact hb
   rw[hb2];refine J.qp (a9C s.mask x) [] λ_=>?_;have hcond:(false|| !L.has s.mask x||(G.parity s.mask s.block s.row==x) !=(s.kind==2))=true->ge≠0\/M.bad s x y z=true:=λh=>by
    simp only[E5]at hb2;right;unfold M.bad;rw[hb2.1.2,hb2.2];exact h
   have hcond2:(false|| !L.has s.mask x||(G.parity s.mask s.block s.row==x) !=(s.kind==2))=false->¬(ge≠0\/M.bad s x y z=true):=λh=>by
    simp only[E5]at hb2;have h0:ge=0:=by simpa using hb2.1.1
    have h2:M.bad s x y z=false:=by unfold M.bad;rw[hb2.1.2,hb2.2];exact h
    simp[h0,h2]
   refine J.qd (λ_ h5=>?_) λ_ h5=>?_
   ·refine J.qr [1] λ_=>?_;have hc:ge≠0\/M.bad s x y z=true:=hcond h5;rw[hlk,d8 hc];exact⟨rfl,rfl⟩
   ·refine J.qr [1] λ_=>?_;have hc:¬(ge≠0\/M.bad s x y z=true):=hcond2 h5;rw[hlk,d6 hc];exact⟨rfl,rfl⟩
  ·have hb2:(ge !=0||s.block !=y||s.row !=z)=true:=by rw[A9]at hb;exact hb
   rw[hb2];refine J.q λ_=>?_;refine J.v (.bool false) rfl rfl (λhg a w he hw=>by simp[G.on]at hg) ?_;have hc:ge≠0\/M.bad s x y z=true:=by
    simp only[j6,E6,H5]at hb2;rcases hb2 with(h | h) | h
    ·exact .inl h
    ·right;simp[M.bad,h]
    ·right;simp[M.bad,h]
   rw[d8 hc]at hlk;refine J.qd (λ_ h5=>?_) λ_ h5=>?_
   ·refine J.qr [1] λ_=>?_;rw[hlk];exact⟨rfl,rfl⟩
   ·simp at h5
 simp only[l8,H5]at h1;refine J.qd (λ_ h2=>?_) λ_ h2=>?_
 ·simp only[A4]at h2;refine J.qr [1] λ_=>?_;exact⟨by simp only[M.look];rw[d6 h1,d8 h2];rfl,rfl⟩
 simp only[l8,H5]at h2;have hgone:(N.readE x y z=8\/N.readE x y z=9\/N.readE x y z=3\/N.readE x y z=12)->M.look N x y z=(Sh.zero,4):=λh=>by simp only[M.look];rw[d6 h1,d6 h2,d8 h]
 have hbad:¬(N.readE x y z=8\/N.readE x y z=9\/N.readE x y z=3\/N.readE x y z=12)->M.look N x y z=(Sh.zero,3):=λh=>by simp only[M.look];rw[d6 h1,d6 h2,d6 h]
 refine J.qd (λ_ g8=>?_) λ_ g8=>?_
 ·rw[g8];refine J.qT λ_=>?_;refine J.qr [1] λ_=>?_;simp only[A4]at g8;rw[hgone (by simp[g8])];exact⟨rfl,rfl⟩
 refine J.qd (λ_ g9=>?_) λ_ g9=>?_
 ·rw[g9];refine J.qT λ_=>?_;refine J.qr [1] λ_=>?_;simp only[A4]at g9;rw[hgone (by simp[g9])];exact⟨rfl,rfl⟩
 refine J.qd (λ_ g3=>?_) λ_ g3=>?_
 ·rw[g3];refine J.qT λ_=>?_;refine J.qr [1] λ_=>?_;simp only[A4]at g3;rw[hgone (by simp[g3])];exact⟨rfl,rfl⟩
 refine J.qd (λ_ g12=>?_) λ_ g12=>?_
 ·refine J.qr [1] λ_=>?_;simp only[A4]at g12;rw[hgone (by simp[g12])];exact⟨rfl,rfl⟩
 refine J.qr [1] λ_=>?_;simp only[l8,H5]at g8 g9 g3 g12;rw[hbad (by simp[g8,g9,g3,g12])];exact⟨rfl,rfl⟩
def A5 (l:List Int):List Value:=l.map (.int .i64)
theorem a1p (l:List Int) (x:Int):A5 (l++[x])=A5 l++[iI x]:=by simp[A5]
namespace M
def rowN (N:Nand) (b r:Int) (k:Nat):List (Sh×Int):=(List.range k).map λd:Nat=>look N (d:Int) b r
end M
theorem a9l (N:Nand) (b r:Int) (k:Nat):M.rowN N b r (k+1)=M.rowN N b r k++[M.look N (k:Int) b r]:=by simp[M.rowN,s9]
theorem c0q (p:Nat) (N:Nand) (hN:N.Ok) (hR:N.Room) (b r:Int):FP 163 [pp p,iI b,iI r] [B8 p N]
  (λv As=>∃a1 c1 a2 c2,v= .tuple #[slv a1 N.dies c1,slv a2 N.dies c2]/\As=[B8 p N,m9 212 23 a1 N.dies c1 (J1 ((M.rowN N b r N.dies).map (·.1))),m9 3 1 a2 N.dies c2 (A5 ((M.rowN N b r N.dies).map (·.2)))]):=by
 have hbd:=hN.bd;refine FE [2,0,0] Tryz.func163 λX F hX=>?_;refine J.qp (a2B p N) [1] λ_=>?_;refine J.turn1 [] rfl (As:=[m9 212 23 none 0 0 (J1 []),m9 3 1 none 0 0 (A5 [])]) (λh s=>⟨λ_=>0,λi A hA=>by
  match i,hA with
  | 0,hA=>simp at hA;subst hA;exact⟨rfl,rfl,rfl⟩
  | 1,hA=>simp at hA;subst hA;exact⟨rfl,rfl,rfl⟩
  | k+2,hA=>simp at hA⟩) rfl ?_
 refine J.q λ_=>?_;refine J.l (α:=(Nat×(Option Nat×Nat)×(Option Nat×Nat))) (λz=>z.1<=N.dies) (λz=>[si 16 z.1,si 15 N.dies,sv 8 (slv z.2.1.1 z.1 z.2.1.2),sv 9 (slv z.2.2.1 z.1 z.2.2.2),⟨0,pp p,2, .tt⟩,si 1 b,si 2 r]) [2,3] (λz=>[m9 212 23 z.2.1.1 z.1 z.2.1.2 (J1 ((M.rowN N b r z.1).map (·.1))),m9 3 1 z.2.2.1 z.1 z.2.2.2 (A5 ((M.rowN N b r z.1).map (·.2)))]) (λz=>N.dies-z.1) ((0,(none,0),(none,0))) (j7 _) λz hI=>?_;obtain⟨k,⟨a1,c1⟩,⟨a2,c2⟩⟩:=z;dsimp only at hI ⊢;refine J.qd (λ_ h1=>?_) λ_ h1=>?_
 ·simp only[d5,i5]at h1;refine J.qp (a5U p N hN hR k b r) [1] λ_=>?_;refine J.q λ_=>?_;refine J.append hX tk 2 5 0 rfl rfl rfl rfl rfl rfl rfl rfl rfl rfl rfl rfl rfl rfl rfl rfl ?_ ?_ (λ_=>rfl) λa3 c3=>⟨_,(congrArg (λz=>U3 _ 2 (m9 _ _ _ _ _ z)) (Q5 _ (M.look N k b r).1).symm).trans rfl,trivial,?_⟩
  ·simp only[maxLen];omega
  ·omega
  refine J.q λ_=>?_;refine J.append hX tk 3 6 0 rfl rfl rfl rfl rfl rfl rfl rfl rfl rfl rfl rfl rfl rfl rfl rfl ?_ ?_ (λ_=>rfl) λa4 c4=>⟨_,(congrArg (λz=>U3 _ 3 (m9 _ _ _ _ _ z)) (a1p _ (M.look N k b r).2).symm).trans rfl,trivial,?_⟩
  ·simp only[maxLen];omega
  ·omega
  rw[show(M.rowN N b r k).map (·.1)++[(M.look N k b r).1]=(M.rowN N b r (k+1)).map (·.1)from by rw[a9l,t7];rfl,show(M.rowN N b r k).map (·.2)++[(M.look N k b r).2]=(M.rowN N b r (k+1)).map (·.2)from by rw[a9l,t7];rfl];refine J.q λ_=>?_;refine J.n ((k+1,(a3,c3),(a4,c4))) (by dsimp only;omega) (by dsimp only;omega) [0,1,2,3]
 ·simp only[c8,i5]at h1;obtain rfl:k=N.dies:=by omega
  refine J.qr [1,2,3] λ_=>?_;exact⟨a1,c1,a2,c2,rfl,rfl⟩
theorem c1s (x y:Int):FP 213 [iI x,iI y] [] (Ps (.bool (decide (x<y))) []):=by
 refine FE [] Tryz.func213 λX F hX=>?_;refine J.qp (b0W x) [] λ_=>?_;refine J.q λ_=>?_;refine J.gcase hX rfl rfl rfl trivial (λhb=>by cases hb) (λ_=>?_);refine J.q λ_=>?_;refine J.v (.bool false) rfl rfl (λhg a w he hw=>by simp[G.on]at hg) ?_;refine J.qr [] λ_=>?_;exact⟨by simp,rfl⟩
theorem M7 (l:List Int):(A5 l).length=l.length:=by simp[A5]
theorem a0C (l:List Int) (r:List Value) (k:Nat) (x:Int) (h:l[k]? =some x):(A5 l++r)[k]? =some (iI x):=by
 obtain⟨h1,h2⟩:=List.getElem?_eq_some_iff.1 h;rw[D8 (by rw[M7];exact h1),A5,i9,h];rfl
theorem a1U (l:List Int) (r:List Value) (k:Nat) (x:Int) (h:k<l.length):(A5 l++r).set k (iI x)=A5 (l.set k x)++r:=by
 rw[P7 _ _ (by rw[M7];exact h),A5,A5,L7]
def a7v (l:List Int) (j:Nat):List Int:=(l.set j (l.getD (j-1) 0)).set (j-1) (l.getD j 0)
def a3C:Nat->List Int->List Int
 | 0,l=>l
 | j+1,l=>if l.getD (j+1) 0<l.getD j 0 then a3C j (a7v l (j+1))else l
def a0h (l:List Int):Nat->List Int
 | 0=>l
 | k+1=>a3C (k+1) (a0h l k)
def a0g (l:List Int):List Int:=a0h l (l.length-1)
theorem a2w (l:List Int) (j:Nat):(a7v l j).length=l.length:=by simp[a7v]
theorem a9g:∀(j:Nat) (l:List Int),(a3C j l).length=l.length
  | 0,l=>rfl
  | j + 1, l => by unfold a3C; split
                   · rw[a9g j,a2w]
                   · rfl
theorem a1P (l:List Int):∀k,(a0h l k).length=l.length
 | 0=>rfl
 | k+1=>by rw[a0h,a9g,a1P l k]
theorem b9J (g n cap:Nat) (l:List Int) (hl:l.length=n) (hn:n<=4611686018427387904) (r:List Value):FP 207 [.slice (some ⟨g,0,none⟩) n cap,iI 0,iI n] [.pt g 3 (A5 l++r)]
  (Ps (.tuple #[]) [.pt g 3 (A5 (a0g l)++r)]):=by
 refine FE [2,0,0] Tryz.func207 λX F hX=>?_;refine J.q λ_=>?_;refine J.l (α:=Nat) (λi=>1<=i/\i<=max 1 n) (λi=>[si 6 i,⟨0, .slice (some ⟨g,0,none⟩) n cap,2, .tt⟩,si 1 0,si 2 n]) [1] (λi=>[.pt g 3 (A5 (a0h l (i-1))++r)]) (λi=>n-i) (1) (⟨by omega,by omega⟩) λi hI=>?_;refine J.qd (λ_ h1=>?_) λ_ h1=>?_
 ·simp only[d5,i5]at h1;refine J.q λ_=>?_;refine J.l (α:=(Nat×List Int)) (λy=>y.1<=i/\y.2.length=n/\a3C y.1 y.2=a0h l i) (λy=>[si 7 y.1,si 6 i,⟨0, .slice (some ⟨g,0,none⟩) n cap,2, .tt⟩,si 1 0,si 2 n]) [1] (λy=>[.pt g 3 (A5 y.2++r)]) (λy=>y.1) ((i,a0h l (i-1))) (⟨i7 _,by rw[a1P,hl],by obtain⟨k,rfl⟩:∃k,i=k+1:=⟨i-1,by omega⟩;rfl⟩) λy hI=>?_;obtain⟨j,m⟩:=y;dsimp only at hI ⊢;have hget:∀e,e<n->m[e]? =some (m.getD e 0):=λe he=>by rw[d7,c9 (by omega),j3]
  rcases P5 j with h2 | h2
  ·subst h2;refine J.pn 4 (.of [0,4,8,12,16,20,24,29,32,36,40,44,49,54,56]) [] [1] λ_ _=>?_;rw[show decide (((0:Nat):Int)>0)=false from rfl];refine J.q λ_=>?_;refine J.vT (iI 0) rfl rfl (λhg a w he hC=>by simp[G.on]at hg) ?_;refine J.q λ_=>?_;refine J.vT (iI 0) rfl rfl (λhg a w he hC=>by simp[G.on]at hg) ?_;refine J.q λ_=>?_;refine J.gcase hX rfl rfl rfl ⟨rfl,trivial⟩ (λh=>by cases h) (λ_=>?_);refine J.slot (k:=29) (s':=⟨29, .bool false,0, .when false⟩) rfl rfl rfl ?_;refine J.qF λ_=>?_;have hm:m=a0h l (i+1-1):=hI.2.2;rw[hm];refine J.q λ_=>?_;refine J.n (i+1) (⟨by omega,by omega⟩) (by omega) [0,1]
  ·obtain⟨j,rfl⟩:∃k,j=k+1:=⟨j-1,by omega⟩;refine J.pn 4 (.of [0,4,8,12,16,20,24,29,32,36,40,44,49,54,56]) [] [1] λ_ _=>?_;rw[show decide (((j+1:Nat):Int)>0)=true from i6 (by omega)];refine J.q λ_=>?_;refine J.vT (iI (m.getD (j+1) 0)) rfl rfl (λhg a w he hC=>?_) ?_
   ·exact D4 tk rfl rfl he hg rfl rfl (hC rfl _ (B6 (i:=1) rfl)) (by rw[show 0+((j+1:Nat):Int).toNat*1=j+1 from by omega];exact a0C m r _ _ (hget _ (by omega)))
   refine J.q λ_=>?_;refine J.vT (iI (m.getD j 0)) rfl rfl (λhg a w he hC=>?_) ?_
   ·exact D4 tk rfl rfl he hg rfl rfl (hC rfl _ (B6 (i:=1) rfl)) (by rw[show 0+(((j+1:Nat):Int)-1).toNat*1=j from by omega];exact a0C m r _ _ (hget _ (by omega)))
   refine J.q λ_=>?_;refine J.call hX (by kernel_rfl) (c1s (m.getD (j+1) 0) (m.getD j 0)) [] 0 rfl rfl rfl rfl (by(repeat' (first | exact Conj.nil | refine Conj.cons ?_ ?_ | omega | exact hq0 | (simpa using hq0) | (exactλh=>h) | exact rfl | (intro hq;have hq0:=hq;try simp only[f7,j6,d5,i4,c8]at hq) | (simp;done) | (simp;omega) | decide))) rfl rfl (λ_=>rfl) ?_;refine cpq ⟨_,rfl,⟨rfl,trivial⟩,?_⟩;refine J.qd (λ_ h3=>?_) λ_ h3=>?_
   ·simp only[q9,d5]at h3;refine J.pq (.take true 0 (.take true 1 (.take true 2 (.take true 3 (.take true 4 (.take true 5 (.take true 6 (.take true 7 (.take true 8 (.take true 10 (.take true 11 (.take true 12 (.alt false 9 ((.of [54,56,62,64,71])) (.alt false 13 ((.of [38,56,62,64,71])) .non)))))))))))))) [16,17] [] λ_ _=>?_;refine J.alts ?_ ?_
    ·refine J.v (iI (m.getD j 0)) rfl rfl (λhg a w he hs=>?_) ?_
     ·exact D4 tk rfl rfl he hg rfl rfl (hs.get (i:=1) rfl) (by rw[show 0+(((j+1:Nat):Int)-1).toNat*1=j from by omega];exact a0C m r _ _ (hget _ (by omega)))
     refine J.q λ_=>?_;refine J.v (iI (m.getD (j+1) 0)) rfl rfl (λhg a w he hs=>?_) ?_
     ·exact D4 tk rfl rfl he hg rfl rfl (hs.get (i:=1) rfl) (by rw[show 0+((j+1:Nat):Int).toNat*1=j+1 from by omega];exact a0C m r _ _ (hget _ (by omega)))
     refine J.q λ_=>?_;refine J.s1 1 (A5 (m.set (j+1) (m.getD j 0))++r) ?_ ?_ ?_
     ·rw[f8,M7];show 0+((j+1:Nat):Int).toNat*1<_;omega
     ·rw[show 0+((j+1:Nat):Int).toNat*1=j+1 from by omega];exact a1U m r (j+1) _ (by omega)
     refine J.q λ_=>?_;refine J.s1 1 (A5 (a7v m (j+1))++r) ?_ ?_ ?_
     ·rw[f8,M7,A7];show 0+(((j+1:Nat):Int)-1).toNat*1<_;omega
     ·rw[show 0+(((j+1:Nat):Int)-1).toNat*1=j from by omega];exact a1U _ r j _ (by rw[A7];omega)
     refine J.q λ_=>?_;rw[show((j+1:Nat):Int)-1=(j:Int)from by omega];refine J.q λ_=>?_;refine J.n ((j,a7v m (j+1))) (⟨by dsimp only;omega,by rw[a2w];exact hI.2.1,by rw[<- hI.2.2];exact(d8 h3).symm⟩) (by dsimp only;omega) [0,1]
    ·refine J.v (iI (m.getD (j+1) 0)) rfl rfl (λhg a w he hs=>?_) ?_
     ·exact D4 tk rfl rfl he hg rfl rfl (hs.get (i:=1) rfl) (by rw[show 0+((j+1:Nat):Int).toNat*1=j+1 from by omega];exact a0C m r _ _ (hget _ (by omega)))
     refine J.q λ_=>?_;refine J.v (iI (m.getD j 0)) rfl rfl (λhg a w he hs=>?_) ?_
     ·exact D4 tk rfl rfl he hg rfl rfl (hs.get (i:=1) rfl) (by rw[show 0+(((j+1:Nat):Int)-1).toNat*1=j from by omega];exact a0C m r _ _ (hget _ (by omega)))
     refine J.q λ_=>?_;refine J.s1 1 (A5 (m.set (j+1) (m.getD j 0))++r) ?_ ?_ ?_
     ·rw[f8,M7];show 0+((j+1:Nat):Int).toNat*1<_;omega
     ·rw[show 0+((j+1:Nat):Int).toNat*1=j+1 from by omega];exact a1U m r (j+1) _ (by omega)
     refine J.q λ_=>?_;refine J.s1 1 (A5 (a7v m (j+1))++r) ?_ ?_ ?_
     ·rw[f8,M7,A7];show 0+(((j+1:Nat):Int)-1).toNat*1<_;omega
     ·rw[show 0+(((j+1:Nat):Int)-1).toNat*1=j from by omega];exact a1U _ r j _ (by rw[A7];omega)
     refine J.q λ_=>?_;rw[show((j+1:Nat):Int)-1=(j:Int)from by omega];refine J.q λ_=>?_;refine J.n ((j,a7v m (j+1))) (⟨by dsimp only;omega,by rw[a2w];exact hI.2.1,by rw[<- hI.2.2];exact(d8 h3).symm⟩) (by dsimp only;omega) [0,1]
   ·simp only[q9,c8]at h3;have hm:m=a0h l (i+1-1):=by rw[show i+1-1=i from rfl,<- hI.2.2];exact(d6 h3).symm
    rw[hm];refine J.q λ_=>?_;refine J.n (i+1) (⟨by omega,by omega⟩) (by omega) [0,1]
 ·simp only[c8,i5]at h1;have hi:a0h l (i-1)=a0g l:=by
   rw[a0g,hl,show i-1=n-1 from by omega]
  rw[hi];refine J.q λ_=>?_;refine J.f [1] ?_;exact⟨rfl,rfl⟩
theorem a0Z (l:List Int):(a0g l).length=l.length:=a1P l _
theorem b9h (g n cap:Nat) (l:List Int) (hl:l.length=n) (hn:n<=12) (r:List Value) (k:Nat):FP 170 [.slice (some ⟨g,0,none⟩) n cap,iI 0,iI n,iI k] [.pt g 3 (A5 l++r)]
  (Ps (.tuple #[]) [.pt g 3 (A5 (a0g l)++r)]):=by
 refine FE [2,0,0,0] Tryz.func170 λX F hX=>?_;refine J.q λ_=>?_;refine J.l (α:=Nat) (λy=>True) (λy=>[⟨0, .slice (some ⟨g,0,none⟩) n cap,2, .tt⟩,si 1 0,si 2 n,si 3 k]) [1] (λy=>[.pt g 3 (A5 l++r)]) (λy=>0) (0) (trivial) λy hI=>?_;refine J.qd (λ_ h1=>?_) λ_ h1=>?_
 ·refine J.q λ_=>?_;rw[show(n:Int)-0=n from by omega]at*;refine J.qp (b9J g n cap l hl (by omega) r) [1] λ_=>?_;exact J.qx [1]
 ·simp only[c8]at h1;omega
theorem b6L (d:Value) (k:Nat):FP 170 [d,iI 0,iI 0,iI k] [] (Ps (.tuple #[]) []):=by
 have h0:FP 207 [d,iI 0,iI 0] [] (Ps (.tuple #[]) []):=by
  refine FE [0,0,0] Tryz.func207 λX F hX=>?_;refine J.q λ_=>?_;refine J.l (α:=Nat) (λy=>True) (λy=>[si 6 (0+1),sv 0 d,si 1 0,si 2 0]) [] (λy=>[]) (λy=>0) (0) (trivial) λy hI=>?_;refine J.qd (λ_ h1=>?_) λ_ h1=>?_
  ·simp at h1
  ·refine J.q λ_=>?_;refine J.f [] ?_;exact⟨rfl,rfl⟩
 refine FE [0,0,0,0] Tryz.func170 λX F hX=>?_;refine J.q λ_=>?_;refine J.l (α:=Nat) (λy=>True) (λy=>[sv 0 d,si 1 0,si 2 0,si 3 k]) [] (λy=>[]) (λy=>0) (0) (trivial) λy hI=>?_;refine J.qd (λ_ h1=>?_) λ_ h1=>?_
 ·refine J.qp (h0) [] λ_=>?_;exact J.qx []
 ·simp at h1
theorem a7B (a:Option Nat) (n cap:Nat) (l:List Int) (hl:l.length=n) (hn:n<=12):FP 106 [slv a n cap] [m9 3 1 a n cap (A5 l)]
  (Ps (.tuple #[]) [m9 3 1 a n cap (A5 (a0g l))]):=by
 refine FE [0] Tryz.func106 λX F hX=>?_;refine J.qc (c0u n hn) [] λ_=>?_;rintro v As ⟨⟨k,hk,rfl⟩,rfl⟩;refine⟨_,rfl,trivial,?_⟩;refine J.q λ_=>?_;cases a with
 | none=>
  refine J.know (λh' s=>(s.get (i:=1) rfl).2.1) λhn0=>?_;subst hn0;have:l=[]:=n5 hl;subst this;refine J.qp (b6L (slv none 0 cap) k) [] λ_=>?_;refine J.q λ_=>?_;refine J.f [1] ?_;exact⟨rfl,rfl⟩
 | some g=>
  refine J.openOwn 1 rfl rfl (λ_=>rfl) λr q1 q2 q3 q4=>?_;refine J.qp (b9h g n cap l hl hn r k) [1] λ_=>?_;refine J.closeOwn (e:=3) (size:=1) (n:=n) (cap:=cap) (xs:=A5 (a0g l)) 1 rfl rfl (by rw[M7,a0Z l,hl,V0]) q2 q3 (by rw[f8,M7,a0Z l];rw[M7]at q4;exact q4) (by rw[D6 (by rw[M7,a0Z l,hl,V0])]) rfl ?_;refine J.q λ_=>?_;refine J.f [1] ?_;exact⟨rfl,rfl⟩
def L4 (p:Int):List Int->List Int
 | []=>[]
 | x::r=>if x=p then L4 x r else x::L4 x r
def J9:List Int->List Int
 | []=>[]
 | x::r=>x::L4 x r
def CpI (l m:List Int) (k j:Nat):Prop:=m.length=l.length/\1<=k/\k+1<=j/\j<=l.length/\m.drop (j-1)=l.drop (j-1)/\m.take k++L4 (l.getD (j-1) 0) (l.drop j)=J9 l
theorem c1p {l:List Int} {k:Nat} (hk:1<=k) (hl:k<l.length) (h:l.take k++L4 (l.getD (k-1) 0) (l.drop k)=J9 l) (hne:l.getD k 0≠l.getD (k-1) 0):l.take (k+1)++L4 (l.getD k 0) (l.drop (k+1))=J9 l:=by
 have hx:l.getD k 0=l[k]:=by rw[d7,c9 hl,j3]
 rw[t6 hl,L4,d6 (by rw[<- hx];exact hne)]at h;rw[<- h,hx,D3,c9 hl];simp only[K7,m7,List.singleton_append]
theorem CpI.start {l:List Int} {k:Nat} (hk:1<=k) (hl:k<l.length) (h:l.take k++L4 (l.getD (k-1) 0) (l.drop k)=J9 l) (he:l.getD k 0=l.getD (k-1) 0):CpI l l k (k+1):=by
 have hx:l.getD k 0=l[k]:=by rw[d7,c9 hl,j3]
 refine⟨rfl,hk,by omega,by omega,rfl,?_⟩;rw[t6 hl,L4,d8 (by rw[<- hx];exact he)]at h;rw[P6,hx];exact h
theorem CpI.get {l m:List Int} {k j:Nat} (h:CpI l m k j) (i:Nat) (hi:j-1<=i):m.getD i 0=l.getD i 0:=by
 have h5:=h.2.2.2.2.1;have e:m[i]? =l[i]?:=by
  have:=congrArg (λz=>z[i-(j-1)]?) h5;simp only[K8]at this
  rwa [show j-1+(i-(j-1))=i from by omega]at this
 rw[d7,e,d7]
theorem CpI.skip {l m:List Int} {k j:Nat} (h:CpI l m k j) (hj:j<l.length) (he:l.getD j 0=l.getD (j-1) 0):CpI l m k (j+1):=by
 obtain⟨h1,h2,h3,h4,h5,h6⟩:=h;have hx:l.getD j 0=l[j]:=by rw[d7,c9 hj,j3]
 refine⟨h1,h2,by omega,by omega,?_,?_⟩
 ·have:=congrArg (List.drop 1) h5;rw[C0,C0]at this
  rwa [show j-1+1=j+1-1 from by omega]at this
 ·rw[t6 hj,L4,d8 (by rw[<- hx];exact he)]at h6;rw[P6,hx];exact h6
theorem CpI.keep {l m:List Int} {k j:Nat} (h:CpI l m k j) (hj:j<l.length) (he:l.getD j 0≠l.getD (j-1) 0):CpI l (m.set k (l.getD j 0)) (k+1) (j+1):=by
 obtain⟨h1,h2,h3,h4,h5,h6⟩:=h;have hx:l.getD j 0=l[j]:=by rw[d7,c9 hj,j3]
 refine⟨by simp[h1],by omega,by omega,by omega,?_,?_⟩
 ·rw[List.drop_set_of_lt (by omega)];have:=congrArg (List.drop 1) h5;rw[C0,C0]at this
  rwa [show j-1+1=j+1-1 from by omega]at this
 ·rw[t6 hj,L4,d6 (by rw[<- hx];exact he)]at h6;rw[P6,hx,<- h6,a3U,D3,c9 (by omega),R0 _ _ (by simp;omega)];simp[j9,L8 (show k<=m.length by omega)]
theorem a8t {l:List Int} (h:l.length<2):J9 l=l:=by
 match l,h with
 | [],_=>rfl
 | [x],_=>rfl
theorem a8X (a:Option Nat) (n cap:Nat) (l:List Int) (hl:l.length=n) (hn:n<=4611686018427387904):FP 107 [slv a n cap] [m9 3 1 a n cap (A5 l)]
  (λv As=>∃l',l'=J9 l/\v=slv a l'.length cap/\As=[m9 3 1 a l'.length cap (A5 l')]):=by
 refine FE [0] Tryz.func107 λX F hX=>?_;refine J.qd (λ_ h0=>?_) λ_ h0=>?_
 ·simp only[d5]at h0;refine J.qr [1] λ_=>?_;have hs:J9 l=l:=a8t (by omega);exact⟨l,hs.symm,by rw[hl],by rw[hl];rfl⟩
 simp only[c8]at h0;cases a with
 | none=>
  refine J.know (λh' s=>(s.get (i:=1) rfl).2.1) λhn0=>?_;omega
 | some g=>
  refine J.openOwn 1 rfl rfl (λ_=>rfl) λr q1 q2 q3 q4=>?_;refine J.q λ_=>?_;refine J.l (α:=Nat) (λk=>1<=k/\k<=n/\l.take k++L4 (l.getD (k-1) 0) (l.drop k)=J9 l) (λk=>[si 3 k,sv 0 (slv (some g) n cap)]) [] (λk=>[]) (λk=>n-k) (1) (⟨by omega,by omega,by cases l with | nil=>simp at hl;omega | cons x l=>rfl⟩) λk hI=>?_;have hget:∀e,e<n->(A5 l++r)[e]? =some (iI (l.getD e 0)):=λe he=>a0C l r e _ (by rw[d7,c9 (by omega),j3]);refine J.qd (λ_ h1=>?_) λ_ h1=>?_
  ·simp only[d5,i5]at h1;refine J.pq (.of [0,4,8,13,16,20,24,28,33,36]) [] [1] λ_ _=>?_;refine J.vT (iI (l.getD k 0)) rfl rfl (λhg a w he hC=>?_) ?_
   ·exact D4 tk rfl rfl he hg rfl rfl (hC rfl _ (B6 (i:=1) rfl)) (by rw[show 0+(k:Int).toNat*1=k from by omega];exact hget k h1)
   refine J.q λ_=>?_;refine J.vT (iI (l.getD (k-1) 0)) rfl rfl (λhg a w he hC=>?_) ?_
   ·exact D4 tk rfl rfl he hg rfl rfl (hC rfl _ (B6 (i:=1) rfl)) (by rw[show 0+((k:Int)-1).toNat*1=k-1 from by omega];exact hget (k-1) (by omega))
   refine J.qd (λ_ h2=>?_) λ_ h2=>?_
   ·simp only[A4]at h2;refine J.q λ_=>?_;rw[show(k:Int).toNat=k from j4 k];refine J.q λ_=>?_;refine J.l (α:=(Nat×Nat×List Int)) (λz=>CpI l z.2.2 z.1 (k+z.2.1)/\1<=z.2.1) (λz=>[si 5 z.2.1,sv 4 (.slice (some ⟨g,0+k*1,none⟩) (n-k) (cap-k)),si 3 z.1,sv 0 (slv (some g) n cap)]) [1] (λz=>[.pt g 3 (A5 z.2.2++r)]) (λz=>n-z.2.1) ((k,1,l)) (⟨CpI.start hI.1 (by omega) hI.2.2 h2,i7 _⟩) λz hI=>?_;obtain⟨kk,q,m⟩:=z;dsimp only at hI ⊢;obtain⟨hI,hq⟩:=hI;have hml:m.length=n:=hI.1.trans hl;have hc1:=hI.2.1;have hc2:=hI.2.2.1;have hc3:=hI.2.2.2.1;have hgm:∀e,e<n->(A5 m++r)[e]? =some (iI (m.getD e 0)):=λe he=>a0C m r e _ (by rw[d7,c9 (by omega),j3]);refine J.qd (λ_ h3=>?_) λ_ h3=>?_
    ·simp only[d5,i5]at h3;have hgj:=hI.get (k+q) (by omega);have hgj1:=hI.get (k+q-1) (by omega);have h3':k+q<n:=by omega
     refine J.pq (.of [0,4,8,13,16,20,24,28,33,36]) [] [1] λ_ _=>?_;refine J.vT (iI (m.getD (k+q) 0)) rfl rfl (λhg a w he hC=>?_) ?_
     ·exact D4 tk rfl rfl he hg rfl rfl (hC rfl _ (B6 (i:=1) rfl)) (by rw[show 0+k*1+(q:Int).toNat*1=k+q from by omega];exact hgm _ h3')
     refine J.q λ_=>?_;refine J.vT (iI (m.getD (k+q-1) 0)) rfl rfl (λhg a w he hC=>?_) ?_
     ·exact D4 tk rfl rfl he hg rfl rfl (hC rfl _ (B6 (i:=1) rfl)) (by rw[show 0+k*1+((q:Int)-1).toNat*1=k+q-1 from by omega];exact hgm _ (by omega))
     refine J.qd (λ_ h4=>?_) λ_ h4=>?_
     ·simp only[E6,H5,hgj,hgj1]at h4;refine J.q λ_=>?_;refine J.v (iI (m.getD (k+q) 0)) rfl rfl (λhg a w he hw=>?_) ?_
      ·exact D4 tk rfl rfl he rfl rfl rfl (hw.get (i:=1) rfl) (by rw[show 0+k*1+(q:Int).toNat*1=k+q from by omega];exact hgm _ h3')
      refine J.q λ_=>?_;refine J.s1 1 (A5 (m.set kk (l.getD (k+q) 0))++r) ?_ ?_ ?_
      ·rw[f8,M7];show 0+(kk:Int).toNat*1<_;omega
      ·rw[show 0+(kk:Int).toNat*1=kk from by omega,hgj];exact a1U m r kk _ (by omega)
      refine J.q λ_=>?_;refine J.n ((kk+1,q+1,m.set kk (l.getD (k+q) 0))) (⟨hI.keep (by omega) h4,by dsimp only;omega⟩) (by dsimp only;omega) [0,1]
     ·simp only[z7,hgj,hgj1]at h4;refine J.q λ_=>?_;refine J.n ((kk,q+1,m)) (⟨hI.skip (by omega) h4,by dsimp only;omega⟩) (by dsimp only;omega) [0,1]
    ·simp only[c8,i5]at h3;have hj:k+q=n:=by omega
     have hfin:m.take kk=J9 l:=by
      have h6:=hI.2.2.2.2.2;rw[E7 (by omega)]at h6;simpa[L4]using h6
     refine J.q λ_=>?_;refine J.clear hX tk 1 rfl rfl rfl rfl rfl rfl rfl rfl rfl rfl rfl ?_ (λ_=>rfl) (λ_=>rfl) λcs' z1 z2=>⟨trivial,?_⟩
     ·rw[f8,M7];rw[M7]at q4;show 0+(kk:Int).toNat*1+(n-(kk:Int).toNat)*1<=_;omega
     have hklen:(J9 l).length=kk:=by rw[<- hfin,j9];omega
     refine J.closeOwn (e:=3) (size:=1) (n:=kk) (cap:=cap) (xs:=A5 (J9 l)) 1 rfl rfl (by rw[M7,hklen,V0]) (by omega) q3 (by rw[z1,f8,M7,hml];rw[M7,hl]at q4;exact q4) ?_ rfl ?_
     ·have z3:(0+(kk:Int).toNat*1)=kk:=by omega
      rw[z3]at z2;rw[V0,z2,List.take_append_of_le_length (by rw[M7];omega),<- hfin,A5,A5,List.map_take]
     refine J.qr [1] λ_=>?_;exact⟨_,rfl,by rw[hklen];rfl,by rw[hklen];rfl⟩
   ·simp only[l8,H5]at h2;refine J.q λ_=>?_;refine J.nx (k+1) (⟨by omega,by omega,by rw[P6];exact c1p hI.1 (by omega) hI.2.2 h2⟩) (by omega) (λ_ s=>s)
  ·simp only[c8,i5]at h1;obtain rfl:k=n:=by omega
   have hs:J9 l=l:=by
    have:=hI.2.2;rw[B1 (by omega),E7 (by omega)]at this;simpa[L4]using this.symm
   refine J.closeOwn (e:=3) (size:=1) (n:=k) (cap:=cap) (xs:=A5 l) 1 rfl rfl q1 q2 q3 (by rw[f8];exact q4) (by rw[D6 q1]) rfl ?_;refine J.qr [1] λ_=>?_;exact⟨l,hs.symm,by rw[hl],by rw[hl];rfl⟩
def En.zero:En:=⟨0,0,0,zeros16⟩
def Sh.en (s:Sh):En:=⟨s.lpn,s.seq,s.role,s.data⟩
namespace W
def alien (p s:Sh):Bool:=s.kind !=1|| !S.may s||s.block !=p.block||s.row !=p.row||s.mask !=p.mask
def backS (p:Sh) (l:List Sh):En:=
 let x:=over (l++[p])
 ⟨(x.2.toNat/1099511627776 % 65536:Nat),(x.2.toNat % 1099511627776:Nat),(x.2.toNat/72057594037927936:Nat),x.1⟩
def backB (p:Sh) (l:List Sh):Bool:=p.kind==2&&S.may p&& !l.any (alien p)&&decide ((l.length:Int)=G.slots p.mask-1)&&ok p.block p.row p.mask (backS p l)
def back (p:Sh) (l:List Sh):En:=if backB p l then backS p l else En.zero
end W
structure Fd where
 slots:List Sh
 good:List Bool
 parity:Sh
 whole:Bool
structure Fnd where
 en:En
 block:Int
 row:Int
 slot:Int
 mask:Int
 whole:Bool
 mended:Bool
namespace M
def maskOf (x:Sh×Int):Option Int:=if x.2=1 then some x.1.mask else none
def masks (N:Nand) (b r:Int):List Int:=J9 (a0g ((rowN N b r N.dies).filterMap maskOf))
end M
namespace R
def job (b r m:Int) (l:List En):List (Int×Sh):=(List.range l.length).map (λk=>(G.die m b r (k:Nat),W.sh b r m (l.getD k En.zero)))++[(G.parity m b r,W.parS b r m l)]
def go (b r:Int):List (Int×Sh)->Nand->Int->Nand×Int×Int
 | [],N,f=>(N,f,if f=0 then 0 else 7)
 | (d,s)::q,N,f=>
  if N.progE d b r=0 then go b r q (N.progN d b r (O9 s)) f
  else if N.progE d b r=9 then(N.progN d b r (O9 s),f,9)
  else go b r q (N.progN d b r (O9 s)) (L.with_ f d)
def write (N:Nand) (b r m:Int) (l:List En):Nand×Int×Int:=if W.parB b r m l then go b r (job b r m l) N 0 else(N,0,1)
def one (N:Nand) (b r m d:Int):Sh×Bool:=((M.look N d b r).1,(M.look N d b r).2==1&&(M.look N d b r).1.mask==m)
def ones (N:Nand) (b r m:Int) (k:Nat):List (Sh×Bool):=(List.range k).map λi:Nat=>one N b r m (G.die m b r i)
def look (N:Nand) (b r m:Int):Fd:=⟨(ones N b r m (G.slots m).toNat).map (·.1),(ones N b r m (G.slots m).toNat).map (·.2),(one N b r m (G.parity m b r)).1,(one N b r m (G.parity m b r)).2⟩
def rest (f:Fd) (k:Nat):Bool:=(List.range f.slots.length).all λi=>i==k||f.good.getD i false
def mendB (f:Fd) (k:Nat):Bool:=rest f k&&f.whole&&W.backB f.parity (f.slots.eraseIdx k)
def mend (f:Fd) (k:Nat):En:=if rest f k&&f.whole then W.back f.parity (f.slots.eraseIdx k)else En.zero
def read (N:Nand) (b r s m:Int):En×Int:=
 if G.die m b r s<0\/V8 N.dies N.blocks N.pages 0 b r=false then(En.zero,3)
 else if N.off then(En.zero,9)
 else if(look N b r m).good.getD s.toNat false then(((look N b r m).slots.getD s.toNat Sh.zero).en,0)
 else if mendB (look N b r m) s.toNat then(mend (look N b r m) s.toNat,0)else(En.zero,10)
def enAt (f:Fd) (k:Nat):En:=if f.good.getD k false then(f.slots.getD k Sh.zero).en else mend f k
def okAt (f:Fd) (k:Nat):Bool:=f.good.getD k false||mendB f k
def fnd (f:Fd) (b r m:Int) (k:Nat):Option Fnd:=if okAt f k&&(enAt f k).role !=3 then some ⟨enAt f k,b,r,k,m,f.whole,!(f.good.getD k false)⟩else none
def allM (N:Nand) (b r m:Int):List Fnd:=(List.range (look N b r m).slots.length).filterMap (fnd (look N b r m) b r m)
def all (N:Nand) (b r:Int):List Fnd:=(M.masks N b r).flatMap (allM N b r)
end R
theorem Y6 (N:Nand) (b r m:Int):(R.look N b r m).slots.length=(G.slots m).toNat/\(R.look N b r m).good.length=(G.slots m).toNat:=by simp[R.look,R.ones]
theorem a9w {N:Nand} (hN:N.Ok) (x y z:Int):(M.look N x y z).1.data.length=16:=by
 have hz:Sh.zero.data.length=16:=rfl;unfold M.look;dsimp only;split
 ·split
  ·exact hz
  ·exact b7S _ (a9o hN x y z)
 ·split
  ·exact hz
  ·split<;>exact hz
def mk0 (N:Nand) (b r:Int) (k:Nat):List Int:=((M.rowN N b r N.dies).take k).filterMap M.maskOf
theorem b3B (N:Nand) (b r:Int) (n k:Nat) (h:k<n):(M.rowN N b r n)[k]? =some (M.look N (k:Nat) b r):=by simp[M.rowN,h]
theorem b1H (N:Nand) (b r:Int) (k:Nat) (h:k<N.dies):mk0 N b r (k+1)=mk0 N b r k++(M.maskOf (M.look N (k:Nat) b r)).toList:=by
 unfold mk0;rw[D3,b3B N b r _ k h,U1];congr 1
theorem b9s (N:Nand) (b r:Int) (k:Nat):(mk0 N b r k).length<=k:=by
 refine I7 (List.length_filterMap_le _ _) ?_;rw[j9];omega
theorem a3h {l:List Int} {k:Nat} {x:Int} (h:l[k]? =some x):(A5 l)[k]? =some (iI x):=by simp[A5,h]
theorem a3g {l:List Sh} {k:Nat} {x:Sh} (h:l[k]? =some x):((J1 l).drop (k*23)).take 23=shL x:=by
 have:=a4k l [] k x h;rwa [m6]at this
theorem b3O (p:Nat) (N:Nand) (hN:N.Ok) (hR:N.Room) (b r:Int):FP 161 [pp p,iI b,iI r] [B8 p N]
  (λv As=>∃a c,v=slv a (M.masks N b r).length c/\As=[B8 p N,m9 3 1 a (M.masks N b r).length c (A5 (M.masks N b r))]):=by
 have hbd:=hN.bd;refine FE [2,0,0] Tryz.func161 λX F hX=>?_;refine J.qc (c0q p N hN hR b r) [1] λ_=>?_;rintro v As ⟨a1,c1,a2,c2,rfl,rfl⟩;refine⟨_,rfl,trivial,?_⟩;refine J.turn1 [] rfl (As:=[m9 3 1 none 0 0 (A5 (mk0 N b r 0))]) (λh s=>Sep.one ⟨rfl,rfl,rfl⟩) rfl ?_;refine J.q λ_=>?_;refine J.l (α:=(Nat×Option Nat×Nat)) (λz=>z.1<=N.dies) (λz=>[si 21 z.1,si 20 N.dies,sv 19 (slv a1 N.dies c1),sv 9 (slv a2 N.dies c2),sv 7 (slv z.2.1 (mk0 N b r z.1).length z.2.2)]) [4] (λz=>[m9 3 1 z.2.1 (mk0 N b r z.1).length z.2.2 (A5 (mk0 N b r z.1))]) (λz=>N.dies-z.1) ((0,none,0)) (j7 _) λz hI=>?_;obtain⟨k,a3,c3⟩:=z;dsimp only at hI ⊢;have hml:=b9s N b r k;refine J.qd (λ_ h1=>?_) λ_ h1=>?_
 ·simp only[d5,i5]at h1;refine J.know (λh' s=>D1 (c:=(a1,c1)) (by omega) (s.get (i:=2) rfl)) λhg=>?_;obtain⟨g1,rfl⟩:=hg;refine J.know (λh' s=>D1 (c:=(a2,c2)) (by omega) (s.get (i:=3) rfl)) λhg=>?_;obtain⟨g2,rfl⟩:=hg;have hat:=b3B N b r _ k h1;refine J.q λ_=>?_;refine J.v (shV (M.look N (k:Nat) b r).1) rfl rfl (λhg a w he hs=>?_) ?_
  ·exact J8 tk rfl rfl he rfl rfl rfl (hs.get (i:=2) rfl) (by rw[show 0+(k:Int).toNat*23=k*23 from by omega];exact a3g (by rw[i9,hat];rfl)) rfl
  refine J.q λ_=>?_;refine J.v (iI (M.look N (k:Nat) b r).2) rfl rfl (λhg a w he hs=>?_) ?_
  ·exact I2 tk rfl rfl he rfl rfl rfl (hs.get (i:=3) rfl) (by rw[show 0+(k:Int).toNat*1=k from by omega];exact a3h (by rw[i9,hat];rfl))
  refine J.qd (λ_ h2=>?_) λ_ h2=>?_
  ·simp only[A4]at h2;have hs:mk0 N b r (k+1)=mk0 N b r k++[(M.look N (k:Nat) b r).1.mask]:=by rw[b1H N b r k h1,M.maskOf,d8 h2];rfl
   have hl:(mk0 N b r k).length+1=(mk0 N b r (k+1)).length:=by rw[hs];simp
   refine J.q λ_=>?_;refine J.ap 4 6 0 ((a1p _ _).symm.trans (congrArg A5 hs.symm)) λa4 c4=>?_;rw[hl];refine J.q λ_=>?_;refine J.n ((k+1,a4,c4)) (by dsimp only;omega) (by dsimp only;omega) [0,1,2,3,4]
  ·simp only[l8,H5]at h2;have hs:mk0 N b r k=mk0 N b r (k+1):=by rw[b1H N b r k h1,M.maskOf,d6 h2];simp
   rw[hs];refine J.q λ_=>?_;refine J.n ((k+1,a3,c3)) (by dsimp only;omega) (by dsimp only;omega) [0,1,2,3,4]
 ·simp only[c8,i5]at h1;obtain rfl:k=N.dies:=by omega
  have hall:mk0 N b r N.dies=(M.rowN N b r N.dies).filterMap M.maskOf:=by
   unfold mk0;rw[B1 (by simp[M.rowN])]
  refine J.qp (a7B a3 (mk0 N b r N.dies).length c3 (mk0 N b r N.dies) rfl (by omega)) [4] λ_=>?_;refine J.q λ_=>?_;refine J.ca hX (by kernel_rfl) (a8X a3 (mk0 N b r N.dies).length c3 (a0g (mk0 N b r N.dies)) (a0Z _) (by omega)) [4] 0 rfl rfl rfl rfl rfl rfl (λ_=>rfl) ?_;rintro v As ⟨l',hl',rfl,rfl⟩;refine⟨_,rfl,trivial,?_⟩;have he:l'=M.masks N b r:=by rw[hl',hall];rfl
  subst he;refine J.qr [1,4] λ_=>?_;exact⟨a3,c3,rfl,rfl⟩
theorem gD {l:List Int} {i:Nat} (h:i<l.length):l[i]? =some (l.getD i 0):=by rw[d7,c9 h,j3]
theorem a4T (l:List Int) {j:Nat} (h1:1<=j) (h:j<l.length) (i:Nat):(a7v l j).getD i 0=if i=j-1 then l.getD j 0 else if i=j then l.getD (j-1) 0 else l.getD i 0:=by
 unfold a7v;rw[d7,z8,A7]
 by_cases e:j-1=i
 ·rw[d8 e,d8 (by omega),d8 e.symm,j3]
 ·rw[d6 e,d6 (by omega),z8]
  by_cases e2:j=i
  ·rw[d8 e2,d8 (by omega),d8 e2.symm,j3]
  ·rw[d6 e2,d6 (by omega),<- d7]
theorem b7d {l:List Int} {x:Int}:x∈l↔∃i,i<l.length/\l.getD i 0=x:=by
 constructor
 ·intro h;obtain⟨i,hi,e⟩:=List.getElem_of_mem h;exact⟨i,hi,by rw[d7,c9 hi,j3];exact e⟩
 ·rintro⟨i,hi,e⟩;exact j8 (by rw[gD hi,e])
theorem b8Q (l:List Int) {j:Nat} (h1:1<=j) (h:j<l.length) (x:Int):x∈a7v l j↔x∈l:=by
 rw[b7d,b7d,a2w];constructor
 ·rintro⟨i,hi,e⟩;rw[a4T l h1 h]at e;split at e
  ·exact⟨j,h,e⟩
  ·split at e
   ·exact⟨j-1,by omega,e⟩
   ·exact⟨i,hi,e⟩
 ·rintro⟨i,hi,e⟩
  by_cases e1:i=j
  ·exact⟨j-1,by omega,by rw[a4T l h1 h,d8 rfl,<- e1,e]⟩
  ·by_cases e2:i=j-1
   ·exact⟨j,h,by rw[a4T l h1 h,d6 (by omega),d8 rfl,<- e2,e]⟩
   ·exact⟨i,hi,by rw[a4T l h1 h,d6 e2,d6 e1,e]⟩
theorem b1n:∀(j:Nat) (l:List Int) (x:Int),j<l.length->(x∈a3C j l↔x∈l)
 | 0,_,_,_=>Iff.rfl
 | j+1,l,x,h=>by
  unfold a3C;split
  ·rw[b1n j _ x (by rw[a2w];omega),b8Q l (by omega) h]
  ·exact Iff.rfl
theorem a9f:∀(j n:Nat) (l:List Int),j<=n->n<l.length->(∀a b,a<b->b<=n->a≠j->b≠j->l.getD a 0<=l.getD b 0)->(∀b,j<b->b<=n->l.getD j 0<=l.getD b 0)->∀a b,a<b->b<=n->(a3C j l).getD a 0<=(a3C j l).getD b 0
 | 0,n,l,_,_,hs,hu=>λa b hab hb=>by
  unfold a3C
  by_cases e:a=0
  ·subst e;exact hu b hab hb
  ·exact hs a b hab hb e (by omega)
 | j+1,n,l,hj,hn,hs,hu=>by
  unfold a3C;split
  ·rename_i hlt;have g:=a4T l (j:=j+1) (by omega) (by omega);simp only[P6]at g;refine a9f j n (a7v l (j+1)) (by omega) (by rw[a2w];exact hn) (λa b hab hb ha hbj=>?_) (λb hjb hb=>?_)
   ·rw[g,g,d6 ha,d6 hbj]
    by_cases e1:a=j+1
    ·rw[d8 e1,d6 (by omega)];exact hs j b (by omega) hb (by omega) (by omega)
    ·rw[d6 e1]
     by_cases e2:b=j+1
     ·rw[d8 e2];exact hs a j (by omega) (by omega) e1 (by omega)
     ·rw[d6 e2];exact hs a b hab hb e1 e2
   ·rw[g,g,d8 rfl,d6 (by omega)]
    by_cases e2:b=j+1
    ·rw[d8 e2];omega
    ·rw[d6 e2];exact hu b (by omega) hb
  ·rename_i hge;intro a b hab hb
   by_cases e1:a=j+1
   ·subst e1;exact hu b hab hb
   ·by_cases e2:b=j+1
    ·subst e2
     by_cases e3:a=j
     ·subst e3;omega
     ·have:=hs a j (by omega) (by omega) e1 (by omega);omega
    ·exact hs a b hab hb e1 e2
theorem a9F (l:List Int) (x:Int):∀k,k<l.length->(x∈a0h l k↔x∈l)
 | 0,_=>Iff.rfl
 | k+1,h=>by
  unfold a0h;rw[b1n _ _ x (by rw[a1P];exact h)];exact a9F l x k (by omega)
theorem a8h (l:List Int):∀k,k<l.length->∀a b,a<b->b<=k->(a0h l k).getD a 0<=(a0h l k).getD b 0
 | 0,_=>λa b hab hb=>by omega
 | k+1,h=>by
  unfold a0h;have ih:=a8h l k (by omega);exact a9f (k+1) (k+1) (a0h l k) (i7 _) (by rw[a1P];exact h) (λa b hab hb ha hbk=>ih a b hab (by omega)) (λb hb1 hb2=>by omega)
theorem b2X (l:List Int) (x:Int):x∈a0g l↔x∈l:=by
 unfold a0g;cases l with
 | nil=>exact Iff.rfl
 | cons y l=>exact a9F (y::l) x _ (by simp)
theorem b1V (l:List Int):(a0g l).Pairwise (· <= ·):=by
 rw[List.pairwise_iff_getElem];intro i j hi hj hij;have hl:(a0g l).length=l.length:=a0Z l;have h:=a8h l (l.length-1) (by omega) i j hij (by omega);have h1:(a0g l).getD i 0<=(a0g l).getD j 0:=h
 rwa [d7,d7,c9 hi,c9 hj]at h1
theorem a4F:∀(l:List Int) (p:Int),(p::l).Pairwise (· <= ·)->(p::L4 p l).Pairwise (· < ·)/\∀y,y∈p::L4 p l↔y∈p::l
 | [],p,_=>⟨by simp[L4],λy=>by simp[L4]⟩
 | x::l,p,h=>by
  have hpx:=List.pairwise_cons.1 h;have hx:=List.pairwise_cons.1 hpx.2;unfold L4
  by_cases e:x=p
  ·rw[d8 e,e];obtain⟨s1,s2⟩:=a4F l p (List.pairwise_cons.2 ⟨λy hy=>hpx.1 y (by simp[hy]),hx.2⟩);refine⟨s1,λy=>?_⟩;rw[s2 y];simp
  ·rw[d6 e];obtain⟨s1,s2⟩:=a4F l x hpx.2;have hlt:p<x:=by have:=hpx.1 x (by simp);omega
   refine⟨List.pairwise_cons.2 ⟨λy hy=>?_,s1⟩,λy=>?_⟩
   ·have hy2:=(s2 y).1 hy;rcases List.mem_cons.1 hy2 with e2 | e2
    ·omega
    ·have:=hx.1 y e2;omega
   ·have:=s2 y;simp only[H7]at this ⊢;constructor
    ·rintro(h1 | h1)
     ·exact .inl h1
     ·exact .inr (this.1 h1)
    ·rintro(h1 | h1)
     ·exact .inl h1
     ·exact .inr (this.2 h1)
theorem a8s (l:List Int) (h:l.Pairwise (· <= ·)):(J9 l).Pairwise (· < ·)/\∀y,y∈J9 l↔y∈l:=by
 cases l with
 | nil=>exact⟨List.Pairwise.nil,λy=>Iff.rfl⟩
 | cons p l=>exact a4F l p h
end
section
structure AtV where
 block:Int
 row:Int
 slot:Int
 mask:Int
 seq:Int
 role:Int
 deriving DecidableEq
def AtV.zero:AtV:=⟨0,0,0,0,0,0⟩
structure Tb where
 logical:Int
 at_:List (Int×AtV)
 cnt:List (Int×Int)
 next:Int
namespace Tb
def look {α:Type}:List (Int×α)->Int->Option α
 | [],_=>none
 | x::l,k=>if k=x.1 then some x.2 else look l k
def put1 {α:Type}:List (Int×α)->Int->α->List (Int×α)
 | [],k,v=>[(k,v)]
 | x::l,k,v=>if k=x.1 then(k,v)::l else x::put1 l k v
def new (n:Int):Tb:=⟨min (max n 0) 65536,[],[],1⟩
def count (t:Tb) (b:Int):Int:=(look t.cnt b).getD 0
def ok (t:Tb) (e:En):Bool:=!(decide (e.lpn<0)||decide (e.lpn>=t.logical)||(e.role !=1&&e.role !=2&&e.role !=4))
def elder (t:Tb) (e:En):Bool:=match look t.at_ e.lpn with
 | some a=>decide (e.seq<a.seq)
 | none=>false
def cnt1 (t:Tb) (e:En):List (Int×Int):=match look t.at_ e.lpn with
 | some a=>put1 t.cnt a.block (t.count a.block-1)
 | none=>t.cnt
def cnt2 (t:Tb) (e:En) (b:Int):List (Int×Int):=put1 (cnt1 t e) b ((look (cnt1 t e) b).getD 0+1)
def putB (t:Tb) (e:En):Bool:=ok t e&& !elder t e
def put (t:Tb) (e:En) (b r s m:Int):Tb:=if putB t e then⟨t.logical,put1 t.at_ e.lpn ⟨b,r,s,m,e.seq,e.role⟩,cnt2 t e b,if e.seq>=t.next then e.seq+1 else t.next⟩else t
def inB (t:Tb) (b:Int) (i:Int):Bool:=match look t.at_ i with
 | some a=>a.block==b
 | none=>false
def inK (t:Tb) (b:Int) (k:Nat):List Int:=((List.range k).filter λi:Nat=>inB t b i).map λi:Nat=>(i:Int)
theorem inK_succ (t:Tb) (b:Int) (k:Nat):inK t b (k+1)=if inB t b k then inK t b k++[(k:Int)]else inK t b k:=by
 unfold inK;rw[s9,R7,t7];cases h:inB t b k<;>simp[h]
theorem inK_len (t:Tb) (b:Int) (k:Nat):(inK t b k).length<=k:=by
 unfold inK;rw[l7];exact I7 (H8 _ _) (by rw[M5];exact i7 _)
def ins (t:Tb) (b:Int):List Int:=if t.count b=0 then[]else inK t b t.logical.toNat
theorem look_put1 {α:Type} (k:Int) (v:α) (j:Int):∀l:List (Int×α),look (put1 l k v) j=if j=k then some v else look l j
 | []=>by simp only[put1,look]
 | x::l=>by
  simp only[put1]
  by_cases h:k=x.1
  ·rw[d8 h];simp only[look]
   by_cases h2:j=k
   ·rw[d8 h2,d8 h2]
   ·rw[d6 h2,d6 h2,d6 (λe=>h2 (e.trans h.symm))]
  ·rw[d6 h];simp only[look]
   by_cases h2:j=x.1
   ·rw[d8 h2,d8 h2,d6 (λe=>h (e.symm.trans h2))]
   ·rw[d6 h2,d6 h2,look_put1 k v j l]
end Tb
namespace V
def behind (a b:Fnd):Bool:=if a.en.seq≠b.en.seq then decide (a.en.seq<b.en.seq)else b.whole&& !a.whole
def topsStep (out:List Fnd) (f:Fnd):List Fnd:=match out with
 | []=>[f]
 | h::t=>if behind h f then[f]else if behind f h then h::t else h::t++[f]
def tops (l:List Fnd):List Fnd:=l.foldl topsStep []
def all (N:Nand):List Fnd:=(List.range N.blocks).flatMap λb=>(List.range N.pages).flatMap λr=>R.all N (b:Nat) (r:Nat)
def of (l:List Fnd) (k:Int):List Fnd:=l.filter λf=>f.en.lpn==k
def holds (l:List Fnd):List Int:=(tops (l.filter λf=>f.whole)).map (·.block)
def blankRow (N:Nand) (b r:Int):Bool:=(M.rowN N b r N.dies).all λx=>x.2==2||x.2==4
def last (N:Nand) (f:Fnd):Bool:=((List.range N.pages).all λr:Nat=>decide ((r:Int)<=f.row)||blankRow N f.block r)&&(M.look N (G.parity f.mask f.block f.row) f.block f.row).2 !=4
end V
end
section
open Go Go.RowKit
def kI (k:Int):Value:=iI k
theorem a6T:KeyOk Tryz.prog 3 kI where
 now:=⟨_,Tryz.underlying3,λa b=> .inr rfl⟩
 eq:=λa b w=>by kernel_rfl
 check:=λe a w=>by kernel_rfl
 bits:=λa=>by simp[kI,Instr.sameBits]
theorem a5J:Tryz.prog.underlying 205=some (.map 3 133):=by kernel_rfl
theorem a7n:Tryz.prog.underlying 206=some (.map 3 3):=by kernel_rfl
def atL (a:AtV):List Value:=[iI a.block,iI a.row,iI a.slot,iI a.mask,iI a.seq,iI a.role]
def atV (a:AtV):Value:= .agg (atL a).toArray
def atM (l:List (Int×AtV)):List (Int×Value):=l.map λx=>(x.1,atV x.2)
def cnM (l:List (Int×Int)):List (Int×Value):=l.map λx=>(x.1,iI x.2)
def plL (b r s:Int):List Value:=[iI b,iI r,iI s]
def plV (b r s:Int):Value:= .agg (plL b r s).toArray
theorem a6i {α:Type} (f:α->Value) (k:Int):∀l:List (Int×α),Q6 (l.map λx=>(x.1,f x.2)) k=(Tb.look l k).map f
 | []=>rfl
 | x::l=>by
  simp only[n4,Q6,Tb.look];split
  ·rfl
  ·exact a6i f k l
theorem a8A {α:Type} (f:α->Value) (k:Int) (v:α):∀l:List (Int×α),a1u (l.map λx=>(x.1,f x.2)) k (f v)=(Tb.put1 l k v).map λx=>(x.1,f x.2)
 | []=>rfl
 | x::l=>by
  simp only[n4,a1u,Tb.put1];split
  ·rfl
  ·rw[a8A f k v l];rfl
theorem a8D (l:List (Int×AtV)) (k:Int):Q6 (atM l) k=(Tb.look l k).map atV:=a6i atV k l
theorem a5w (l:List (Int×Int)) (k:Int):Q6 (cnM l) k=(Tb.look l k).map (Value.int .i64):=a6i (Value.int .i64) k l
theorem b4h (l:List (Int×AtV)) (k:Int) (v:AtV):a1u (atM l) k (atV v)=atM (Tb.put1 l k v):=a8A atV k v l
theorem b0Z (l:List (Int×Int)) (k v:Int):a1u (cnM l) k (Value.int .i64 v)=cnM (Tb.put1 l k v):=a8A (Value.int .i64) k v l
theorem a5X (o:Option AtV):(o.map atV).getD (atV AtV.zero)=atV (o.getD AtV.zero):=by cases o<;>rfl
theorem a2X (o:Option Int):(o.map (Value.int .i64)).getD (Value.int .i64 0)=Value.int .i64 (o.getD 0):=by cases o<;>rfl
theorem a7P {α β:Type} (o:Option α) (f:α->β):(o.map f).isSome=o.isSome:=by cases o<;>rfl
def TbP (q:Nat) (t:Tb) (x:Nat×Nat):List Atom:=[.pt q 208 [iI t.logical, .map (some x.1), .map (some x.2),iI t.next],U8 x.1 kI (atM t.at_),U8 x.2 kI (cnM t.cnt)]
def TbA (q:Nat) (t:Tb):Atom:=exA λx:Nat×Nat=>TbP q t x
theorem b6h (n:Int):(if(65536:Int)<if(0:Int)>n then 0 else n then 65536 else if(0:Int)>n then 0 else n)=min (max n 0) 65536:=by
 by_cases h:(0:Int)>n
 ·simp only[d8 h];rw[d6 (by omega)];omega
 ·simp only[d6 h];split<;>omega
theorem b2A (n:Int):FP 100 [iI n] [] (λv As=>∃q,v=pp q/\As=[TbA q (Tb.new n)]):=by
 refine FE [0] Tryz.func100 λX F hX=>?_;refine J.q λbs=>?_;rw[b6h];refine J.turn1 [1] rfl (As:=[U8 (bs 0) kI (atM [])]) (λh s=>?_) rfl ?_
 ·refine⟨λ_=>0,λi A hA=>?_⟩;cases i with
  | zero=>simp at hA;subst hA;exact⟨#[],0,res_some.2 ⟨rfl,s.get (i:=0) rfl⟩,rfl,by simp,by simp⟩
  | succ k=>simp at hA
 refine J.turn1 [2] rfl (As:=[U8 (bs (0+1)) kI (cnM [])]) (λh s=>?_) rfl ?_
 ·refine⟨λ_=>0,λi A hA=>?_⟩;cases i with
  | zero=>simp at hA;subst hA;exact⟨#[],0,res_some.2 ⟨rfl,s.get (i:=0) rfl⟩,rfl,by simp,by simp⟩
  | succ k=>simp at hA
 refine J.close (f:=λx:Nat×Nat=>TbP (bs (0+1+1)) (Tb.new n) x) (bs 0,bs (0+1)) [3,1,2] rfl rfl rfl ?_;refine J.qr [3] λ_=>?_;exact⟨bs (0+1+1),rfl,rfl⟩
theorem a5M (q:Nat) (t:Tb) (k:Int):FP 67 [pp q,iI k] [TbA q t]
  (Ps (.tuple #[atV ((Tb.look t.at_ k).getD AtV.zero), .bool (Tb.look t.at_ k).isSome]) [TbA q t]):=by
 refine FE [2,0] Tryz.func67 λX F hX=>?_;refine J.o (α:=(Nat×Nat)) 1 λx=>?_;refine J.qF λ_=>?_;refine J.q λ_=>?_;refine J.v (.tuple #[atV ((Tb.look t.at_ k).getD AtV.zero), .bool (Tb.look t.at_ k).isSome]) rfl rfl (λhg a w he hs=>?_) ?_
 ·refine(I5 (key:=k) a6T a5J (z:=atV AtV.zero) (λw=>by kernel_rfl) rfl rfl rfl rfl he rfl rfl (hs.get (i:=2) rfl)).trans ?_;simp only[a8D,a5X,a7P]
 refine J.cl (λx:Nat×Nat=>TbP q t x) x [1,2,3] ?_;exact J.qx [1]
theorem b6i (q:Nat) (t:Tb):FP 235 [pp q] [TbA q t]
  (Ps (iI t.at_.length) [TbA q t]):=by
 refine FE [2] Tryz.func235 λX F hX=>?_;refine J.o (α:=(Nat×Nat)) 1 λx=>?_;refine J.qF λ_=>?_;refine J.q λ_=>?_;refine J.v (iI t.at_.length) rfl rfl (λhg a w he hs=>?_) ?_
 ·refine(a6w a5J rfl rfl he rfl (hs.get (i:=2) rfl)).trans ?_;rw[atM,l7]
 refine J.cl (λx:Nat×Nat=>TbP q t x) x [1,2,3] ?_;exact J.qx [1]
theorem b8O (q:Nat) (t:Tb):FP 270 [pp q] [TbA q t]
  (Ps (iI t.next) [TbA q t]):=by
 refine FE [2] Tryz.func270 λX F hX=>?_;refine J.o (α:=(Nat×Nat)) 1 λx=>?_;refine J.qF λ_=>?_;refine J.q λ_=>?_;refine J.cl (λx:Nat×Nat=>TbP q t x) x [1,2,3] ?_;exact J.qx [1]
theorem a0k (q:Nat) (t:Tb) (k:Int):FP 120 [pp q,iI k] [TbA q t]
  (Ps (iI (t.count k)) [TbA q t]):=by
 refine FE [2,0] Tryz.func120 λX F hX=>?_;refine J.o (α:=(Nat×Nat)) 1 λx=>?_;refine J.qF λ_=>?_;refine J.q λ_=>?_;refine J.v (iI (t.count k)) rfl rfl (λhg a w he hs=>?_) ?_
 ·refine(I5 (key:=k) a6T a7n (z:=iI 0) (λw=>by kernel_rfl) rfl rfl rfl rfl he rfl rfl (hs.get (i:=3) rfl)).trans ?_;simp only[a5w,a2X];rfl
 refine J.cl (λx:Nat×Nat=>TbP q t x) x [1,2,3] ?_;exact J.qx [1]
theorem a7u (q:Nat) (t:Tb) (e:En) (b r s m:Int) (hs: -9223372036854775808<=e.seq/\e.seq<9223372036854775807) (hc:∀k,0<=Tb.count t k/\Tb.count t k<=1000000):FP 103 [pp q,enV e,plV b r s,iI m] [TbA q t]
  (Ps (.bool (Tb.putB t e)) [TbA q (Tb.put t e b r s m)]):=by
 refine FE [2,0,0,0] Tryz.func103 λX F hX=>?_;refine J.o (α:=(Nat×Nat)) 1 λx=>?_;refine J.pn 1 (.of [0,4,8,12,17,20,24,28,32,37,40,44,48,53,56,60,64,68,73,76,80,84,89,92,96,100,104,109,112,116,120]) [] [1,2,3,4,5] λ_ _=>?_;refine J.run hX tk 400 (λb16=>rfl) (λb16=>?_) (λb16=>?_)
 ·(repeat' (first | exact Conj.nil | refine Conj.cons ?_ ?_ | exact rfl | exact hq | (rw[hq];rfl) | (rw[(i4 _).mp hq]) | intro hq | omega | (simp;done) | (simp_all;done)))
 refine J.qd (λ_ h1=>?_) λ_ h1=>?_
 ·refine J.cl (λx:Nat×Nat=>TbP q t x) x [1,2,3] ?_;refine J.qr [1] λ_=>?_;have ho:Tb.ok t e=false:=by unfold Tb.ok;rw[A9];exact h1
  have hp:Tb.putB t e=false:=by unfold Tb.putB;rw[ho];rfl
  exact⟨by rw[hp],by rw[Tb.put,d6 (by rw[hp];simp)];rfl⟩
 have ho:Tb.ok t e=true:=by unfold Tb.ok;rw[i4];exact h1
 refine J.pq (.of [0,4,8,13,16,21,25,28,32,36,42,46,48]) [12] [1,2,3,4,5] λ_ _=>?_;refine J.vT (.tuple #[atV ((Tb.look t.at_ e.lpn).getD AtV.zero), .bool (Tb.look t.at_ e.lpn).isSome]) rfl rfl (λ_ a w he hC=>?_) ?_
 ·refine(I5 (key:=e.lpn) a6T a5J (z:=atV AtV.zero) (λw=>by kernel_rfl) rfl rfl rfl rfl he rfl rfl (hC rfl _ (B6 (i:=2) rfl))).trans ?_;simp only[a8D,a5X,a7P]
 rcases hlk:Tb.look t.at_ e.lpn with _ | a
 ·have hel:Tb.elder t e=false:=by simp[Tb.elder,hlk]
  have hp:Tb.putB t e=true:=by rw[Tb.putB,ho,hel];rfl
  have hc1:Tb.cnt1 t e=t.cnt:=by simp[Tb.cnt1,hlk]
  refine J.q λbw=>?_;refine J.cF ?_;refine J.qF λ_=>?_;refine J.pq (.of [0,4,8,13,16,21,25,28,35]) [8] [1,2,3,4,5,6] λ_ _=>?_;refine J.vT (iI ((Tb.look (t.cnt) b).getD 0)) rfl rfl (λ_ a w he hC=>?_) ?_
  ·refine(I5 (key:=b) a6T a7n (z:=iI 0) (λw=>by kernel_rfl) rfl rfl rfl rfl he rfl rfl (hC rfl _ (B6 (i:=3) rfl))).trans ?_;simp only[a5w,a2X]
  have hb2: -1<=(Tb.look (t.cnt) b).getD 0/\(Tb.look (t.cnt) b).getD 0<=1000000:=⟨by have:=hc b;unfold Tb.count at this;omega,(hc b).2⟩;refine J.q λ_=>?_;refine J.mapUpdate hX a6T a7n b 3 rfl rfl rfl rfl rfl rfl rfl rfl rfl rfl rfl rfl (λ_=>rfl) (by rw[b0Z];rfl) ⟨trivial,?_⟩;refine J.pq (.of [0,4,8,13,16,21,25,28,32,37,40,45,48,55]) [13] [1,2,3,4,5,6] λ_ _=>?_;refine J.mapUpdate hX a6T a5J e.lpn 2 rfl rfl rfl rfl rfl rfl rfl rfl rfl rfl rfl rfl (λ_=>rfl) (show _=some (_::_::U8 _ _ (a1u _ _ (atV ⟨b,r,s,m,e.seq,e.role⟩))::_)from rfl) ⟨trivial,?_⟩;rw[b4h];refine J.pq (.of [0,5,8,12,16,21,24]) [] [1,2,3,4,5,6] λ_ _=>?_;have hput:Tb.put t e b r s m=⟨t.logical,Tb.put1 t.at_ e.lpn ⟨b,r,s,m,e.seq,e.role⟩,Tb.put1 (t.cnt) b ((Tb.look (t.cnt) b).getD 0+1),if e.seq>=t.next then e.seq+1 else t.next⟩:=by
   rw[Tb.put,d8 hp,Tb.cnt2,hc1]
  refine J.qd (λ_ h5=>?_) λ_ h5=>?_
  ·refine J.q λ_=>?_;refine J.cl (λx:Nat×Nat=>TbP q ⟨t.logical,Tb.put1 t.at_ e.lpn ⟨b,r,s,m,e.seq,e.role⟩,Tb.put1 (t.cnt) b ((Tb.look (t.cnt) b).getD 0+1),e.seq+1⟩ x) x [1,2,3] ?_;refine J.qr [1] λ_=>?_;exact⟨by rw[hp],by rw[hput,d8 (by simpa only[d5,c8]using h5)];rfl⟩
  ·refine J.cl (λx:Nat×Nat=>TbP q ⟨t.logical,Tb.put1 t.at_ e.lpn ⟨b,r,s,m,e.seq,e.role⟩,Tb.put1 (t.cnt) b ((Tb.look (t.cnt) b).getD 0+1),t.next⟩ x) x [1,2,3] ?_;refine J.qr [1] λ_=>?_;exact⟨by rw[hp],by rw[hput,d6 (by simpa only[d5,c8]using h5)];rfl⟩
 ·refine J.q λbw=>?_;refine J.cond rfl (λh2=>?_) (λh2=>?_)
  ·refine J.cl (λx:Nat×Nat=>TbP q t x) x [1,2,3] ?_;refine J.qr [1] λ_=>?_;have hel:Tb.elder t e=true:=by rw[Tb.elder,hlk];exact h2
   have hp:Tb.putB t e=false:=by rw[Tb.putB,ho,hel];rfl
   exact⟨by rw[hp],by rw[Tb.put,d6 (by rw[hp];simp)];rfl⟩
  have hel:Tb.elder t e=false:=by rw[Tb.elder,hlk];exact h2
  have hp:Tb.putB t e=true:=by rw[Tb.putB,ho,hel];rfl
  have hc1:Tb.cnt1 t e=Tb.put1 t.cnt a.block (t.count a.block-1):=by simp[Tb.cnt1,hlk]
  have hb1:=hc a.block;refine J.qT λ_=>?_;refine J.pq (.of [0,4,8,13,16,20,25,29,32,39]) [9] [1,2,3,4,5,6] λ_ _=>?_;refine J.vT (iI (t.count a.block)) rfl rfl (λ_ a' w he hC=>?_) ?_
  ·refine(I5 (key:=a.block) a6T a7n (z:=iI 0) (λw=>by kernel_rfl) rfl rfl rfl rfl he rfl rfl (hC rfl _ (B6 (i:=3) rfl))).trans ?_;simp only[a5w,a2X];rfl
  refine J.q λ_=>?_;refine J.mapUpdate hX a6T a7n a.block 3 rfl rfl rfl rfl rfl rfl rfl rfl rfl rfl rfl rfl (λ_=>rfl) (by rw[b0Z];rfl) ⟨trivial,?_⟩;refine J.pq (.of [0,4,8,13,16,21,25,28,35]) [8] [1,2,3,4,5,6] λ_ _=>?_;refine J.vT (iI ((Tb.look (Tb.put1 t.cnt a.block (t.count a.block-1)) b).getD 0)) rfl rfl (λ_ a w he hC=>?_) ?_
  ·refine(I5 (key:=b) a6T a7n (z:=iI 0) (λw=>by kernel_rfl) rfl rfl rfl rfl he rfl rfl (hC rfl _ (B6 (i:=3) rfl))).trans ?_;simp only[a5w,a2X]
  have hb2 : -1 ≤ (Tb.look (Tb.put1 t.cnt a.block (t.count a.block - 1)) b).getD 0 ∧ (Tb.look (Tb.put1 t.cnt a.block (t.count a.block - 1)) b).getD 0 ≤ 1000000 := by
     rw[Tb.look_put1];split
     ·show-1<=t.count a.block-1/\t.count a.block-1<=1000000;omega
     ·have:=hc b;unfold Tb.count at this;omega
  refine J.q λ_=>?_;refine J.mapUpdate hX a6T a7n b 3 rfl rfl rfl rfl rfl rfl rfl rfl rfl rfl rfl rfl (λ_=>rfl) (by rw[b0Z];rfl) ⟨trivial,?_⟩;refine J.pq (.of [0,4,8,13,16,21,25,28,32,37,40,45,48,55]) [13] [1,2,3,4,5,6] λ_ _=>?_;refine J.mapUpdate hX a6T a5J e.lpn 2 rfl rfl rfl rfl rfl rfl rfl rfl rfl rfl rfl rfl (λ_=>rfl) (show _=some (_::_::U8 _ _ (a1u _ _ (atV ⟨b,r,s,m,e.seq,e.role⟩))::_)from rfl) ⟨trivial,?_⟩;rw[b4h];refine J.pq (.of [0,5,8,12,16,21,24]) [] [1,2,3,4,5,6] λ_ _=>?_;have hput:Tb.put t e b r s m=⟨t.logical,Tb.put1 t.at_ e.lpn ⟨b,r,s,m,e.seq,e.role⟩,Tb.put1 (Tb.put1 t.cnt a.block (t.count a.block-1)) b ((Tb.look (Tb.put1 t.cnt a.block (t.count a.block-1)) b).getD 0+1),if e.seq>=t.next then e.seq+1 else t.next⟩:=by
   rw[Tb.put,d8 hp,Tb.cnt2,hc1]
  refine J.qd (λ_ h5=>?_) λ_ h5=>?_
  ·refine J.q λ_=>?_;refine J.cl (λx:Nat×Nat=>TbP q ⟨t.logical,Tb.put1 t.at_ e.lpn ⟨b,r,s,m,e.seq,e.role⟩,Tb.put1 (Tb.put1 t.cnt a.block (t.count a.block-1)) b ((Tb.look (Tb.put1 t.cnt a.block (t.count a.block-1)) b).getD 0+1),e.seq+1⟩ x) x [1,2,3] ?_;refine J.qr [1] λ_=>?_;exact⟨by rw[hp],by rw[hput,d8 (by simpa only[d5,c8]using h5)];rfl⟩
  ·refine J.cl (λx:Nat×Nat=>TbP q ⟨t.logical,Tb.put1 t.at_ e.lpn ⟨b,r,s,m,e.seq,e.role⟩,Tb.put1 (Tb.put1 t.cnt a.block (t.count a.block-1)) b ((Tb.look (Tb.put1 t.cnt a.block (t.count a.block-1)) b).getD 0+1),t.next⟩ x) x [1,2,3] ?_;refine J.qr [1] λ_=>?_;exact⟨by rw[hp],by rw[hput,d6 (by simpa only[d5,c8]using h5)];rfl⟩
theorem b6j (q:Nat) (t:Tb) (n:Nat) (hlog:t.logical=(n:Int)) (hn:n<=65536) (b:Int):FP 157 [pp q,iI b] [TbA q t]
  (λv As=>∃a c,v=slv a (t.ins b).length c/\As=[TbA q t,m9 3 1 a (t.ins b).length c (A5 (t.ins b))]):=by
 refine FE [2,0] Tryz.func157 λX F hX=>?_;refine J.qp (a0k q t b) [1] λ_=>?_;refine J.turn1 [] rfl (As:=[m9 3 1 none 0 0 (A5 [])]) (λh s=>Sep.one ⟨rfl,rfl,rfl⟩) rfl ?_;refine J.qd (λ_ h1=>?_) λ_ h1=>?_
 ·simp only[A4]at h1;refine J.qr [1,2] λ_=>?_;have:t.ins b=[]:=by unfold Tb.ins;rw[d8 h1]
  rw[this];exact⟨none,0,rfl,rfl⟩
 simp only[l8,H5]at h1;have hins:t.ins b=t.inK b n:=by unfold Tb.ins;rw[d6 h1,hlog];rfl
 refine J.o (α:=(Nat×Nat)) 1 λx=>?_;refine J.q λ_=>?_;refine J.l (α:=(Nat×Option Nat×Nat)) (λz=>z.1<=n) (λz=>[si 17 z.1,si 16 t.logical,sv 5 (slv z.2.1 (t.inK b z.1).length z.2.2),⟨0,pp q,2, .tt⟩,si 1 b]) [2] (λz=>[m9 3 1 z.2.1 (t.inK b z.1).length z.2.2 (A5 (t.inK b z.1))]) (λz=>n-z.1) ((0,none,0)) (j7 _) λz hI=>?_;obtain⟨k,a1,c1⟩:=z;dsimp only at hI ⊢;refine J.qd (λ_ h2=>?_) λ_ h2=>?_
 ·simp only[d5]at h2;have hkl:=t.inK_len b k;refine J.q λ_=>?_;refine J.v (.tuple #[atV ((Tb.look t.at_ k).getD AtV.zero), .bool (Tb.look t.at_ k).isSome]) rfl rfl (λhg a w he hs=>?_) ?_
  ·refine(I5 (key:=(k:Int)) a6T a5J (z:=atV AtV.zero) (λw=>by kernel_rfl) rfl rfl rfl rfl he rfl rfl (hs.get (i:=3) rfl)).trans ?_;simp only[a8D,a5X,a7P]
  have hin:((Tb.look t.at_ k).isSome&&(((Tb.look t.at_ k).getD AtV.zero).block==b))=t.inB b k:=by
   unfold Tb.inB;cases Tb.look t.at_ k<;>rfl
  refine J.qd (λ_ h3=>?_) λ_ h3=>?_
  ·have hs:t.inK b (k+1)=t.inK b k++[(k:Int)]:=by rw[Tb.inK_succ,d8 (hin.symm.trans h3)]
   refine J.q λ_=>?_;refine J.append hX tk 2 6 0 rfl rfl rfl rfl rfl rfl rfl rfl rfl rfl rfl rfl rfl rfl rfl rfl ?_ ?_ (λ_=>rfl) λa3 c3=>⟨_,(congrArg (λz=>U3 _ 2 (m9 _ _ _ _ _ z)) (a1p _ (k:Int)).symm).trans rfl,trivial,?_⟩
   ·simp only[maxLen];omega
   ·omega
   rw[<- hs,show(t.inK b k).length+1=(t.inK b (k+1)).length from by rw[hs];simp];refine J.q λ_=>?_;refine J.n ((k+1,a3,c3)) (by dsimp only;omega) (by dsimp only;omega) [0,1,2,3,4]
  ·have hs:t.inK b (k+1)=t.inK b k:=by rw[Tb.inK_succ,d6 (by rw[<- hin,h3];simp)]
   rw[<- hs];refine J.q λ_=>?_;refine J.n ((k+1,a1,c1)) (by dsimp only;omega) (by dsimp only;omega) [0,1,2,3,4]
 ·simp only[c8]at h2;obtain rfl:k=n:=by omega
  refine J.q λ_=>?_;refine J.cl (λx:Nat×Nat=>TbP q t x) x [1,3,4] ?_;refine J.qr [1,2] λ_=>?_;rw[hins];exact⟨a1,c1,rfl,rfl⟩
structure Sb where
 wear:Int
 bad:Int
 used:Bool
 held:Bool
def Sb.zero:Sb:=⟨0,0,false,false⟩
def sbL (s:Sb):List Value:=[iI s.wear,iI s.bad, .bool s.used, .bool s.held]
structure Tl where
 d:Nat
 b:Nat
 p:Nat
 l:List Sb
 dead:Int
namespace Tl
def new (d b p:Nat):Tl:=⟨d,b,p,List.replicate b Sb.zero,0⟩
def has (t:Tl) (k:Int):Bool:=decide (0<=k)&&decide (k<t.b)
def at_ (t:Tl) (k:Int):Sb:=t.l.getD k.toNat Sb.zero
def adr (t:Tl) (g:Nat) (k:Int):Option Addr:=if t.has k=true then some ⟨g,k.toNat*4,none⟩else none
def set (t:Tl) (k:Int) (s:Sb):Tl:=if t.has k=true then⟨t.d,t.b,t.p,t.l.set k.toNat s,t.dead⟩else t
def wear (t:Tl) (k:Int):Int:=if t.has k=true then(t.at_ k).wear else 0
def hasDie (t:Tl) (d:Int):Bool:=decide (0<=d)&&decide (d<t.d)
end Tl
def TlP (q:Nat) (t:Tl) (g:Nat):List Atom:=[.pt q 191 [iI t.d,iI t.b,iI t.p, .slice (some ⟨g,0,none⟩) t.b t.b,iI t.dead], .pt g 199 (t.l.flatMap sbL)]
def TlA (q:Nat) (t:Tl):Atom:=exA λg:Nat=>TlP q t g
theorem a2I {α:Type} (f:α->List Value) (w:Nat) (hw:∀x,(f x).length=w):∀{l:List α} {k:Nat} {x:α},l[k]? =some x->∀j,j<w->(l.flatMap f)[k*w+j]? =(f x)[j]?
 | [],k,x,h,j,hj=>by simp at h
 | y::l,0,x,h,j,hj=>by
  simp only[M2,l6]at h;subst h;rw[P8,J6,u0,D8 (by rw[hw];exact hj)]
 | y::l,k+1,x,h,j,hj=>by
  rw[u0,B2 (by rw[hw,K6];omega),hw,show(k+1)*w+j-w=k*w+j by rw[K6];omega];exact a2I f w hw (by simpa using h) j hj
theorem Q3 {α:Type} (f:α->List Value) (w:Nat) (hw:∀x,(f x).length=w) (j:Nat) (v:Value):∀{l:List α} {k:Nat} {x y:α},l[k]? =some x->j<w->(f x).set j v=f y->(l.flatMap f).set (k*w+j) v=(l.set k y).flatMap f
 | [],k,x,y,h,hj,e=>by simp at h
 | z::l,0,x,y,h,hj,e=>by
  simp only[M2,l6]at h;subst h;rw[P8,J6,u0,P7 _ _ (by rw[hw];exact hj),e];rfl
 | z::l,k+1,x,y,h,hj,e=>by
  rw[u0,R0 _ _ (by rw[hw,K6];omega),hw,show(k+1)*w+j-w=k*w+j by rw[K6];omega,Q3 f w hw j v (by simpa using h) hj e];rfl
theorem b0o (s:Sb):(sbL s).length=4:=rfl
namespace Tl
theorem get_at {t:Tl} (hl:t.l.length=t.b) {k:Int} (h:t.has k=true):t.l[k.toNat]? =some (t.at_ k):=by
 simp only[has,f7,d5]at h;rw[at_,d7,c9 (by omega),j3]
theorem cell_at {t:Tl} (hl:t.l.length=t.b) {k:Int} (h:t.has k=true) (j:Nat) (hj:j<4):(t.l.flatMap sbL)[k.toNat*4+j]? =(sbL (t.at_ k))[j]?:=a2I sbL 4 b0o (get_at hl h) j hj
theorem set_at {t:Tl} (hl:t.l.length=t.b) {k:Int} (h:t.has k=true) (j:Nat) (hj:j<4) (v:Value) (s:Sb) (e:(sbL (t.at_ k)).set j v=sbL s):(t.l.flatMap sbL).set (k.toNat*4+j) v=((t.set k s).l.flatMap sbL):=by
 rw[set,d8 h];exact Q3 sbL 4 b0o j v (get_at hl h) hj e
end Tl
namespace Tl
theorem len_l (t:Tl):(t.l.flatMap sbL).length=t.l.length*4:=by
 induction t.l with
 | nil=>rfl
 | cons x l ih=>rw[u0,f8,ih,b0o,l5];omega
theorem set_d (t:Tl) (k:Int) (s:Sb):(t.set k s).d=t.d:=by unfold set;split<;>rfl
theorem set_b (t:Tl) (k:Int) (s:Sb):(t.set k s).b=t.b:=by unfold set;split<;>rfl
theorem set_p (t:Tl) (k:Int) (s:Sb):(t.set k s).p=t.p:=by unfold set;split<;>rfl
theorem set_dead (t:Tl) (k:Int) (s:Sb):(t.set k s).dead=t.dead:=by unfold set;split<;>rfl
def wore (t:Tl) (k n:Int):Tl:=t.set k {t.at_ k with wear:=if n>(t.at_ k).wear then n else(t.at_ k).wear}
def bad (t:Tl) (d k:Int):Tl:=if t.hasDie d=true then t.set k {t.at_ k with bad:=L.with_ (t.at_ k).bad d}else t
def andN (a b:Int):Int:=IntKind.i64.wrap ((BitVec.ofInt IntKind.i64.bits a&&& ~~~BitVec.ofInt IntKind.i64.bits b).toNat:Int)
def alive (t:Tl):Int:=andN (L.all t.d) t.dead
def mask (t:Tl) (k:Int):Int:=if t.has k=true then andN t.alive (t.at_ k).bad else 0
def usable (t:Tl) (k:Int):Bool:=decide (G.slots (t.mask k)>0)
def blank (t:Tl) (k:Int):Bool:=t.has k&& !(t.at_ k).used
def held (t:Tl) (k:Int):Bool:=t.has k&&(t.at_ k).held
end Tl
theorem b2y (d b p:Nat) (hg:O8 d b p=true):FP 108 [.agg #[iI d,iI b,iI p]] [] (λv As=>∃q,v=pp q/\As=[TlA q (Tl.new d b p)]):=by
 have hbd:(3<=d/\d<=6)/\(8<=b/\b<=16)/\(2<=p/\p<=8):=by simp[O8]at hg;omega
 refine FE [0] Tryz.func108 λX F hX=>?_;refine J.qp (a6F d b p) [] λ_=>?_;rw[hg];refine J.qF λ_=>?_;refine J.pq (.of [1,4,9,14,16,23,24]) [4,5,6] [1] λ_ _=>?_;refine J.mk 3 λdd=>?_;refine J.q λnn=>?_;rw[show(List.replicate b [Value.int .i64 0,Value.int .i64 0,Value.bool false,Value.bool false]).flatten=(Tl.new d b p).l.flatMap sbL from by rw[Tl.new,List.flatMap_def,a2o];rfl];refine J.cl (λg:Nat=>TlP (nn 0) (Tl.new d b p) g) dd [3,2] ?_;refine J.qr [3] λ_=>?_;exact⟨nn 0,rfl,rfl⟩
theorem b8N:FP 108 [.agg #[iI 0,iI 0,iI 0]] [] (Ps (.pointer none) []):=by
 refine FE [0] Tryz.func108 λX F hX=>?_;refine J.qp (a6F 0 0 0) [] λ_=>?_;rw[show O8 0 0 0=false from by decide];refine J.qT λ_=>?_;exact J.qx []
theorem a6m (q:Nat) (t:Tl) (hb:t.b<=1000) (g:Nat) (k:Int):FP 115 [pp q,iI k] (TlP q t g) (Ps (.pointer (t.adr g k)) (TlP q t g)):=by
 refine FE [2,0] Tryz.func115 λX F hX=>?_;refine J.run hX tk 400 (λb9=>rfl) (λb9=>?_) (λb9=>?_)
 ·(repeat' (first | exact Conj.nil | refine Conj.cons ?_ ?_ | exact rfl | exact hq | (rw[hq];rfl) | (rw[(i4 _).mp hq]) | intro hq | omega | (simp;done) | (simp_all;done)))
 refine J.qd (λ_ h1=>?_) λ_ h1=>?_
 ·have hh:t.has k=false:=by simp[Tl.has]at h1 ⊢;omega
  refine J.qr [1,2] λ_=>?_;exact⟨by rw[Tl.adr,hh];rfl,rfl⟩
 ·have hh:t.has k=true:=by simp[Tl.has]at h1 ⊢;omega
  have hh2:=hh;simp only[Tl.has,f7,d5]at hh2;refine J.qr [1,2] λ_=>?_;exact⟨by rw[Tl.adr,hh,d8 rfl];simp,rfl⟩
theorem a4R (q:Nat) (t:Tl) (hb:t.b<=1000) (hl:t.l.length=t.b) (k:Int):FP 186 [pp q,iI k] [TlA q t] (Ps (iI (t.wear k)) [TlA q t]):=by
 refine FE [2,0] Tryz.func186 λX F hX=>?_;refine J.o (α:=Nat) 1 λg=>?_;refine J.qp (a6m q t hb g k) [1,2] λ_=>?_;cases hh:t.has k with
 | false=>
  rw[Tl.adr,hh,d6 (by simp)];refine J.qF λ_=>?_;refine J.q λ_=>?_;refine J.cl (λg:Nat=>TlP q t g) g [1,2] ?_;refine J.qr [1] λ_=>?_;exact⟨by rw[Tl.wear,hh];rfl,rfl⟩
 | true=>
  rw[Tl.adr,hh,d8 rfl];refine J.qT λ_=>?_;refine J.q λ_=>?_;refine J.v (iI (t.at_ k).wear) rfl rfl (λhg a w he hs=>?_) ?_
  ·exact D4 tk rfl rfl he rfl rfl rfl (hs.get (i:=2) rfl) (t.cell_at hl hh 0 (by omega))
  refine J.cl (λg:Nat=>TlP q t g) g [1,2] ?_;refine J.qr [1] λ_=>?_;exact⟨by rw[Tl.wear,hh];rfl,rfl⟩
theorem b0i (q:Nat) (t:Tl) (hb:t.b<=1000) (hl:t.l.length=t.b) (k n:Int):FP 109 [pp q,iI k,iI n] [TlA q t] (Ps (.tuple #[]) [TlA q (t.wore k n)]):=by
 refine FE [2,0,0] Tryz.func109 λX F hX=>?_;refine J.o (α:=Nat) 1 λg=>?_;refine J.qp (a6m q t hb g k) [1,2] λ_=>?_;cases hh:t.has k with
 | false=>
  rw[Tl.adr,hh,d6 (by simp)];refine J.qF λ_=>?_;refine J.q λ_=>?_;refine J.cl (λg:Nat=>TlP q t g) g [1,2] ?_;refine J.q λ_=>?_;refine J.f [1] ?_;exact⟨rfl,by rw[Tl.wore,Tl.set,hh];rfl⟩
 | true=>
  rw[Tl.adr,hh,d8 rfl];refine J.qT λ_=>?_;refine J.q λ_=>?_;refine J.v (iI (t.at_ k).wear) rfl rfl (λhg a w he hs=>?_) ?_
  ·exact D4 tk rfl rfl he rfl rfl rfl (hs.get (i:=2) rfl) (t.cell_at hl hh 0 (by omega))
  refine J.q λ_=>?_;refine J.s1 2 ((t.wore k n).l.flatMap sbL) ?_ ?_ ?_
  ·rw[t.len_l,hl];simp only[Tl.has,f7,d5]at hh;omega
  ·exact t.set_at hl hh 0 (by omega) _ _ rfl
  refine J.close (f:=λg:Nat=>TlP q (t.wore k n) g) g [1,2] rfl (by simp only[TlP,Tl.wore,Tl.set_d,Tl.set_b,Tl.set_p,Tl.set_dead];rfl) rfl ?_;refine J.q λ_=>?_;refine J.f [1] ?_;exact⟨rfl,rfl⟩
theorem b6d (q:Nat) (t:Tl) (g:Nat) (k:Int):FP 130 [pp q,iI k] (TlP q t g) (Ps (.bool (t.hasDie k)) (TlP q t g)):=by
 refine FE [2,0] Tryz.func130 λX F hX=>?_;refine J.run hX tk 400 (λb30=>rfl) (λb30=>?_) (λb30=>?_)
 ·(repeat' (first | exact Conj.nil | refine Conj.cons ?_ ?_ | exact rfl | exact hq | (rw[hq];rfl) | (rw[(i4 _).mp hq]) | intro hq | omega | (simp;done) | (simp_all;done)))
 refine J.qr [1,2] λ_=>?_;exact⟨by simp[Tl.hasDie],rfl⟩
theorem b2z (q:Nat) (t:Tl) (hb:t.b<=1000) (hl:t.l.length=t.b) (d k:Int):FP 180 [pp q,iI d,iI k] [TlA q t] (Ps (.tuple #[]) [TlA q (t.bad d k)]):=by
 refine FE [2,0,0] Tryz.func180 λX F hX=>?_;refine J.o (α:=Nat) 1 λg=>?_;refine J.qp (a6m q t hb g k) [1,2] λ_=>?_;cases hh:t.has k with
 | false=>
  rw[Tl.adr,hh,d6 (by simp)];refine J.q λ_=>?_;refine J.v (.bool false) rfl rfl (λhg a w he hs=>absurd hg (by simp[G.on])) ?_;refine J.qF λ_=>?_;refine J.q λ_=>?_;refine J.cl (λg:Nat=>TlP q t g) g [1,2] ?_;refine J.q λ_=>?_;refine J.f [1] ?_;exact⟨rfl,by rw[Tl.bad,Tl.set,hh];simp;rfl⟩
 | true=>
  rw[Tl.adr,hh,d8 rfl];refine J.qp (b6d q t g d) [1,2] λ_=>?_;refine J.qd (λ_ h2=>?_) λ_ h2=>?_
  ·simp only[Bool.not_false,q9]at h2;refine J.q λ_=>?_;refine J.v (iI (t.at_ k).bad) rfl rfl (λhg a w he hs=>?_) ?_
   ·exact D4 tk rfl rfl he rfl rfl rfl (hs.get (i:=2) rfl) (t.cell_at hl hh 1 (by omega))
   refine J.qp (b0H (t.at_ k).bad d) [] λ_=>?_;refine J.q λ_=>?_;have he:t.bad d k=t.set k {t.at_ k with bad:=L.with_ (t.at_ k).bad d}:=by rw[Tl.bad,h2];rfl
   refine J.s1 2 ((t.bad d k).l.flatMap sbL) ?_ ?_ ?_
   ·rw[t.len_l,hl];simp only[Tl.has,f7,d5]at hh;omega
   ·rw[he];exact t.set_at hl hh 1 (by omega) _ _ rfl
   refine J.close (f:=λg:Nat=>TlP q (t.bad d k) g) g [1,2] rfl (by simp only[he,TlP,Tl.set_d,Tl.set_b,Tl.set_p,Tl.set_dead];rfl) rfl ?_;refine J.q λ_=>?_;refine J.f [1] ?_;exact⟨rfl,rfl⟩
  ·simp only[Bool.not_false,q9]at h2;refine J.cl (λg:Nat=>TlP q t g) g [1,2] ?_;refine J.q λ_=>?_;refine J.f [1] ?_;exact⟨rfl,by rw[Tl.bad,h2];rfl⟩
theorem b4u (q:Nat) (t:Tl) (g:Nat):FP 174 [pp q] (TlP q t g) (Ps (iI t.alive) (TlP q t g)):=by
 refine FE [2] Tryz.func174 λX F hX=>?_;refine J.qF λ_=>?_;refine J.p (.of [0,4,8,12,17,24,28,32,37,22,40,44]) [11] [1,2] λ_=>?_;refine J.qp (b1R t.d) [] λ_=>?_;exact J.qx [1,2]
theorem a7t (q:Nat) (t:Tl) (hb:t.b<=1000) (hl:t.l.length=t.b) (k:Int):FP 177 [pp q,iI k] [TlA q t] (Ps (.bool (t.blank k)) [TlA q t]):=by
 refine FE [2,0] Tryz.func177 λX F hX=>?_;refine J.o (α:=Nat) 1 λg=>?_;refine J.qp (a6m q t hb g k) [1,2] λ_=>?_;cases hh:t.has k with
 | false=>
  rw[Tl.adr,hh,d6 (by simp)];refine J.q λ_=>?_;refine J.v (pp g) rfl rfl (λhg a w he hs=>absurd hg (by simp[G.on])) ?_;refine J.q λ_=>?_;refine J.v (.bool false) rfl rfl (λhg a w he hs=>absurd hg (by simp[G.on])) ?_;refine J.q λ_=>?_;refine J.cl (λg:Nat=>TlP q t g) g [1,2] ?_;refine J.qr [1] λ_=>?_;exact⟨by rw[Tl.blank,hh];rfl,rfl⟩
 | true=>
  rw[Tl.adr,hh,d8 rfl];refine J.q λ_=>?_;refine J.v (.bool (t.at_ k).used) rfl rfl (λhg a w he hs=>?_) ?_
  ·exact D4 tk rfl rfl he rfl rfl rfl (hs.get (i:=2) rfl) (t.cell_at hl hh 2 (by omega))
  refine J.q λ_=>?_;refine J.cl (λg:Nat=>TlP q t g) g [1,2] ?_;refine J.qr [1] λ_=>?_;exact⟨by rw[Tl.blank,hh];rfl,rfl⟩
theorem b3w (q:Nat) (t:Tl) (hb:t.b<=1000) (hl:t.l.length=t.b) (k:Int):FP 178 [pp q,iI k] [TlA q t] (Ps (.bool (t.held k)) [TlA q t]):=by
 refine FE [2,0] Tryz.func178 λX F hX=>?_;refine J.o (α:=Nat) 1 λg=>?_;refine J.qp (a6m q t hb g k) [1,2] λ_=>?_;cases hh:t.has k with
 | false=>
  rw[Tl.adr,hh,d6 (by simp)];refine J.q λ_=>?_;refine J.v (pp g) rfl rfl (λhg a w he hs=>absurd hg (by simp[G.on])) ?_;refine J.q λ_=>?_;refine J.v (.bool false) rfl rfl (λhg a w he hs=>absurd hg (by simp[G.on])) ?_;refine J.q λ_=>?_;refine J.cl (λg:Nat=>TlP q t g) g [1,2] ?_;refine J.qr [1] λ_=>?_;exact⟨by rw[Tl.held,hh];rfl,rfl⟩
 | true=>
  rw[Tl.adr,hh,d8 rfl];refine J.q λ_=>?_;refine J.v (.bool (t.at_ k).held) rfl rfl (λhg a w he hs=>?_) ?_
  ·exact D4 tk rfl rfl he rfl rfl rfl (hs.get (i:=2) rfl) (t.cell_at hl hh 3 (by omega))
  refine J.q λ_=>?_;refine J.cl (λg:Nat=>TlP q t g) g [1,2] ?_;refine J.qr [1] λ_=>?_;exact⟨by rw[Tl.held,hh];rfl,rfl⟩
theorem b6e (q:Nat) (t:Tl):FP 174 [pp q] [TlA q t] (Ps (iI t.alive) [TlA q t]):=by
 refine FE [2] Tryz.func174 λX F hX=>?_;refine J.o (α:=Nat) 1 λg=>?_;refine J.qF λ_=>?_;refine J.p (.of [0,4,8,12,17,24,28,32,37,22,40,44]) [11] [1,2] λ_=>?_;refine J.qp (b1R t.d) [] λ_=>?_;refine J.q λ_=>?_;refine J.cl (λg:Nat=>TlP q t g) g [1,2] ?_;exact J.qx [1]
theorem a7r (q:Nat) (t:Tl):FP 97 [pp q] [TlA q t] (Ps (.agg #[iI t.d,iI t.b,iI t.p]) [TlA q t]):=by
 refine FE [2] Tryz.func97 λX F hX=>?_;refine J.o (α:=Nat) 1 λg=>?_;refine J.qF λ_=>?_;refine J.q λ_=>?_;refine J.cl (λg:Nat=>TlP q t g) g [1,2] ?_;exact J.qx [1]
theorem a2e (q:Nat) (t:Tl) (hb:t.b<=1000) (hl:t.l.length=t.b) (k:Int):FP 112 [pp q,iI k] [TlA q t] (Ps (iI (t.mask k)) [TlA q t]):=by
 refine FE [2,0] Tryz.func112 λX F hX=>?_;refine J.o (α:=Nat) 1 λg=>?_;refine J.qp (a6m q t hb g k) [1,2] λ_=>?_;cases hh:t.has k with
 | false=>
  rw[Tl.adr,hh,d6 (by simp)];refine J.qT λ_=>?_;refine J.cl (λg:Nat=>TlP q t g) g [1,2] ?_;refine J.qr [1] λ_=>?_;exact⟨by rw[Tl.mask,hh];rfl,rfl⟩
 | true=>
  rw[Tl.adr,hh,d8 rfl];refine J.qF λ_=>?_;refine J.pq (.of [0,8,12,16,21,6,24,28]) [6,7] [1,2] λ_ _=>?_;refine J.vT (iI (t.at_ k).bad) rfl rfl (λhg a w he hC=>?_) ?_
  ·exact D4 tk rfl rfl he hg rfl rfl (hC rfl _ (B6 (i:=2) rfl)) (t.cell_at hl hh 1 (by omega))
  refine J.qp (b4u q t g) [1,2] λ_=>?_;refine J.q λ_=>?_;refine J.cl (λg:Nat=>TlP q t g) g [1,2] ?_;refine J.qr [1] λ_=>?_;exact⟨by rw[Tl.mask,hh];rfl,rfl⟩
theorem a3Y (q:Nat) (t:Tl) (hb:t.b<=1000) (hl:t.l.length=t.b) (k:Int):FP 176 [pp q,iI k] [TlA q t] (Ps (.bool (t.usable k)) [TlA q t]):=by
 refine FE [2,0] Tryz.func176 λX F hX=>?_;refine J.qp (a2e q t hb hl k) [1] λ_=>?_;refine J.qp (a1i (t.mask k)) [] λ_=>?_;exact J.qx [1]
end
end Go.Proofs.YtmafiplddapokaaGreat
