/- Helpers. No condition. -/
import Derived.Test.YtpakpgkdpofbhaaGreatC00
import Derived.Test.YtpakpgkdpofbhaaGreatC03
import Derived.Test.YtpakpgkdpofbhaaGreatC04
import Derived.Test.YtpakpgkdpofbhaaGreatC05
import Derived.Test.YtpakpgkdpofbhaaGreatC06
set_option maxRecDepth 20000
set_option linter.all false
namespace Go.Proofs.YtpakpgkdpofbhaaGreat
open Go Go.RowKit
theorem b3Q (s:Sh):(shL s).length=23:=rfl
theorem a4t:∀(l:List Sh) (r:List Value) (k:Nat) (x:Sh),l[k]? =some x->((E8 l++r).drop (k*23)).take 23=shL x
 | [],_,_,_,h=>by simp at h
 | y::l,r,0,x,h=>by
  simp at h;subst h;rw[L7,Q0];simp only[E8,q9,s8];exact B6 (b3Q y)
 | y::l,r,k+1,x,h=>by
  have:=a4t l r k x (by simpa using h);rw[show(k+1)*23=23+k*23 from by omega,<- A4];simp only[E8,q9,s8]at this ⊢;rw[T4 (b3Q y)];exact this
theorem a2Z {x s:List UInt8} (hx:x.length=16) (hs:s.length=16) (k:Nat) (hk:k<=16):(W.mix x s k).length=16:=by simp[W.mix,hx,hs];omega
theorem b4n {x s:List UInt8} (hx:x.length=16) (hs:s.length=16) {k:Nat} (hk:k<16):(W.mix x s k).getD k 0=x.getD k 0:=by
 have e:(W.mix x s k)[k]? =x[k]?:=by
  rw[W.mix,y6 (by simp[hx,hs];omega),C4];congr 1;simp[hx,hs];omega
 rw[d6,e,d6]
theorem b4m {x s:List UInt8} (hx:x.length=16) (hs:s.length=16) {k:Nat} (hk:k<16):(W.mix x s k).set k (x.getD k 0 ^^^ s.getD k 0)=W.mix x s (k+1):=by
 apply v6;intro j;rw[r9,a2Z hx hs k (by omega)];simp only[W.mix,M9,l9,List.length_zipWith,hx,hs,Nat.min_self,A9,C4]
 by_cases e:k=j
 ·subst e;rw[d8 rfl,d8 hk,d8 (by omega),d8 (by omega)];simp[List.getElem?_zipWith,hx,hs,hk]
 ·rw[d7 e]
  by_cases h1:j<k
  ·rw[d8 (show j<min k 16 by omega),d8 h1,d8 (show j<min (k+1) 16 by omega),d8 (show j<k+1 by omega)]
  ·rw[d7 (show¬j<min k 16 by omega),d7 (show¬j<min (k+1) 16 by omega),show k+(j-min k 16)=j from by omega,show k+1+(j-min (k+1) 16)=j from by omega]
theorem u81:Tryz.prog.underlying 30=some (.array 16 5):=by kernel_rfl
theorem a6d {x:List UInt8} (h:x.length=16) {k:Nat} (hk:k<16):(B1 x)[k]? =some (bv (x.getD k 0)):=by
 rw[a0A x h,j6];simp[h,hk]
theorem a9L {x:List UInt8} (h:x.length=16) {k:Nat} {b:UInt8}:(B1 x).set k (bv b)=B1 (x.set k b):=by
 rw[a0A x h,a0A _ (by simpa using h),D7]
theorem b3I (b c:UInt8):IntKind.u8.wrap ((BitVec.ofInt IntKind.u8.bits (b.toNat:Int) ^^^ BitVec.ofInt IntKind.u8.bits (c.toNat:Int)).toNat:Int)=((b ^^^ c).toNat:Int):=by
 have h:=b6s b (c.toNat:Int);have h1:((c.toNat:Int) % 256)=c.toNat:=by have:=c.toNat_lt;omega
 have h2:IntKind.u8.wrap (c.toNat:Int)=(c.toNat:Int):=by
  have:IntKind.u8.wrap (c.toNat:Int)=(c.toNat:Int) % 256:=by simp[IntKind.wrap,IntKind.bits,IntKind.signed]
  rw[this,h1]
 rw[h2,h1]at h;simpa using h
theorem a3R {l:List Sh} (hd:∀s∈l,s.data.length=16):∀(x:List UInt8×Int),x.1.length=16->(l.foldl W.over1 x).1.length=16:=by
 induction l with
 | nil=>intro x h;exact h
 | cons s l ih=>intro x h;exact ih (λt ht=>hd t (by simp[ht])) _ (a2Z h (hd s (by simp)) 16 (by omega))
theorem a1F (a:Option Nat) (n cap:Nat) (l:List Sh) (hl:l.length=n) (hn:n<=1000) (hd:∀s∈l,s.data.length=16):FP 248 [slv a n cap] [l5 240 23 a n cap (E8 l)]
  (Ps (.tuple #[.agg (B1 (W.over l).1).toArray, .int .u64 (W.over l).2]) [l5 240 23 a n cap (E8 l)]):=by
 refine FE [0] Tryz.func248 λX F hX=>?_;refine J.q λbb=>?_;refine J.l (α:=Nat) (λk=>k<=n) (λk=>[si 12 k,si 11 n,sv 10 (slv a n cap),⟨5, .int .u64 ((l.take k).foldl W.over1 (zeros16,0)).2,0, .tt⟩,⟨4,pp (bb (0+1)),4, .tt⟩,⟨2,pp (bb 0),3, .tt⟩]) [3] (λk=>[.pt (bb (0+1)) 30 (B1 ((l.take k).foldl W.over1 (zeros16,0)).1)]) (λk=>n-k) (0) (j4 _) λk hI=>?_;have hxl:((l.take k).foldl W.over1 (zeros16,0)).1.length=16:=a3R (λt ht=>hd t (H9 ht)) _ rfl;refine J.qd (λ_ h1=>?_) λ_ h1=>?_
 ·simp only[c9,g6]at h1;obtain⟨s,hs⟩:∃s,l[k]? =some s:=⟨_,d5 (by omega)⟩;have hsl:s.data.length=16:=hd s (l7 hs);have hnext:(l.take (k+1)).foldl W.over1 (zeros16,0)=W.over1 ((l.take k).foldl W.over1 (zeros16,0)) s:=by
   rw[s6,hs];simp
  generalize(l.take k).foldl W.over1 (zeros16,0)=x at hxl hnext;cases a with
  | none=>
   refine J.know (λh' s=>(s.get (i:=1) rfl).2.1) λhn0=>?_;omega
  | some g=>
   refine J.q λ_=>?_;refine J.v (shV s) rfl rfl (λhg a w he hw=>?_) ?_
   ·exact E6 tk rfl rfl he rfl rfl rfl (hw.get (i:=1) rfl) (by rw[show 0+(k:Int).toNat*23=k*23 from by omega];have:=a4t l [] k s hs;rwa [n9]at this) rfl
   refine J.q λcc=>?_;refine J.lo (α:=Nat) (λi=>i<=16) (λi=>[si 18 i,⟨17, .agg (B1 s.data).toArray,0, .tt⟩,⟨7,pp (cc 0),5, .tt⟩,si 12 k,si 11 n,sv 10 (slv (some g) n cap),⟨5, .int .u64 x.2,0, .tt⟩,⟨4,pp (bb (0+1)),4, .tt⟩,⟨2,pp (bb 0),3, .tt⟩]) [3] (λi=>[.pt (bb (0+1)) 30 (B1 (W.mix x.1 s.data i))]) (λi=>16-i) (0) (j4 _) rfl ?_ (λ_=>rfl) λi hI=>?_
   ·rw[show W.mix x.1 s.data 0=x.1 from by simp[W.mix]];rfl
   have hml:=a2Z hxl hsl i hI;refine J.qd (λ_ h2=>?_) λ_ h2=>?_
   ·simp only[c9]at h2;have h3:i<16:=by omega
    refine J.q λ_=>?_;refine J.v (bv (s.data.getD i 0)) rfl rfl (λhg a w he hw=>?_) ?_
    ·exact a3e tk rfl rfl rfl he rfl rfl u81 rfl rfl rfl (by omega) (by omega) (by rw[l6];have:=a6d hsl h3;simpa using this)
    refine J.q λ_=>?_;refine J.v (bv (x.1.getD i 0)) rfl rfl (λhg a w he hw=>?_) ?_
    ·exact x9 tk rfl rfl he rfl rfl rfl (hw.get (i:=3) rfl) (by rw[show 0+(i:Int).toNat*1=i from by omega,a6d hml h3,b4n hxl hsl h3])
    refine J.q λ_=>?_;refine J.s1 3 (B1 (W.mix x.1 s.data (i+1))) ?_ ?_ ?_
    ·show 0+(i:Int).toNat*1<16;omega
    ·rw[show 0+(i:Int).toNat*1=i from by omega,b3I,<- b4m hxl hsl h3];exact a9L hml
    refine J.q λ_=>?_;refine J.nx (i+1) (by omega) (by omega) (λ_ s=>s)
   ·simp only[c8]at h2;obtain rfl:i=16:=by omega
    refine J.qp (b8F s.role s.lpn s.seq) [] λ_=>?_;refine J.q λ_=>?_;have e1:W.mix x.1 s.data 16=((l.take (k+1)).foldl W.over1 (zeros16,0)).1:=by rw[hnext];rfl
    have e2:IntKind.u64.wrap ((BitVec.ofInt IntKind.u64.bits x.2 ^^^ BitVec.ofInt IntKind.u64.bits (S.meta_ s.role s.lpn s.seq)).toNat:Int)=((l.take (k+1)).foldl W.over1 (zeros16,0)).2:=by rw[hnext];rfl
    rw[e1,e2];refine J.q λ_=>?_;refine J.n (k+1) (by omega) (by omega) [0,1,2,3]
 ·simp only[c8,g6]at h1;obtain rfl:k=l.length:=by omega
  rw[D2];exact J.qx [1]
def p5 (l:List En):List Value:=l.flatMap enL
theorem c1d (e:En):(enL e).length=19:=rfl
theorem W7:∀(l:List En) (r:List Value) (k:Nat) (x:En),l[k]? =some x->((p5 l++r).drop (k*19)).take 19=enL x
 | [],_,_,_,h=>by simp at h
 | y::l,r,0,x,h=>by
  simp at h;subst h;rw[L7,Q0];simp only[p5,q9,s8];exact B6 rfl
 | y::l,r,k+1,x,h=>by
  have:=W7 l r k x (by simpa using h);rw[show(k+1)*19=19+k*19 from by omega,<- A4];simp only[p5,q9,s8]at this ⊢;rw[T4 (c1d y)];exact this
theorem M5 (l:List Sh) (s:Sh):E8 (l++[s])=E8 l++shL s:=by simp[E8]
namespace W
def parS (b r m:Int) (l:List En):Sh:=
 let x:=over (l.map (sh b r m))
 ⟨x.1,(x.2.toNat/72057594037927936:Nat),(x.2.toNat/1099511627776 % 65536:Nat),(x.2.toNat % 1099511627776:Nat),2,b,r,m⟩
def parB (b r m:Int) (l:List En):Bool:=decide ((l.length:Int)=G.slots m)&& !l.isEmpty&&l.all (ok b r m)
def par (b r m:Int) (l:List En):Sh:=if parB b r m l then parS b r m l else Sh.zero
end W
theorem c2b (m x:Int):0<=W.ovM m x/\W.ovM m x<18446744073709551616:=by
 have:W.ovM m x=((BitVec.ofInt 64 m ^^^ BitVec.ofInt 64 x).toNat:Int) % 18446744073709551616:=by simp[W.ovM,IntKind.wrap,IntKind.bits,IntKind.signed]
 rw[this];omega
theorem a7K:∀(l:List Sh) (x:List UInt8×Int),0<=x.2/\x.2<18446744073709551616->∃k:Nat,(l.foldl W.over1 x).2=k/\k<18446744073709551616
 | [],x,h=>⟨x.2.toNat,by simp only[a5E];omega,by omega⟩
 | s::l,x,_=>a7K l _ (c2b _ _)
theorem V6 (m:Int):0<=G.slots m/\G.slots m<=7:=by
 have:=L.count_le m;unfold G.slots;split<;>omega
theorem b1c (b r m:Int) (A:Atom) (a:Option Addr) (n cap:Nat) (l:List En) (hA:Rd A a 19 n (p5 l)) (hl:l.length=n) (hd:∀s∈l,s.data.length=16):FP 180 [iI b,iI r,iI m, .slice a n cap] [A]
  (λv As=>v= .tuple #[shV (W.par b r m l), .bool (W.parB b r m l)]/\As=[A]):=by
 refine FE [0,0,0,0] Tryz.func180 λX F hX=>?_;refine J.q λbb=>?_;refine J.cb (a0Y m) [] ?_;refine cpq ⟨_,rfl,trivial,?_⟩;refine J.qd (λ_ h1=>?_) λ_ h1=>?_
 ·refine J.qr [1] λ_=>?_;have:W.parB b r m l=false:=by
   simp only[j8,C2,D4,m5]at h1;unfold W.parB;rw[hl];rcases h1 with h1 | h1
   ·simp[h1]
   ·have:l=[]:=s7 (by omega);subst this;simp
  exact⟨by rw[W.par,this];rfl,rfl⟩
 simp only[A5,p6,j9,D4]at h1;have hn:n<=1000:=by have:=V6 m;omega
 refine J.turn1 [] rfl (As:=[l5 240 23 none 0 0 (E8 [])]) (λh s=>Sep.one ⟨rfl,rfl,rfl⟩) rfl ?_;refine J.q λ_=>?_;refine J.l (α:=(Nat×Option Nat×Nat)) (λz=>z.1<=n/\(l.take z.1).all (W.ok b r m)=true) (λz=>[si 31 z.1,si 30 n,sv 29 (.slice a n cap),sv 10 (slv z.2.1 z.1 z.2.2),⟨8,pp (bb 0),3, .tt⟩,si 0 b,si 1 r,si 2 m]) [3] (λz=>[l5 240 23 z.2.1 z.1 z.2.2 (E8 ((l.take z.1).map (W.sh b r m)))]) (λz=>n-z.1) ((0,none,0)) (⟨j4 _,rfl⟩) λz hI=>?_;obtain⟨k,a',cap'⟩:=z;dsimp only at hI ⊢;refine J.qd (λ_ h2=>?_) λ_ h2=>?_
 ·simp only[c9,g6]at h2;obtain⟨e,he0⟩:∃e,l[k]? =some e:=⟨_,d5 (by omega)⟩;have hel:e.data.length=16:=hd e (l7 he0);refine J.know (p:=∃g o,a=some ⟨g,o,none⟩) (λh' s=>Rd.addr (hA _ (s.get (i:=1) rfl)) (by omega)) λhk=>?_;obtain⟨g,o,rfl⟩:=hk;refine J.q λ_=>?_;refine J.v (enV e) rfl rfl (λhg a w he hw=>?_) ?_
  ·exact V4 tk rfl rfl he rfl rfl rfl (hA _ (hw.get (i:=1) rfl)) (by omega) (j:=k*19) (by omega) (by have:=W7 l [] k e he0;rwa [n9]at this) rfl
  refine J.qp (b1d b r m e hel) [] λ_=>?_;have htk:l.take (k+1)=l.take k++[e]:=by rw[s6,he0];rfl
  refine J.qd (λ_ h3=>?_) λ_ h3=>?_
  ·simp only[i7]at h3;refine J.qr [1] λ_=>?_;have:W.parB b r m l=false:=by
    unfold W.parB;have:l.all (W.ok b r m)=false:=by
     rw[List.all_eq_false];exact⟨e,l7 he0,by simp[h3]⟩
    rw[this];simp
   exact⟨by rw[W.par,this];rfl,rfl⟩
  ·simp only[p9]at h3;rw[show W.own b r m e=W.sh b r m e from d8 h3];refine J.q λ_=>?_;refine J.append hX tk 3 6 0 rfl rfl rfl rfl rfl rfl rfl rfl rfl rfl rfl rfl rfl rfl rfl rfl ?_ ?_ (λ_=>rfl) λa2 cap2=>⟨_,(congrArg (λz=>Q2 _ 3 (l5 _ _ _ _ _ z)) (M5 _ (W.sh b r m e)).symm).trans rfl,trivial,?_⟩
   ·simp only[maxLen];omega
   ·omega
   rw[show(l.take k).map (W.sh b r m)++[W.sh b r m e]=(l.take (k+1)).map (W.sh b r m)from by rw[htk,x7];rfl];refine J.q λ_=>?_;refine J.n ((k+1,a2,cap2)) (⟨by dsimp only;omega,by dsimp only;rw[htk,List.all_append,hI.2];simp[h3]⟩) (by dsimp only;omega) [0,1,2,3]
 ·simp only[c8,g6]at h2;obtain rfl:k=n:=by omega
  rw[show l.take k=l from m7 (by omega)]at*;refine J.qp (a1F a' k cap' (l.map (W.sh b r m)) (by rw[m9,hl]) hn (λs hs=>by obtain⟨e,he,rfl⟩:=List.mem_map.1 hs;exact hd e he)) [3] λ_=>?_;obtain⟨mm,hm1,hm2⟩:=a7K (l.map (W.sh b r m)) (zeros16,0) ⟨by decide,by decide⟩;have hm1:(W.over (l.map (W.sh b r m))).2=(mm:Int):=hm1;rw[hm1];refine J.qp (c2w mm hm2) [] λ_=>?_;refine J.qr [1] λ_=>?_;have hB:W.parB b r m l=true:=by
   unfold W.parB;rw[hl,hI.2];have:l.isEmpty=false:=by
    cases l with
    | nil=>simp at hl;omega
    | cons x l=>rfl
   rw[this];simp[h1.1]
  refine⟨?_,rfl⟩;have hx:mm=(W.over (l.map (W.sh b r m))).2.toNat:=by rw[hm1];rfl
  rw[W.par,hB,d8 rfl,W.parS,<- hx];rfl
theorem a5L {N:Nand} (hN:N.Ok) (x y z:Int):(N.readV x y z).length=32:=by
 unfold Nand.readV;split
 ·rfl
 ·rename_i h;simp only[D4,a6P]at h;obtain⟨_,_,hr⟩:=Nand.refuses_zero h;split
  ·rfl
  ·rename_i c hc;split
   ·rfl
   ·exact(hN.cells _ _ (by omega) (by omega)).2 c (l7 hc)
namespace M
def bad (s:Sh) (x y z:Int):Bool:=s.block !=y||s.row !=z|| !L.has s.mask x||(G.parity s.mask s.block s.row==x) !=(s.kind==2)
def look (N:Nand) (x y z:Int):Sh×Int:=
 let e:=N.readE x y z
 if e=0 then
  let p:=N.readV x y z
  if S.getE p≠0\/bad (S.getV p) x y z=true then(Sh.zero,3)else(S.getV p,1)
 else if e=5 then(Sh.zero,2)
 else if e=8\/e=9\/e=3\/e=12 then(Sh.zero,4)
 else(Sh.zero,3)
end M
theorem a5R (p:Nat) (N:Nand) (hN:N.Ok) (hR:N.Room) (x y z:Int):FP 201 [pp p, .agg #[iI x,iI y,iI z]] [x6 p N]
  (Ps (.tuple #[shV (M.look N x y z).1,iI (M.look N x y z).2]) [x6 p N]):=by
 refine FE [2,0] Tryz.func201 λX F hX=>?_;refine J.qp (a5P p N hN x y z) [1] λ_=>?_;refine J.qd (λ_ h1=>?_) λ_ h1=>?_
 ·simp only[m5]at h1;refine J.qp (b8G (N.readV x y z) (a5L hN x y z)) [] λ_=>?_;refine J.p (.of [0,5,8,13,16,21,28,33,26,36,40]) [10] [1,2,3,4,5] λ_=>?_;refine J.qp (a1b (S.getV (N.readV x y z)).mask (S.getV (N.readV x y z)).block (S.getV (N.readV x y z)).row) [] λ_=>?_;have hlk:M.look N x y z=if S.getE (N.readV x y z)≠0\/M.bad (S.getV (N.readV x y z)) x y z=true then(Sh.zero,3)else(S.getV (N.readV x y z),1):=by simp only[M.look];rw[d8 h1]
  generalize hE:S.getE (N.readV x y z)=ge at hlk;generalize hS:S.getV (N.readV x y z)=s at hlk;refine J.q λ_=>?_;refine J.gcase hX rfl rfl rfl trivial (λhb=>?_) (λhb=>?_)
  ·have hb2:(ge !=0||s.block !=y||s.row !=z)=false:=by rw[i7]at hb;exact hb
   rw[hb2];refine J.qp (a9u s.mask x) [] λ_=>?_;have hcond:(false|| !L.has s.mask x||(G.parity s.mask s.block s.row==x) !=(s.kind==2))=true->ge≠0\/M.bad s x y z=true:=λh=>by
    simp only[A5]at hb2;right;unfold M.bad;rw[hb2.1.2,hb2.2];exact h
   have hcond2:(false|| !L.has s.mask x||(G.parity s.mask s.block s.row==x) !=(s.kind==2))=false->¬(ge≠0\/M.bad s x y z=true):=λh=>by
    simp only[A5]at hb2;have h0:ge=0:=by simpa using hb2.1.1
    have h2:M.bad s x y z=false:=by unfold M.bad;rw[hb2.1.2,hb2.2];exact h
    simp[h0,h2]
   refine J.qd (λ_ h5=>?_) λ_ h5=>?_
   ·refine J.qr [1] λ_=>?_;have hc:ge≠0\/M.bad s x y z=true:=hcond h5;rw[hlk,d8 hc];exact⟨rfl,rfl⟩
   ·refine J.qr [1] λ_=>?_;have hc:¬(ge≠0\/M.bad s x y z=true):=hcond2 h5;rw[hlk,d7 hc];exact⟨rfl,rfl⟩
  ·have hb2:(ge !=0||s.block !=y||s.row !=z)=true:=by rw[p9]at hb;exact hb
   rw[hb2];refine J.q λ_=>?_;refine J.v (.bool false) rfl rfl (λhg a w he hw=>by simp[G.on]at hg) ?_;have hc:ge≠0\/M.bad s x y z=true:=by
    simp only[j8,C2,D4]at hb2;rcases hb2 with(h | h) | h
    ·exact .inl h
    ·right;simp[M.bad,h]
    ·right;simp[M.bad,h]
   rw[d8 hc]at hlk;refine J.qd (λ_ h5=>?_) λ_ h5=>?_
   ·refine J.qr [1] λ_=>?_;rw[hlk];exact⟨rfl,rfl⟩
   ·simp at h5
 simp only[j9,D4]at h1;refine J.qd (λ_ h2=>?_) λ_ h2=>?_
 ·simp only[m5]at h2;refine J.qr [1] λ_=>?_;exact⟨by simp only[M.look];rw[d7 h1,d8 h2];rfl,rfl⟩
 simp only[j9,D4]at h2;have hgone:(N.readE x y z=8\/N.readE x y z=9\/N.readE x y z=3\/N.readE x y z=12)->M.look N x y z=(Sh.zero,4):=λh=>by simp only[M.look];rw[d7 h1,d7 h2,d8 h]
 have hbad:¬(N.readE x y z=8\/N.readE x y z=9\/N.readE x y z=3\/N.readE x y z=12)->M.look N x y z=(Sh.zero,3):=λh=>by simp only[M.look];rw[d7 h1,d7 h2,d7 h]
 refine J.qd (λ_ g8=>?_) λ_ g8=>?_
 ·rw[g8];refine J.qT λ_=>?_;refine J.qr [1] λ_=>?_;simp only[m5]at g8;rw[hgone (by simp[g8])];exact⟨rfl,rfl⟩
 refine J.qd (λ_ g9=>?_) λ_ g9=>?_
 ·rw[g9];refine J.qT λ_=>?_;refine J.qr [1] λ_=>?_;simp only[m5]at g9;rw[hgone (by simp[g9])];exact⟨rfl,rfl⟩
 refine J.qd (λ_ g3=>?_) λ_ g3=>?_
 ·rw[g3];refine J.qT λ_=>?_;refine J.qr [1] λ_=>?_;simp only[m5]at g3;rw[hgone (by simp[g3])];exact⟨rfl,rfl⟩
 refine J.qd (λ_ g12=>?_) λ_ g12=>?_
 ·refine J.qr [1] λ_=>?_;simp only[m5]at g12;rw[hgone (by simp[g12])];exact⟨rfl,rfl⟩
 refine J.qr [1] λ_=>?_;simp only[j9,D4]at g8 g9 g3 g12;rw[hbad (by simp[g8,g9,g3,g12])];exact⟨rfl,rfl⟩
def n7 (l:List Int):List Value:=l.map (.int .i64)
theorem U9 (l:List Int) (x:Int):n7 (l++[x])=n7 l++[iI x]:=by simp[n7]
namespace M
def rowN (N:Nand) (b r:Int) (k:Nat):List (Sh×Int):=(List.range k).map λd:Nat=>look N (d:Int) b r
end M
theorem a9h (N:Nand) (b r:Int) (k:Nat):M.rowN N b r (k+1)=M.rowN N b r k++[M.look N (k:Int) b r]:=by simp[M.rowN,t6]
theorem c1B (p:Nat) (N:Nand) (hN:N.Ok) (hR:N.Room) (b r:Int):FP 198 [pp p,iI b,iI r] [x6 p N]
  (λv As=>∃a1 c1 a2 c2,v= .tuple #[slv a1 N.dies c1,slv a2 N.dies c2]/\As=[x6 p N,l5 240 23 a1 N.dies c1 (E8 ((M.rowN N b r N.dies).map (·.1))),l5 3 1 a2 N.dies c2 (n7 ((M.rowN N b r N.dies).map (·.2)))]):=by
 have hbd:=hN.bd;refine FE [2,0,0] Tryz.func198 λX F hX=>?_;refine J.qp (a0H p N) [1] λ_=>?_;refine J.turn1 [] rfl (As:=[l5 240 23 none 0 0 (E8 []),l5 3 1 none 0 0 (n7 [])]) (λh s=>⟨λ_=>0,λi A hA=>by
  match i,hA with
  | 0,hA=>simp at hA;subst hA;exact⟨rfl,rfl,rfl⟩
  | 1,hA=>simp at hA;subst hA;exact⟨rfl,rfl,rfl⟩
  | k+2,hA=>simp at hA⟩) rfl ?_
 refine J.q λ_=>?_;refine J.l (α:=(Nat×(Option Nat×Nat)×(Option Nat×Nat))) (λz=>z.1<=N.dies) (λz=>[si 16 z.1,si 15 N.dies,sv 8 (slv z.2.1.1 z.1 z.2.1.2),sv 9 (slv z.2.2.1 z.1 z.2.2.2),⟨0,pp p,2, .tt⟩,si 1 b,si 2 r]) [2,3] (λz=>[l5 240 23 z.2.1.1 z.1 z.2.1.2 (E8 ((M.rowN N b r z.1).map (·.1))),l5 3 1 z.2.2.1 z.1 z.2.2.2 (n7 ((M.rowN N b r z.1).map (·.2)))]) (λz=>N.dies-z.1) ((0,(none,0),(none,0))) (j4 _) λz hI=>?_;obtain⟨k,⟨a1,c1⟩,⟨a2,c2⟩⟩:=z;dsimp only at hI ⊢;refine J.qd (λ_ h1=>?_) λ_ h1=>?_
 ·simp only[c9,g6]at h1;refine J.qp (a5R p N hN hR k b r) [1] λ_=>?_;refine J.q λ_=>?_;refine J.append hX tk 2 5 0 rfl rfl rfl rfl rfl rfl rfl rfl rfl rfl rfl rfl rfl rfl rfl rfl ?_ ?_ (λ_=>rfl) λa3 c3=>⟨_,(congrArg (λz=>Q2 _ 2 (l5 _ _ _ _ _ z)) (M5 _ (M.look N k b r).1).symm).trans rfl,trivial,?_⟩
  ·simp only[maxLen];omega
  ·omega
  refine J.q λ_=>?_;refine J.append hX tk 3 6 0 rfl rfl rfl rfl rfl rfl rfl rfl rfl rfl rfl rfl rfl rfl rfl rfl ?_ ?_ (λ_=>rfl) λa4 c4=>⟨_,(congrArg (λz=>Q2 _ 3 (l5 _ _ _ _ _ z)) (U9 _ (M.look N k b r).2).symm).trans rfl,trivial,?_⟩
  ·simp only[maxLen];omega
  ·omega
  rw[show(M.rowN N b r k).map (·.1)++[(M.look N k b r).1]=(M.rowN N b r (k+1)).map (·.1)from by rw[a9h,x7];rfl,show(M.rowN N b r k).map (·.2)++[(M.look N k b r).2]=(M.rowN N b r (k+1)).map (·.2)from by rw[a9h,x7];rfl];refine J.q λ_=>?_;refine J.n ((k+1,(a3,c3),(a4,c4))) (by dsimp only;omega) (by dsimp only;omega) [0,1,2,3]
 ·simp only[c8,g6]at h1;obtain rfl:k=N.dies:=by omega
  refine J.qr [1,2,3] λ_=>?_;exact⟨a1,c1,a2,c2,rfl,rfl⟩
theorem c2Q (x y:Int):FP 269 [iI x,iI y] [] (Ps (.bool (decide (x<y))) []):=by
 refine FE [] Tryz.func269 λX F hX=>?_;refine J.qp (b0O x) [] λ_=>?_;refine J.q λ_=>?_;refine J.gcase hX rfl rfl rfl trivial (λhb=>by cases hb) (λ_=>?_);refine J.q λ_=>?_;refine J.v (.bool false) rfl rfl (λhg a w he hw=>by simp[G.on]at hg) ?_;refine J.qr [] λ_=>?_;exact⟨by simp,rfl⟩
theorem K0 (l:List Int):(n7 l).length=l.length:=by simp[n7]
theorem a0o (l:List Int) (r:List Value) (k:Nat) (x:Int) (h:l[k]? =some x):(n7 l++r)[k]? =some (iI x):=by
 obtain⟨h1,h2⟩:=List.getElem?_eq_some_iff.1 h;rw[t7 (by rw[K0];exact h1),n7,j6,h];rfl
theorem a1W (l:List Int) (r:List Value) (k:Nat) (x:Int) (h:k<l.length):(n7 l++r).set k (iI x)=n7 (l.set k x)++r:=by
 rw[H8 _ _ (by rw[K0];exact h),n7,n7,D7]
def a7o (l:List Int) (j:Nat):List Int:=(l.set j (l.getD (j-1) 0)).set (j-1) (l.getD j 0)
def a3F:Nat->List Int->List Int
 | 0,l=>l
 | j+1,l=>if l.getD (j+1) 0<l.getD j 0 then a3F j (a7o l (j+1))else l
def Z5 (l:List Int):Nat->List Int
 | 0=>l
 | k+1=>a3F (k+1) (Z5 l k)
def X2 (l:List Int):List Int:=Z5 l (l.length-1)
theorem a2C (l:List Int) (j:Nat):(a7o l j).length=l.length:=by simp[a7o]
theorem a9d:∀(j:Nat) (l:List Int),(a3F j l).length=l.length
  | 0,l=>rfl
  | j + 1, l => by unfold a3F; split
                   · rw[a9d j,a2C]
                   · rfl
theorem a1O (l:List Int):∀k,(Z5 l k).length=l.length
 | 0=>rfl
 | k+1=>by rw[Z5,a9d,a1O l k]
theorem c0M (g n cap:Nat) (l:List Int) (hl:l.length=n) (hn:n<=4611686018427387904) (r:List Value):FP 263 [.slice (some ⟨g,0,none⟩) n cap,iI 0,iI n] [.pt g 3 (n7 l++r)]
  (Ps (.tuple #[]) [.pt g 3 (n7 (X2 l)++r)]):=by
 refine FE [2,0,0] Tryz.func263 λX F hX=>?_;refine J.q λ_=>?_;refine J.l (α:=Nat) (λi=>1<=i/\i<=max 1 n) (λi=>[si 6 i,⟨0, .slice (some ⟨g,0,none⟩) n cap,2, .tt⟩,si 1 0,si 2 n]) [1] (λi=>[.pt g 3 (n7 (Z5 l (i-1))++r)]) (λi=>n-i) (1) (⟨by omega,by omega⟩) λi hI=>?_;refine J.qd (λ_ h1=>?_) λ_ h1=>?_
 ·simp only[c9,g6]at h1;refine J.q λ_=>?_;refine J.l (α:=(Nat×List Int)) (λy=>y.1<=i/\y.2.length=n/\a3F y.1 y.2=Z5 l i) (λy=>[si 7 y.1,si 6 i,⟨0, .slice (some ⟨g,0,none⟩) n cap,2, .tt⟩,si 1 0,si 2 n]) [1] (λy=>[.pt g 3 (n7 y.2++r)]) (λy=>y.1) ((i,Z5 l (i-1))) (⟨j7 _,by rw[a1O,hl],by obtain⟨k,rfl⟩:∃k,i=k+1:=⟨i-1,by omega⟩;rfl⟩) λy hI=>?_;obtain⟨j,m⟩:=y;dsimp only at hI ⊢;have hget:∀e,e<n->m[e]? =some (m.getD e 0):=λe he=>by rw[d6,d5 (by omega),j5]
  rcases K7 j with h2 | h2
  ·subst h2;refine J.pn 4 (.of [0,4,8,12,16,20,24,29,32,36,40,44,49,54,56]) [] [1] λ_ _=>?_;rw[show decide (((0:Nat):Int)>0)=false from rfl];refine J.q λ_=>?_;refine J.vT (iI 0) rfl rfl (λhg a w he hC=>by simp[G.on]at hg) ?_;refine J.q λ_=>?_;refine J.vT (iI 0) rfl rfl (λhg a w he hC=>by simp[G.on]at hg) ?_;refine J.q λ_=>?_;refine J.gcase hX rfl rfl rfl ⟨rfl,trivial⟩ (λh=>by cases h) (λ_=>?_);refine J.slot (k:=29) (s':=⟨29, .bool false,0, .when false⟩) rfl rfl rfl ?_;refine J.qF λ_=>?_;have hm:m=Z5 l (i+1-1):=hI.2.2;rw[hm];refine J.q λ_=>?_;refine J.n (i+1) (⟨by omega,by omega⟩) (by omega) [0,1]
  ·obtain⟨j,rfl⟩:∃k,j=k+1:=⟨j-1,by omega⟩;refine J.pn 4 (.of [0,4,8,12,16,20,24,29,32,36,40,44,49,54,56]) [] [1] λ_ _=>?_;rw[show decide (((j+1:Nat):Int)>0)=true from j3 (by omega)];refine J.q λ_=>?_;refine J.vT (iI (m.getD (j+1) 0)) rfl rfl (λhg a w he hC=>?_) ?_
   ·exact x9 tk rfl rfl he hg rfl rfl (hC rfl _ (r8 (i:=1) rfl)) (by rw[show 0+((j+1:Nat):Int).toNat*1=j+1 from by omega];exact a0o m r _ _ (hget _ (by omega)))
   refine J.q λ_=>?_;refine J.vT (iI (m.getD j 0)) rfl rfl (λhg a w he hC=>?_) ?_
   ·exact x9 tk rfl rfl he hg rfl rfl (hC rfl _ (r8 (i:=1) rfl)) (by rw[show 0+(((j+1:Nat):Int)-1).toNat*1=j from by omega];exact a0o m r _ _ (hget _ (by omega)))
   refine J.q λ_=>?_;refine J.call hX (by kernel_rfl) (c2Q (m.getD (j+1) 0) (m.getD j 0)) [] 0 rfl rfl rfl rfl (by(repeat' (first | exact Conj.nil | refine Conj.cons ?_ ?_ | omega | exact hq0 | (simpa using hq0) | (exactλh=>h) | exact rfl | (intro hq;have hq0:=hq;try simp only[i9,j8,c9,i7,c8]at hq) | (simp;done) | (simp;omega) | decide))) rfl rfl (λ_=>rfl) ?_;refine cpq ⟨_,rfl,⟨rfl,trivial⟩,?_⟩;refine J.qd (λ_ h3=>?_) λ_ h3=>?_
   ·simp only[o0,c9]at h3;refine J.pq (.take true 0 (.take true 1 (.take true 2 (.take true 3 (.take true 4 (.take true 5 (.take true 6 (.take true 7 (.take true 8 (.take true 10 (.take true 11 (.take true 12 (.alt false 9 ((.of [54,56,62,64,71])) (.alt false 13 ((.of [38,56,62,64,71])) .non)))))))))))))) [16,17] [] λ_ _=>?_;refine J.alts ?_ ?_
    ·refine J.v (iI (m.getD j 0)) rfl rfl (λhg a w he hs=>?_) ?_
     ·exact x9 tk rfl rfl he hg rfl rfl (hs.get (i:=1) rfl) (by rw[show 0+(((j+1:Nat):Int)-1).toNat*1=j from by omega];exact a0o m r _ _ (hget _ (by omega)))
     refine J.q λ_=>?_;refine J.v (iI (m.getD (j+1) 0)) rfl rfl (λhg a w he hs=>?_) ?_
     ·exact x9 tk rfl rfl he hg rfl rfl (hs.get (i:=1) rfl) (by rw[show 0+((j+1:Nat):Int).toNat*1=j+1 from by omega];exact a0o m r _ _ (hget _ (by omega)))
     refine J.q λ_=>?_;refine J.s1 1 (n7 (m.set (j+1) (m.getD j 0))++r) ?_ ?_ ?_
     ·rw[f9,K0];show 0+((j+1:Nat):Int).toNat*1<_;omega
     ·rw[show 0+((j+1:Nat):Int).toNat*1=j+1 from by omega];exact a1W m r (j+1) _ (by omega)
     refine J.q λ_=>?_;refine J.s1 1 (n7 (a7o m (j+1))++r) ?_ ?_ ?_
     ·rw[f9,K0,n8];show 0+(((j+1:Nat):Int)-1).toNat*1<_;omega
     ·rw[show 0+(((j+1:Nat):Int)-1).toNat*1=j from by omega];exact a1W _ r j _ (by rw[n8];omega)
     refine J.q λ_=>?_;rw[show((j+1:Nat):Int)-1=(j:Int)from by omega];refine J.q λ_=>?_;refine J.n ((j,a7o m (j+1))) (⟨by dsimp only;omega,by rw[a2C];exact hI.2.1,by rw[<- hI.2.2];exact(d8 h3).symm⟩) (by dsimp only;omega) [0,1]
    ·refine J.v (iI (m.getD (j+1) 0)) rfl rfl (λhg a w he hs=>?_) ?_
     ·exact x9 tk rfl rfl he hg rfl rfl (hs.get (i:=1) rfl) (by rw[show 0+((j+1:Nat):Int).toNat*1=j+1 from by omega];exact a0o m r _ _ (hget _ (by omega)))
     refine J.q λ_=>?_;refine J.v (iI (m.getD j 0)) rfl rfl (λhg a w he hs=>?_) ?_
     ·exact x9 tk rfl rfl he hg rfl rfl (hs.get (i:=1) rfl) (by rw[show 0+(((j+1:Nat):Int)-1).toNat*1=j from by omega];exact a0o m r _ _ (hget _ (by omega)))
     refine J.q λ_=>?_;refine J.s1 1 (n7 (m.set (j+1) (m.getD j 0))++r) ?_ ?_ ?_
     ·rw[f9,K0];show 0+((j+1:Nat):Int).toNat*1<_;omega
     ·rw[show 0+((j+1:Nat):Int).toNat*1=j+1 from by omega];exact a1W m r (j+1) _ (by omega)
     refine J.q λ_=>?_;refine J.s1 1 (n7 (a7o m (j+1))++r) ?_ ?_ ?_
     ·rw[f9,K0,n8];show 0+(((j+1:Nat):Int)-1).toNat*1<_;omega
     ·rw[show 0+(((j+1:Nat):Int)-1).toNat*1=j from by omega];exact a1W _ r j _ (by rw[n8];omega)
     refine J.q λ_=>?_;rw[show((j+1:Nat):Int)-1=(j:Int)from by omega];refine J.q λ_=>?_;refine J.n ((j,a7o m (j+1))) (⟨by dsimp only;omega,by rw[a2C];exact hI.2.1,by rw[<- hI.2.2];exact(d8 h3).symm⟩) (by dsimp only;omega) [0,1]
   ·simp only[o0,c8]at h3;have hm:m=Z5 l (i+1-1):=by rw[show i+1-1=i from rfl,<- hI.2.2];exact(d7 h3).symm
    rw[hm];refine J.q λ_=>?_;refine J.n (i+1) (⟨by omega,by omega⟩) (by omega) [0,1]
 ·simp only[c8,g6]at h1;have hi:Z5 l (i-1)=X2 l:=by
   rw[X2,hl,show i-1=n-1 from by omega]
  rw[hi];refine J.q λ_=>?_;refine J.f [1] ?_;exact⟨rfl,rfl⟩
theorem a0P (l:List Int):(X2 l).length=l.length:=a1O l _
theorem c0m (g n cap:Nat) (l:List Int) (hl:l.length=n) (hn:n<=12) (r:List Value) (k:Nat):FP 205 [.slice (some ⟨g,0,none⟩) n cap,iI 0,iI n,iI k] [.pt g 3 (n7 l++r)]
  (Ps (.tuple #[]) [.pt g 3 (n7 (X2 l)++r)]):=by
 refine FE [2,0,0,0] Tryz.func205 λX F hX=>?_;refine J.q λ_=>?_;refine J.l (α:=Nat) (λy=>True) (λy=>[⟨0, .slice (some ⟨g,0,none⟩) n cap,2, .tt⟩,si 1 0,si 2 n,si 3 k]) [1] (λy=>[.pt g 3 (n7 l++r)]) (λy=>0) (0) (trivial) λy hI=>?_;refine J.qd (λ_ h1=>?_) λ_ h1=>?_
 ·refine J.q λ_=>?_;rw[show(n:Int)-0=n from by omega]at*;refine J.qp (c0M g n cap l hl (by omega) r) [1] λ_=>?_;exact J.qx [1]
 ·simp only[c8]at h1;omega
theorem b7z (d:Value) (k:Nat):FP 205 [d,iI 0,iI 0,iI k] [] (Ps (.tuple #[]) []):=by
 have h0:FP 263 [d,iI 0,iI 0] [] (Ps (.tuple #[]) []):=by
  refine FE [0,0,0] Tryz.func263 λX F hX=>?_;refine J.q λ_=>?_;refine J.l (α:=Nat) (λy=>True) (λy=>[si 6 (0+1),sv 0 d,si 1 0,si 2 0]) [] (λy=>[]) (λy=>0) (0) (trivial) λy hI=>?_;refine J.qd (λ_ h1=>?_) λ_ h1=>?_
  ·simp at h1
  ·refine J.q λ_=>?_;refine J.f [] ?_;exact⟨rfl,rfl⟩
 refine FE [0,0,0,0] Tryz.func205 λX F hX=>?_;refine J.q λ_=>?_;refine J.l (α:=Nat) (λy=>True) (λy=>[sv 0 d,si 1 0,si 2 0,si 3 k]) [] (λy=>[]) (λy=>0) (0) (trivial) λy hI=>?_;refine J.qd (λ_ h1=>?_) λ_ h1=>?_
 ·refine J.qp (h0) [] λ_=>?_;exact J.qx []
 ·simp at h1
theorem a7w (a:Option Nat) (n cap:Nat) (l:List Int) (hl:l.length=n) (hn:n<=12):FP 134 [slv a n cap] [l5 3 1 a n cap (n7 l)]
  (Ps (.tuple #[]) [l5 3 1 a n cap (n7 (X2 l))]):=by
 refine FE [0] Tryz.func134 λX F hX=>?_;refine J.qc (c1F n hn) [] λ_=>?_;rintro v As ⟨⟨k,hk,rfl⟩,rfl⟩;refine⟨_,rfl,trivial,?_⟩;refine J.q λ_=>?_;cases a with
 | none=>
  refine J.know (λh' s=>(s.get (i:=1) rfl).2.1) λhn0=>?_;subst hn0;have:l=[]:=s7 hl;subst this;refine J.qp (b7z (slv none 0 cap) k) [] λ_=>?_;refine J.q λ_=>?_;refine J.f [1] ?_;exact⟨rfl,rfl⟩
 | some g=>
  refine J.openOwn 1 rfl rfl (λ_=>rfl) λr q1 q2 q3 q4=>?_;refine J.qp (c0m g n cap l hl hn r k) [1] λ_=>?_;refine J.closeOwn (e:=3) (size:=1) (n:=n) (cap:=cap) (xs:=n7 (X2 l)) 1 rfl rfl (by rw[K0,a0P l,hl,M6]) q2 q3 (by rw[f9,K0,a0P l];rw[K0]at q4;exact q4) (by rw[B6 (by rw[K0,a0P l,hl,M6])]) rfl ?_;refine J.q λ_=>?_;refine J.f [1] ?_;exact⟨rfl,rfl⟩
def J2 (p:Int):List Int->List Int
 | []=>[]
 | x::r=>if x=p then J2 x r else x::J2 x r
def I3:List Int->List Int
 | []=>[]
 | x::r=>x::J2 x r
def CpI (l m:List Int) (k j:Nat):Prop:=m.length=l.length/\1<=k/\k+1<=j/\j<=l.length/\m.drop (j-1)=l.drop (j-1)/\m.take k++J2 (l.getD (j-1) 0) (l.drop j)=I3 l
theorem c2M {l:List Int} {k:Nat} (hk:1<=k) (hl:k<l.length) (h:l.take k++J2 (l.getD (k-1) 0) (l.drop k)=I3 l) (hne:l.getD k 0≠l.getD (k-1) 0):l.take (k+1)++J2 (l.getD k 0) (l.drop (k+1))=I3 l:=by
 have hx:l.getD k 0=l[k]:=by rw[d6,d5 hl,j5]
 rw[v8 hl,J2,d7 (by rw[<- hx];exact hne)]at h;rw[<- h,hx,s6,d5 hl];simp only[y9,s8,List.singleton_append]
theorem CpI.start {l:List Int} {k:Nat} (hk:1<=k) (hl:k<l.length) (h:l.take k++J2 (l.getD (k-1) 0) (l.drop k)=I3 l) (he:l.getD k 0=l.getD (k-1) 0):CpI l l k (k+1):=by
 have hx:l.getD k 0=l[k]:=by rw[d6,d5 hl,j5]
 refine⟨rfl,hk,by omega,by omega,rfl,?_⟩;rw[v8 hl,J2,d8 (by rw[<- hx];exact he)]at h;rw[M7,hx];exact h
theorem CpI.get {l m:List Int} {k j:Nat} (h:CpI l m k j) (i:Nat) (hi:j-1<=i):m.getD i 0=l.getD i 0:=by
 have h5:=h.2.2.2.2.1;have e:m[i]? =l[i]?:=by
  have:=congrArg (λz=>z[i-(j-1)]?) h5;simp only[C4]at this
  rwa [show j-1+(i-(j-1))=i from by omega]at this
 rw[d6,e,d6]
theorem CpI.skip {l m:List Int} {k j:Nat} (h:CpI l m k j) (hj:j<l.length) (he:l.getD j 0=l.getD (j-1) 0):CpI l m k (j+1):=by
 obtain⟨h1,h2,h3,h4,h5,h6⟩:=h;have hx:l.getD j 0=l[j]:=by rw[d6,d5 hj,j5]
 refine⟨h1,h2,by omega,by omega,?_,?_⟩
 ·have:=congrArg (List.drop 1) h5;rw[A4,A4]at this
  rwa [show j-1+1=j+1-1 from by omega]at this
 ·rw[v8 hj,J2,d8 (by rw[<- hx];exact he)]at h6;rw[M7,hx];exact h6
theorem CpI.keep {l m:List Int} {k j:Nat} (h:CpI l m k j) (hj:j<l.length) (he:l.getD j 0≠l.getD (j-1) 0):CpI l (m.set k (l.getD j 0)) (k+1) (j+1):=by
 obtain⟨h1,h2,h3,h4,h5,h6⟩:=h;have hx:l.getD j 0=l[j]:=by rw[d6,d5 hj,j5]
 refine⟨by simp[h1],by omega,by omega,by omega,?_,?_⟩
 ·rw[List.drop_set_of_lt (by omega)];have:=congrArg (List.drop 1) h5;rw[A4,A4]at this
  rwa [show j-1+1=j+1-1 from by omega]at this
 ·rw[v8 hj,J2,d7 (by rw[<- hx];exact he)]at h6;rw[M7,hx,<- h6,List.take_set,s6,d5 (by omega),P8 _ _ (by simp;omega)];simp[l9,J5 (show k<=m.length by omega)]
theorem a8p {l:List Int} (h:l.length<2):I3 l=l:=by
 match l,h with
 | [],_=>rfl
 | [x],_=>rfl
theorem a8X (a:Option Nat) (n cap:Nat) (l:List Int) (hl:l.length=n) (hn:n<=4611686018427387904):FP 135 [slv a n cap] [l5 3 1 a n cap (n7 l)]
  (λv As=>∃l',l'=I3 l/\v=slv a l'.length cap/\As=[l5 3 1 a l'.length cap (n7 l')]):=by
 refine FE [0] Tryz.func135 λX F hX=>?_;refine J.qd (λ_ h0=>?_) λ_ h0=>?_
 ·simp only[c9]at h0;refine J.qr [1] λ_=>?_;have hs:I3 l=l:=a8p (by omega);exact⟨l,hs.symm,by rw[hl],by rw[hl];rfl⟩
 simp only[c8]at h0;cases a with
 | none=>
  refine J.know (λh' s=>(s.get (i:=1) rfl).2.1) λhn0=>?_;omega
 | some g=>
  refine J.openOwn 1 rfl rfl (λ_=>rfl) λr q1 q2 q3 q4=>?_;refine J.q λ_=>?_;refine J.l (α:=Nat) (λk=>1<=k/\k<=n/\l.take k++J2 (l.getD (k-1) 0) (l.drop k)=I3 l) (λk=>[si 3 k,sv 0 (slv (some g) n cap)]) [] (λk=>[]) (λk=>n-k) (1) (⟨by omega,by omega,by cases l with | nil=>simp at hl;omega | cons x l=>rfl⟩) λk hI=>?_;have hget:∀e,e<n->(n7 l++r)[e]? =some (iI (l.getD e 0)):=λe he=>a0o l r e _ (by rw[d6,d5 (by omega),j5]);refine J.qd (λ_ h1=>?_) λ_ h1=>?_
  ·simp only[c9,g6]at h1;refine J.pq (.of [0,4,8,13,16,20,24,28,33,36]) [] [1] λ_ _=>?_;refine J.vT (iI (l.getD k 0)) rfl rfl (λhg a w he hC=>?_) ?_
   ·exact x9 tk rfl rfl he hg rfl rfl (hC rfl _ (r8 (i:=1) rfl)) (by rw[show 0+(k:Int).toNat*1=k from by omega];exact hget k h1)
   refine J.q λ_=>?_;refine J.vT (iI (l.getD (k-1) 0)) rfl rfl (λhg a w he hC=>?_) ?_
   ·exact x9 tk rfl rfl he hg rfl rfl (hC rfl _ (r8 (i:=1) rfl)) (by rw[show 0+((k:Int)-1).toNat*1=k-1 from by omega];exact hget (k-1) (by omega))
   refine J.qd (λ_ h2=>?_) λ_ h2=>?_
   ·simp only[m5]at h2;refine J.q λ_=>?_;rw[show(k:Int).toNat=k from l6 k];refine J.q λ_=>?_;refine J.l (α:=(Nat×Nat×List Int)) (λz=>CpI l z.2.2 z.1 (k+z.2.1)/\1<=z.2.1) (λz=>[si 5 z.2.1,sv 4 (.slice (some ⟨g,0+k*1,none⟩) (n-k) (cap-k)),si 3 z.1,sv 0 (slv (some g) n cap)]) [1] (λz=>[.pt g 3 (n7 z.2.2++r)]) (λz=>n-z.2.1) ((k,1,l)) (⟨CpI.start hI.1 (by omega) hI.2.2 h2,j7 _⟩) λz hI=>?_;obtain⟨kk,q,m⟩:=z;dsimp only at hI ⊢;obtain⟨hI,hq⟩:=hI;have hml:m.length=n:=hI.1.trans hl;have hc1:=hI.2.1;have hc2:=hI.2.2.1;have hc3:=hI.2.2.2.1;have hgm:∀e,e<n->(n7 m++r)[e]? =some (iI (m.getD e 0)):=λe he=>a0o m r e _ (by rw[d6,d5 (by omega),j5]);refine J.qd (λ_ h3=>?_) λ_ h3=>?_
    ·simp only[c9,g6]at h3;have hgj:=hI.get (k+q) (by omega);have hgj1:=hI.get (k+q-1) (by omega);have h3':k+q<n:=by omega
     refine J.pq (.of [0,4,8,13,16,20,24,28,33,36]) [] [1] λ_ _=>?_;refine J.vT (iI (m.getD (k+q) 0)) rfl rfl (λhg a w he hC=>?_) ?_
     ·exact x9 tk rfl rfl he hg rfl rfl (hC rfl _ (r8 (i:=1) rfl)) (by rw[show 0+k*1+(q:Int).toNat*1=k+q from by omega];exact hgm _ h3')
     refine J.q λ_=>?_;refine J.vT (iI (m.getD (k+q-1) 0)) rfl rfl (λhg a w he hC=>?_) ?_
     ·exact x9 tk rfl rfl he hg rfl rfl (hC rfl _ (r8 (i:=1) rfl)) (by rw[show 0+k*1+((q:Int)-1).toNat*1=k+q-1 from by omega];exact hgm _ (by omega))
     refine J.qd (λ_ h4=>?_) λ_ h4=>?_
     ·simp only[C2,D4,hgj,hgj1]at h4;refine J.q λ_=>?_;refine J.v (iI (m.getD (k+q) 0)) rfl rfl (λhg a w he hw=>?_) ?_
      ·exact x9 tk rfl rfl he rfl rfl rfl (hw.get (i:=1) rfl) (by rw[show 0+k*1+(q:Int).toNat*1=k+q from by omega];exact hgm _ h3')
      refine J.q λ_=>?_;refine J.s1 1 (n7 (m.set kk (l.getD (k+q) 0))++r) ?_ ?_ ?_
      ·rw[f9,K0];show 0+(kk:Int).toNat*1<_;omega
      ·rw[show 0+(kk:Int).toNat*1=kk from by omega,hgj];exact a1W m r kk _ (by omega)
      refine J.q λ_=>?_;refine J.n ((kk+1,q+1,m.set kk (l.getD (k+q) 0))) (⟨hI.keep (by omega) h4,by dsimp only;omega⟩) (by dsimp only;omega) [0,1]
     ·simp only[p6,hgj,hgj1]at h4;refine J.q λ_=>?_;refine J.n ((kk,q+1,m)) (⟨hI.skip (by omega) h4,by dsimp only;omega⟩) (by dsimp only;omega) [0,1]
    ·simp only[c8,g6]at h3;have hj:k+q=n:=by omega
     have hfin:m.take kk=I3 l:=by
      have h6:=hI.2.2.2.2.2;rw[D5 (by omega)]at h6;simpa[J2]using h6
     refine J.q λ_=>?_;refine J.clear hX tk 1 rfl rfl rfl rfl rfl rfl rfl rfl rfl rfl rfl ?_ (λ_=>rfl) (λ_=>rfl) λcs' z1 z2=>⟨trivial,?_⟩
     ·rw[f9,K0];rw[K0]at q4;show 0+(kk:Int).toNat*1+(n-(kk:Int).toNat)*1<=_;omega
     have hklen:(I3 l).length=kk:=by rw[<- hfin,l9];omega
     refine J.closeOwn (e:=3) (size:=1) (n:=kk) (cap:=cap) (xs:=n7 (I3 l)) 1 rfl rfl (by rw[K0,hklen,M6]) (by omega) q3 (by rw[z1,f9,K0,hml];rw[K0,hl]at q4;exact q4) ?_ rfl ?_
     ·have z3:(0+(kk:Int).toNat*1)=kk:=by omega
      rw[z3]at z2;rw[M6,z2,List.take_append_of_le_length (by rw[K0];omega),<- hfin,n7,n7,a4a]
     refine J.qr [1] λ_=>?_;exact⟨_,rfl,by rw[hklen];rfl,by rw[hklen];rfl⟩
   ·simp only[j9,D4]at h2;refine J.q λ_=>?_;refine J.nx (k+1) (⟨by omega,by omega,by rw[M7];exact c2M hI.1 (by omega) hI.2.2 h2⟩) (by omega) (λ_ s=>s)
  ·simp only[c8,g6]at h1;obtain rfl:k=n:=by omega
   have hs:I3 l=l:=by
    have:=hI.2.2;rw[m7 (by omega),D5 (by omega)]at this;simpa[J2]using this.symm
   refine J.closeOwn (e:=3) (size:=1) (n:=k) (cap:=cap) (xs:=n7 l) 1 rfl rfl q1 q2 q3 (by rw[f9];exact q4) (by rw[B6 q1]) rfl ?_;refine J.qr [1] λ_=>?_;exact⟨l,hs.symm,by rw[hl],by rw[hl];rfl⟩
def En.zero:En:=⟨0,0,0,zeros16⟩
def Sh.en (s:Sh):En:=⟨s.lpn,s.seq,s.role,s.data⟩
namespace W
def alien (p s:Sh):Bool:=s.kind !=1|| !S.may s||s.block !=p.block||s.row !=p.row||s.mask !=p.mask
def backS (p:Sh) (l:List Sh):En:=
 let x:=over (l++[p])
 ⟨(x.2.toNat/1099511627776 % 65536:Nat),(x.2.toNat % 1099511627776:Nat),(x.2.toNat/72057594037927936:Nat),x.1⟩
def backB (p:Sh) (l:List Sh):Bool:=p.kind==2&&S.may p&& !l.any (alien p)&&decide ((l.length:Int)=G.slots p.mask-1)&&ok p.block p.row p.mask (backS p l)
def back (p:Sh) (l:List Sh):En:=if backB p l then backS p l else En.zero
end W
structure Fd where
 slots:List Sh
 good:List Bool
 parity:Sh
 whole:Bool
structure Fnd where
 en:En
 block:Int
 row:Int
 slot:Int
 mask:Int
 whole:Bool
 mended:Bool
namespace M
def maskOf (x:Sh×Int):Option Int:=if x.2=1 then some x.1.mask else none
def masks (N:Nand) (b r:Int):List Int:=I3 (X2 ((rowN N b r N.dies).filterMap maskOf))
end M
namespace R
def job (b r m:Int) (l:List En):List (Int×Sh):=(List.range l.length).map (λk=>(G.die m b r (k:Nat),W.sh b r m (l.getD k En.zero)))++[(G.parity m b r,W.parS b r m l)]
def go (b r:Int):List (Int×Sh)->Nand->Int->Nand×Int×Int
 | [],N,f=>(N,f,if f=0 then 0 else 7)
 | (d,s)::q,N,f=>
  if N.progE d b r=0 then go b r q (N.progN d b r (a1v s)) f
  else if N.progE d b r=9 then(N.progN d b r (a1v s),f,9)
  else go b r q (N.progN d b r (a1v s)) (L.with_ f d)
def write (N:Nand) (b r m:Int) (l:List En):Nand×Int×Int:=if W.parB b r m l then go b r (job b r m l) N 0 else(N,0,1)
def one (N:Nand) (b r m d:Int):Sh×Bool:=((M.look N d b r).1,(M.look N d b r).2==1&&(M.look N d b r).1.mask==m)
def ones (N:Nand) (b r m:Int) (k:Nat):List (Sh×Bool):=(List.range k).map λi:Nat=>one N b r m (G.die m b r i)
def look (N:Nand) (b r m:Int):Fd:=⟨(ones N b r m (G.slots m).toNat).map (·.1),(ones N b r m (G.slots m).toNat).map (·.2),(one N b r m (G.parity m b r)).1,(one N b r m (G.parity m b r)).2⟩
def rest (f:Fd) (k:Nat):Bool:=(List.range f.slots.length).all λi=>i==k||f.good.getD i false
def mendB (f:Fd) (k:Nat):Bool:=rest f k&&f.whole&&W.backB f.parity (f.slots.eraseIdx k)
def mend (f:Fd) (k:Nat):En:=if rest f k&&f.whole then W.back f.parity (f.slots.eraseIdx k)else En.zero
def read (N:Nand) (b r s m:Int):En×Int:=
 if G.die m b r s<0\/V9 N.dies N.blocks N.pages 0 b r=false then(En.zero,3)
 else if N.off then(En.zero,9)
 else if(look N b r m).good.getD s.toNat false then(((look N b r m).slots.getD s.toNat Sh.zero).en,0)
 else if mendB (look N b r m) s.toNat then(mend (look N b r m) s.toNat,0)else(En.zero,10)
def enAt (f:Fd) (k:Nat):En:=if f.good.getD k false then(f.slots.getD k Sh.zero).en else mend f k
def okAt (f:Fd) (k:Nat):Bool:=f.good.getD k false||mendB f k
def fnd (f:Fd) (b r m:Int) (k:Nat):Option Fnd:=if okAt f k&&(enAt f k).role !=3 then some ⟨enAt f k,b,r,k,m,f.whole,!(f.good.getD k false)⟩else none
def allM (N:Nand) (b r m:Int):List Fnd:=(List.range (look N b r m).slots.length).filterMap (fnd (look N b r m) b r m)
def all (N:Nand) (b r:Int):List Fnd:=(M.masks N b r).flatMap (allM N b r)
end R
theorem X8 (N:Nand) (b r m:Int):(R.look N b r m).slots.length=(G.slots m).toNat/\(R.look N b r m).good.length=(G.slots m).toNat:=by simp[R.look,R.ones]
theorem a9q {N:Nand} (hN:N.Ok) (x y z:Int):(M.look N x y z).1.data.length=16:=by
 have hz:Sh.zero.data.length=16:=rfl;unfold M.look;dsimp only;split
 ·split
  ·exact hz
  ·exact b8J _ (a5L hN x y z)
 ·split
  ·exact hz
  ·split<;>exact hz
end Go.Proofs.YtpakpgkdpofbhaaGreat
namespace Go.Proofs.YtpakpgkdpofbhaaGreat
structure AtV where
 block:Int
 row:Int
 slot:Int
 mask:Int
 seq:Int
 role:Int
 deriving DecidableEq
def AtV.zero:AtV:=⟨0,0,0,0,0,0⟩
structure Tb where
 logical:Int
 at_:List (Int×AtV)
 cnt:List (Int×Int)
 next:Int
namespace Tb
def look {α:Type}:List (Int×α)->Int->Option α
 | [],_=>none
 | x::l,k=>if k=x.1 then some x.2 else look l k
def put1 {α:Type}:List (Int×α)->Int->α->List (Int×α)
 | [],k,v=>[(k,v)]
 | x::l,k,v=>if k=x.1 then(k,v)::l else x::put1 l k v
def new (n:Int):Tb:=⟨min (max n 0) 65536,[],[],1⟩
def count (t:Tb) (b:Int):Int:=(look t.cnt b).getD 0
def ok (t:Tb) (e:En):Bool:=!(decide (e.lpn<0)||decide (e.lpn>=t.logical)||(e.role !=1&&e.role !=2&&e.role !=4))
def elder (t:Tb) (e:En):Bool:=match look t.at_ e.lpn with
 | some a=>decide (e.seq<a.seq)
 | none=>false
def cnt1 (t:Tb) (e:En):List (Int×Int):=match look t.at_ e.lpn with
 | some a=>put1 t.cnt a.block (t.count a.block-1)
 | none=>t.cnt
def cnt2 (t:Tb) (e:En) (b:Int):List (Int×Int):=put1 (cnt1 t e) b ((look (cnt1 t e) b).getD 0+1)
def putB (t:Tb) (e:En):Bool:=ok t e&& !elder t e
def put (t:Tb) (e:En) (b r s m:Int):Tb:=if putB t e then⟨t.logical,put1 t.at_ e.lpn ⟨b,r,s,m,e.seq,e.role⟩,cnt2 t e b,if e.seq>=t.next then e.seq+1 else t.next⟩else t
def inB (t:Tb) (b:Int) (i:Int):Bool:=match look t.at_ i with
 | some a=>a.block==b
 | none=>false
def inK (t:Tb) (b:Int) (k:Nat):List Int:=((List.range k).filter λi:Nat=>inB t b i).map λi:Nat=>(i:Int)
theorem inK_succ (t:Tb) (b:Int) (k:Nat):inK t b (k+1)=if inB t b k then inK t b k++[(k:Int)]else inK t b k:=by
 unfold inK;rw[t6,H2,x7];cases h:inB t b k<;>simp[h]
theorem inK_len (t:Tb) (b:Int) (k:Nat):(inK t b k).length<=k:=by
 unfold inK;rw[m9];exact E7 (B4 _ _) (by rw[D9];exact j7 _)
def ins (t:Tb) (b:Int):List Int:=if t.count b=0 then[]else inK t b t.logical.toNat
theorem look_put1 {α:Type} (k:Int) (v:α) (j:Int):∀l:List (Int×α),look (put1 l k v) j=if j=k then some v else look l j
 | []=>by simp only[put1,look]
 | x::l=>by
  simp only[put1]
  by_cases h:k=x.1
  ·rw[d8 h];simp only[look]
   by_cases h2:j=k
   ·rw[d8 h2,d8 h2]
   ·rw[d7 h2,d7 h2,d7 (λe=>h2 (e.trans h.symm))]
  ·rw[d7 h];simp only[look]
   by_cases h2:j=x.1
   ·rw[d8 h2,d8 h2,d7 (λe=>h (e.symm.trans h2))]
   ·rw[d7 h2,d7 h2,look_put1 k v j l]
end Tb
namespace V
def behind (a b:Fnd):Bool:=if a.en.seq≠b.en.seq then decide (a.en.seq<b.en.seq)else b.whole&& !a.whole
def topsStep (out:List Fnd) (f:Fnd):List Fnd:=match out with
 | []=>[f]
 | h::t=>if behind h f then[f]else if behind f h then h::t else h::t++[f]
def tops (l:List Fnd):List Fnd:=l.foldl topsStep []
def all (N:Nand):List Fnd:=(List.range N.blocks).flatMap λb=>(List.range N.pages).flatMap λr=>R.all N (b:Nat) (r:Nat)
def of (l:List Fnd) (k:Int):List Fnd:=l.filter λf=>f.en.lpn==k
def holds (l:List Fnd):List Int:=(tops (l.filter λf=>f.whole)).map (·.block)
def blankRow (N:Nand) (b r:Int):Bool:=(M.rowN N b r N.dies).all λx=>x.2==2||x.2==4
def last (N:Nand) (f:Fnd):Bool:=((List.range N.pages).all λr:Nat=>decide ((r:Int)<=f.row)||blankRow N f.block r)&&(M.look N (G.parity f.mask f.block f.row) f.block f.row).2 !=4
end V
end Go.Proofs.YtpakpgkdpofbhaaGreat
namespace Go.Proofs.YtpakpgkdpofbhaaGreat
open Go Go.RowKit
def kI (k:Int):Value:=iI k
theorem a6O:KeyOk Tryz.prog 3 kI where
 now:=⟨_,Tryz.underlying3,λa b=> .inr rfl⟩
 eq:=λa b w=>by kernel_rfl
 check:=λe a w=>by kernel_rfl
 bits:=λa=>by simp[kI,Instr.sameBits]
theorem a5H:Tryz.prog.underlying 233=some (.map 3 151):=by kernel_rfl
theorem a7h:Tryz.prog.underlying 234=some (.map 3 3):=by kernel_rfl
def atL (a:AtV):List Value:=[iI a.block,iI a.row,iI a.slot,iI a.mask,iI a.seq,iI a.role]
def atV (a:AtV):Value:= .agg (atL a).toArray
def atM (l:List (Int×AtV)):List (Int×Value):=l.map λx=>(x.1,atV x.2)
def cnM (l:List (Int×Int)):List (Int×Value):=l.map λx=>(x.1,iI x.2)
def plL (b r s:Int):List Value:=[iI b,iI r,iI s]
def plV (b r s:Int):Value:= .agg (plL b r s).toArray
theorem a6h {α:Type} (f:α->Value) (k:Int):∀l:List (Int×α),O7 (l.map λx=>(x.1,f x.2)) k=(Tb.look l k).map f
 | []=>rfl
 | x::l=>by
  simp only[x5,O7,Tb.look];split
  ·rfl
  ·exact a6h f k l
theorem a8A {α:Type} (f:α->Value) (k:Int) (v:α):∀l:List (Int×α),a1n (l.map λx=>(x.1,f x.2)) k (f v)=(Tb.put1 l k v).map λx=>(x.1,f x.2)
 | []=>rfl
 | x::l=>by
  simp only[x5,a1n,Tb.put1];split
  ·rfl
  ·rw[a8A f k v l];rfl
theorem a8D (l:List (Int×AtV)) (k:Int):O7 (atM l) k=(Tb.look l k).map atV:=a6h atV k l
theorem a5x (l:List (Int×Int)) (k:Int):O7 (cnM l) k=(Tb.look l k).map (Value.int .i64):=a6h (Value.int .i64) k l
theorem b4G (l:List (Int×AtV)) (k:Int) (v:AtV):a1n (atM l) k (atV v)=atM (Tb.put1 l k v):=a8A atV k v l
theorem b0S (l:List (Int×Int)) (k v:Int):a1n (cnM l) k (Value.int .i64 v)=cnM (Tb.put1 l k v):=a8A (Value.int .i64) k v l
theorem a5V (o:Option AtV):(o.map atV).getD (atV AtV.zero)=atV (o.getD AtV.zero):=by cases o<;>rfl
theorem a3b (o:Option Int):(o.map (Value.int .i64)).getD (Value.int .i64 0)=Value.int .i64 (o.getD 0):=by cases o<;>rfl
theorem a7L {α β:Type} (o:Option α) (f:α->β):(o.map f).isSome=o.isSome:=by cases o<;>rfl
def TbP (q:Nat) (t:Tb) (x:Nat×Nat):List Atom:=[.pt q 236 [iI t.logical, .map (some x.1), .map (some x.2),iI t.next],U8 x.1 kI (atM t.at_),U8 x.2 kI (cnM t.cnt)]
def TbA (q:Nat) (t:Tb):Atom:=exA λx:Nat×Nat=>TbP q t x
theorem b6O (n:Int):(if(65536:Int)<if(0:Int)>n then 0 else n then 65536 else if(0:Int)>n then 0 else n)=min (max n 0) 65536:=by
 by_cases h:(0:Int)>n
 ·simp only[d8 h];rw[d7 (by omega)];omega
 ·simp only[d7 h];split<;>omega
theorem b2K (n:Int):FP 128 [iI n] [] (λv As=>∃q,v=pp q/\As=[TbA q (Tb.new n)]):=by
 refine FE [0] Tryz.func128 λX F hX=>?_;refine J.q λbs=>?_;rw[b6O];refine J.turn1 [1] rfl (As:=[U8 (bs 0) kI (atM [])]) (λh s=>?_) rfl ?_
 ·refine⟨λ_=>0,λi A hA=>?_⟩;cases i with
  | zero=>simp at hA;subst hA;exact⟨#[],0,res_some.2 ⟨rfl,s.get (i:=0) rfl⟩,rfl,by simp,by simp⟩
  | succ k=>simp at hA
 refine J.turn1 [2] rfl (As:=[U8 (bs (0+1)) kI (cnM [])]) (λh s=>?_) rfl ?_
 ·refine⟨λ_=>0,λi A hA=>?_⟩;cases i with
  | zero=>simp at hA;subst hA;exact⟨#[],0,res_some.2 ⟨rfl,s.get (i:=0) rfl⟩,rfl,by simp,by simp⟩
  | succ k=>simp at hA
 refine J.close (f:=λx:Nat×Nat=>TbP (bs (0+1+1)) (Tb.new n) x) (bs 0,bs (0+1)) [3,1,2] rfl rfl rfl ?_;refine J.qr [3] λ_=>?_;exact⟨bs (0+1+1),rfl,rfl⟩
theorem a2W (q:Nat) (t:Tb) (k:Int):FP 97 [pp q,iI k] [TbA q t]
  (Ps (.tuple #[atV ((Tb.look t.at_ k).getD AtV.zero), .bool (Tb.look t.at_ k).isSome]) [TbA q t]):=by
 refine FE [2,0] Tryz.func97 λX F hX=>?_;refine J.o (α:=(Nat×Nat)) 1 λx=>?_;refine J.qF λ_=>?_;refine J.q λ_=>?_;refine J.v (.tuple #[atV ((Tb.look t.at_ k).getD AtV.zero), .bool (Tb.look t.at_ k).isSome]) rfl rfl (λhg a w he hs=>?_) ?_
 ·refine(H3 (key:=k) a6O a5H (z:=atV AtV.zero) (λw=>by kernel_rfl) rfl rfl rfl rfl he rfl rfl (hs.get (i:=2) rfl)).trans ?_;simp only[a8D,a5V,a7L]
 refine J.cl (λx:Nat×Nat=>TbP q t x) x [1,2,3] ?_;exact J.qx [1]
theorem b2L (q:Nat) (t:Tb):FP 124 [pp q] [TbA q t]
  (Ps (iI t.at_.length) [TbA q t]):=by
 refine FE [2] Tryz.func124 λX F hX=>?_;refine J.o (α:=(Nat×Nat)) 1 λx=>?_;refine J.qF λ_=>?_;refine J.q λ_=>?_;refine J.v (iI t.at_.length) rfl rfl (λhg a w he hs=>?_) ?_
 ·refine(a6q a5H rfl rfl he rfl (hs.get (i:=2) rfl)).trans ?_;rw[atM,m9]
 refine J.cl (λx:Nat×Nat=>TbP q t x) x [1,2,3] ?_;exact J.qx [1]
theorem b9R (q:Nat) (t:Tb):FP 257 [pp q] [TbA q t]
  (Ps (iI t.next) [TbA q t]):=by
 refine FE [2] Tryz.func257 λX F hX=>?_;refine J.o (α:=(Nat×Nat)) 1 λx=>?_;refine J.qF λ_=>?_;refine J.q λ_=>?_;refine J.cl (λx:Nat×Nat=>TbP q t x) x [1,2,3] ?_;exact J.qx [1]
theorem X5 (q:Nat) (t:Tb) (k:Int):FP 144 [pp q,iI k] [TbA q t]
  (Ps (iI (t.count k)) [TbA q t]):=by
 refine FE [2,0] Tryz.func144 λX F hX=>?_;refine J.o (α:=(Nat×Nat)) 1 λx=>?_;refine J.qF λ_=>?_;refine J.q λ_=>?_;refine J.v (iI (t.count k)) rfl rfl (λhg a w he hs=>?_) ?_
 ·refine(H3 (key:=k) a6O a7h (z:=iI 0) (λw=>by kernel_rfl) rfl rfl rfl rfl he rfl rfl (hs.get (i:=3) rfl)).trans ?_;simp only[a5x,a3b];rfl
 refine J.cl (λx:Nat×Nat=>TbP q t x) x [1,2,3] ?_;exact J.qx [1]
theorem a7n (q:Nat) (t:Tb) (e:En) (b r s m:Int) (hs: -9223372036854775808<=e.seq/\e.seq<9223372036854775807) (hc:∀k,0<=Tb.count t k/\Tb.count t k<=1000000):FP 131 [pp q,enV e,plV b r s,iI m] [TbA q t]
  (Ps (.bool (Tb.putB t e)) [TbA q (Tb.put t e b r s m)]):=by
 refine FE [2,0,0,0] Tryz.func131 λX F hX=>?_;refine J.o (α:=(Nat×Nat)) 1 λx=>?_;refine J.pn 1 (.of [0,4,8,12,17,20,24,28,32,37,40,44,48,53,56,60,64,68,73,76,80,84,89,92,96,100,104,109,112,116,120]) [] [1,2,3,4,5] λ_ _=>?_;refine J.run hX tk 400 (λb16=>rfl) (λb16=>?_) (λb16=>?_)
 ·(repeat' (first | exact Conj.nil | refine Conj.cons ?_ ?_ | exact rfl | exact hq | (rw[hq];rfl) | (rw[(i7 _).mp hq]) | intro hq | omega | (simp;done) | (simp_all;done)))
 refine J.qd (λ_ h1=>?_) λ_ h1=>?_
 ·refine J.cl (λx:Nat×Nat=>TbP q t x) x [1,2,3] ?_;refine J.qr [1] λ_=>?_;have ho:Tb.ok t e=false:=by unfold Tb.ok;rw[p9];exact h1
  have hp:Tb.putB t e=false:=by unfold Tb.putB;rw[ho];rfl
  exact⟨by rw[hp],by rw[Tb.put,d7 (by rw[hp];simp)];rfl⟩
 have ho:Tb.ok t e=true:=by unfold Tb.ok;rw[i7];exact h1
 refine J.pq (.of [0,4,8,13,16,21,25,28,32,36,42,46,48]) [12] [1,2,3,4,5] λ_ _=>?_;refine J.vT (.tuple #[atV ((Tb.look t.at_ e.lpn).getD AtV.zero), .bool (Tb.look t.at_ e.lpn).isSome]) rfl rfl (λ_ a w he hC=>?_) ?_
 ·refine(H3 (key:=e.lpn) a6O a5H (z:=atV AtV.zero) (λw=>by kernel_rfl) rfl rfl rfl rfl he rfl rfl (hC rfl _ (r8 (i:=2) rfl))).trans ?_;simp only[a8D,a5V,a7L]
 rcases hlk:Tb.look t.at_ e.lpn with _ | a
 ·have hel:Tb.elder t e=false:=by simp[Tb.elder,hlk]
  have hp:Tb.putB t e=true:=by rw[Tb.putB,ho,hel];rfl
  have hc1:Tb.cnt1 t e=t.cnt:=by simp[Tb.cnt1,hlk]
  refine J.q λbw=>?_;refine J.cF ?_;refine J.qF λ_=>?_;refine J.pq (.of [0,4,8,13,16,21,25,28,35]) [8] [1,2,3,4,5,6] λ_ _=>?_;refine J.vT (iI ((Tb.look (t.cnt) b).getD 0)) rfl rfl (λ_ a w he hC=>?_) ?_
  ·refine(H3 (key:=b) a6O a7h (z:=iI 0) (λw=>by kernel_rfl) rfl rfl rfl rfl he rfl rfl (hC rfl _ (r8 (i:=3) rfl))).trans ?_;simp only[a5x,a3b]
  have hb2: -1<=(Tb.look (t.cnt) b).getD 0/\(Tb.look (t.cnt) b).getD 0<=1000000:=⟨by have:=hc b;unfold Tb.count at this;omega,(hc b).2⟩;refine J.q λ_=>?_;refine J.mapUpdate hX a6O a7h b 3 rfl rfl rfl rfl rfl rfl rfl rfl rfl rfl rfl rfl (λ_=>rfl) (by rw[b0S];rfl) ⟨trivial,?_⟩;refine J.pq (.of [0,4,8,13,16,21,25,28,32,37,40,45,48,55]) [13] [1,2,3,4,5,6] λ_ _=>?_;refine J.mapUpdate hX a6O a5H e.lpn 2 rfl rfl rfl rfl rfl rfl rfl rfl rfl rfl rfl rfl (λ_=>rfl) (show _=some (_::_::U8 _ _ (a1n _ _ (atV ⟨b,r,s,m,e.seq,e.role⟩))::_)from rfl) ⟨trivial,?_⟩;rw[b4G];refine J.pq (.of [0,5,8,12,16,21,24]) [] [1,2,3,4,5,6] λ_ _=>?_;have hput:Tb.put t e b r s m=⟨t.logical,Tb.put1 t.at_ e.lpn ⟨b,r,s,m,e.seq,e.role⟩,Tb.put1 (t.cnt) b ((Tb.look (t.cnt) b).getD 0+1),if e.seq>=t.next then e.seq+1 else t.next⟩:=by
   rw[Tb.put,d8 hp,Tb.cnt2,hc1]
  refine J.qd (λ_ h5=>?_) λ_ h5=>?_
  ·refine J.q λ_=>?_;refine J.cl (λx:Nat×Nat=>TbP q ⟨t.logical,Tb.put1 t.at_ e.lpn ⟨b,r,s,m,e.seq,e.role⟩,Tb.put1 (t.cnt) b ((Tb.look (t.cnt) b).getD 0+1),e.seq+1⟩ x) x [1,2,3] ?_;refine J.qr [1] λ_=>?_;exact⟨by rw[hp],by rw[hput,d8 (by simpa only[c9,c8]using h5)];rfl⟩
  ·refine J.cl (λx:Nat×Nat=>TbP q ⟨t.logical,Tb.put1 t.at_ e.lpn ⟨b,r,s,m,e.seq,e.role⟩,Tb.put1 (t.cnt) b ((Tb.look (t.cnt) b).getD 0+1),t.next⟩ x) x [1,2,3] ?_;refine J.qr [1] λ_=>?_;exact⟨by rw[hp],by rw[hput,d7 (by simpa only[c9,c8]using h5)];rfl⟩
 ·refine J.q λbw=>?_;refine J.cond rfl (λh2=>?_) (λh2=>?_)
  ·refine J.cl (λx:Nat×Nat=>TbP q t x) x [1,2,3] ?_;refine J.qr [1] λ_=>?_;have hel:Tb.elder t e=true:=by rw[Tb.elder,hlk];exact h2
   have hp:Tb.putB t e=false:=by rw[Tb.putB,ho,hel];rfl
   exact⟨by rw[hp],by rw[Tb.put,d7 (by rw[hp];simp)];rfl⟩
  have hel:Tb.elder t e=false:=by rw[Tb.elder,hlk];exact h2
  have hp:Tb.putB t e=true:=by rw[Tb.putB,ho,hel];rfl
  have hc1:Tb.cnt1 t e=Tb.put1 t.cnt a.block (t.count a.block-1):=by simp[Tb.cnt1,hlk]
  have hb1:=hc a.block;refine J.qT λ_=>?_;refine J.pq (.of [0,4,8,13,16,20,25,29,32,39]) [9] [1,2,3,4,5,6] λ_ _=>?_;refine J.vT (iI (t.count a.block)) rfl rfl (λ_ a' w he hC=>?_) ?_
  ·refine(H3 (key:=a.block) a6O a7h (z:=iI 0) (λw=>by kernel_rfl) rfl rfl rfl rfl he rfl rfl (hC rfl _ (r8 (i:=3) rfl))).trans ?_;simp only[a5x,a3b];rfl
  refine J.q λ_=>?_;refine J.mapUpdate hX a6O a7h a.block 3 rfl rfl rfl rfl rfl rfl rfl rfl rfl rfl rfl rfl (λ_=>rfl) (by rw[b0S];rfl) ⟨trivial,?_⟩;refine J.pq (.of [0,4,8,13,16,21,25,28,35]) [8] [1,2,3,4,5,6] λ_ _=>?_;refine J.vT (iI ((Tb.look (Tb.put1 t.cnt a.block (t.count a.block-1)) b).getD 0)) rfl rfl (λ_ a w he hC=>?_) ?_
  ·refine(H3 (key:=b) a6O a7h (z:=iI 0) (λw=>by kernel_rfl) rfl rfl rfl rfl he rfl rfl (hC rfl _ (r8 (i:=3) rfl))).trans ?_;simp only[a5x,a3b]
  have hb2 : -1 ≤ (Tb.look (Tb.put1 t.cnt a.block (t.count a.block - 1)) b).getD 0 ∧ (Tb.look (Tb.put1 t.cnt a.block (t.count a.block - 1)) b).getD 0 ≤ 1000000 := by
     rw[Tb.look_put1];split
     ·show-1<=t.count a.block-1/\t.count a.block-1<=1000000;omega
     ·have:=hc b;unfold Tb.count at this;omega
  refine J.q λ_=>?_;refine J.mapUpdate hX a6O a7h b 3 rfl rfl rfl rfl rfl rfl rfl rfl rfl rfl rfl rfl (λ_=>rfl) (by rw[b0S];rfl) ⟨trivial,?_⟩;refine J.pq (.of [0,4,8,13,16,21,25,28,32,37,40,45,48,55]) [13] [1,2,3,4,5,6] λ_ _=>?_;refine J.mapUpdate hX a6O a5H e.lpn 2 rfl rfl rfl rfl rfl rfl rfl rfl rfl rfl rfl rfl (λ_=>rfl) (show _=some (_::_::U8 _ _ (a1n _ _ (atV ⟨b,r,s,m,e.seq,e.role⟩))::_)from rfl) ⟨trivial,?_⟩;rw[b4G];refine J.pq (.of [0,5,8,12,16,21,24]) [] [1,2,3,4,5,6] λ_ _=>?_;have hput:Tb.put t e b r s m=⟨t.logical,Tb.put1 t.at_ e.lpn ⟨b,r,s,m,e.seq,e.role⟩,Tb.put1 (Tb.put1 t.cnt a.block (t.count a.block-1)) b ((Tb.look (Tb.put1 t.cnt a.block (t.count a.block-1)) b).getD 0+1),if e.seq>=t.next then e.seq+1 else t.next⟩:=by
   rw[Tb.put,d8 hp,Tb.cnt2,hc1]
  refine J.qd (λ_ h5=>?_) λ_ h5=>?_
  ·refine J.q λ_=>?_;refine J.cl (λx:Nat×Nat=>TbP q ⟨t.logical,Tb.put1 t.at_ e.lpn ⟨b,r,s,m,e.seq,e.role⟩,Tb.put1 (Tb.put1 t.cnt a.block (t.count a.block-1)) b ((Tb.look (Tb.put1 t.cnt a.block (t.count a.block-1)) b).getD 0+1),e.seq+1⟩ x) x [1,2,3] ?_;refine J.qr [1] λ_=>?_;exact⟨by rw[hp],by rw[hput,d8 (by simpa only[c9,c8]using h5)];rfl⟩
  ·refine J.cl (λx:Nat×Nat=>TbP q ⟨t.logical,Tb.put1 t.at_ e.lpn ⟨b,r,s,m,e.seq,e.role⟩,Tb.put1 (Tb.put1 t.cnt a.block (t.count a.block-1)) b ((Tb.look (Tb.put1 t.cnt a.block (t.count a.block-1)) b).getD 0+1),t.next⟩ x) x [1,2,3] ?_;refine J.qr [1] λ_=>?_;exact⟨by rw[hp],by rw[hput,d7 (by simpa only[c9,c8]using h5)];rfl⟩
theorem b3P (q:Nat) (t:Tb) (n:Nat) (hlog:t.logical=(n:Int)) (hn:n<=65536) (b:Int):FP 142 [pp q,iI b] [TbA q t]
  (λv As=>∃a c,v=slv a (t.ins b).length c/\As=[TbA q t,l5 3 1 a (t.ins b).length c (n7 (t.ins b))]):=by
 refine FE [2,0] Tryz.func142 λX F hX=>?_;refine J.qp (X5 q t b) [1] λ_=>?_;refine J.turn1 [] rfl (As:=[l5 3 1 none 0 0 (n7 [])]) (λh s=>Sep.one ⟨rfl,rfl,rfl⟩) rfl ?_;refine J.qd (λ_ h1=>?_) λ_ h1=>?_
 ·simp only[m5]at h1;refine J.qr [1,2] λ_=>?_;have:t.ins b=[]:=by unfold Tb.ins;rw[d8 h1]
  rw[this];exact⟨none,0,rfl,rfl⟩
 simp only[j9,D4]at h1;have hins:t.ins b=t.inK b n:=by unfold Tb.ins;rw[d7 h1,hlog];rfl
 refine J.o (α:=(Nat×Nat)) 1 λx=>?_;refine J.q λ_=>?_;refine J.l (α:=(Nat×Option Nat×Nat)) (λz=>z.1<=n) (λz=>[si 17 z.1,si 16 t.logical,sv 5 (slv z.2.1 (t.inK b z.1).length z.2.2),⟨0,pp q,2, .tt⟩,si 1 b]) [2] (λz=>[l5 3 1 z.2.1 (t.inK b z.1).length z.2.2 (n7 (t.inK b z.1))]) (λz=>n-z.1) ((0,none,0)) (j4 _) λz hI=>?_;obtain⟨k,a1,c1⟩:=z;dsimp only at hI ⊢;refine J.qd (λ_ h2=>?_) λ_ h2=>?_
 ·simp only[c9]at h2;have hkl:=t.inK_len b k;refine J.q λ_=>?_;refine J.v (.tuple #[atV ((Tb.look t.at_ k).getD AtV.zero), .bool (Tb.look t.at_ k).isSome]) rfl rfl (λhg a w he hs=>?_) ?_
  ·refine(H3 (key:=(k:Int)) a6O a5H (z:=atV AtV.zero) (λw=>by kernel_rfl) rfl rfl rfl rfl he rfl rfl (hs.get (i:=3) rfl)).trans ?_;simp only[a8D,a5V,a7L]
  have hin:((Tb.look t.at_ k).isSome&&(((Tb.look t.at_ k).getD AtV.zero).block==b))=t.inB b k:=by
   unfold Tb.inB;cases Tb.look t.at_ k<;>rfl
  refine J.qd (λ_ h3=>?_) λ_ h3=>?_
  ·have hs:t.inK b (k+1)=t.inK b k++[(k:Int)]:=by rw[Tb.inK_succ,d8 (hin.symm.trans h3)]
   refine J.q λ_=>?_;refine J.append hX tk 2 6 0 rfl rfl rfl rfl rfl rfl rfl rfl rfl rfl rfl rfl rfl rfl rfl rfl ?_ ?_ (λ_=>rfl) λa3 c3=>⟨_,(congrArg (λz=>Q2 _ 2 (l5 _ _ _ _ _ z)) (U9 _ (k:Int)).symm).trans rfl,trivial,?_⟩
   ·simp only[maxLen];omega
   ·omega
   rw[<- hs,show(t.inK b k).length+1=(t.inK b (k+1)).length from by rw[hs];simp];refine J.q λ_=>?_;refine J.n ((k+1,a3,c3)) (by dsimp only;omega) (by dsimp only;omega) [0,1,2,3,4]
  ·have hs:t.inK b (k+1)=t.inK b k:=by rw[Tb.inK_succ,d7 (by rw[<- hin,h3];simp)]
   rw[<- hs];refine J.q λ_=>?_;refine J.n ((k+1,a1,c1)) (by dsimp only;omega) (by dsimp only;omega) [0,1,2,3,4]
 ·simp only[c8]at h2;obtain rfl:k=n:=by omega
  refine J.q λ_=>?_;refine J.cl (λx:Nat×Nat=>TbP q t x) x [1,3,4] ?_;refine J.qr [1,2] λ_=>?_;rw[hins];exact⟨a1,c1,rfl,rfl⟩
structure Sb where
 wear:Int
 bad:Int
 used:Bool
 held:Bool
def Sb.zero:Sb:=⟨0,0,false,false⟩
def sbL (s:Sb):List Value:=[iI s.wear,iI s.bad, .bool s.used, .bool s.held]
structure Tl where
 d:Nat
 b:Nat
 p:Nat
 l:List Sb
 dead:Int
namespace Tl
def new (d b p:Nat):Tl:=⟨d,b,p,List.replicate b Sb.zero,0⟩
def has (t:Tl) (k:Int):Bool:=decide (0<=k)&&decide (k<t.b)
def at_ (t:Tl) (k:Int):Sb:=t.l.getD k.toNat Sb.zero
def adr (t:Tl) (g:Nat) (k:Int):Option Addr:=if t.has k=true then some ⟨g,k.toNat*4,none⟩else none
def set (t:Tl) (k:Int) (s:Sb):Tl:=if t.has k=true then⟨t.d,t.b,t.p,t.l.set k.toNat s,t.dead⟩else t
def wear (t:Tl) (k:Int):Int:=if t.has k=true then(t.at_ k).wear else 0
def hasDie (t:Tl) (d:Int):Bool:=decide (0<=d)&&decide (d<t.d)
end Tl
def TlP (q:Nat) (t:Tl) (g:Nat):List Atom:=[.pt q 216 [iI t.d,iI t.b,iI t.p, .slice (some ⟨g,0,none⟩) t.b t.b,iI t.dead], .pt g 225 (t.l.flatMap sbL)]
def TlA (q:Nat) (t:Tl):Atom:=exA λg:Nat=>TlP q t g
theorem a0n {α:Type} (f:α->List Value) (w:Nat) (hw:∀x,(f x).length=w):∀{l:List α} {k:Nat} {x:α},l[k]? =some x->∀j,j<w->(l.flatMap f)[k*w+j]? =(f x)[j]?
 | [],k,x,h,j,hj=>by simp at h
 | y::l,0,x,h,j,hj=>by
  simp only[R0,l8]at h;subst h;rw[L7,I8,q9,t7 (by rw[hw];exact hj)]
 | y::l,k+1,x,h,j,hj=>by
  rw[q9,y6 (by rw[hw,Q6];omega),hw,show(k+1)*w+j-w=k*w+j by rw[Q6];omega];exact a0n f w hw (by simpa using h) j hj
theorem I2 {α:Type} (f:α->List Value) (w:Nat) (hw:∀x,(f x).length=w) (j:Nat) (v:Value):∀{l:List α} {k:Nat} {x y:α},l[k]? =some x->j<w->(f x).set j v=f y->(l.flatMap f).set (k*w+j) v=(l.set k y).flatMap f
 | [],k,x,y,h,hj,e=>by simp at h
 | z::l,0,x,y,h,hj,e=>by
  simp only[R0,l8]at h;subst h;rw[L7,I8,q9,H8 _ _ (by rw[hw];exact hj),e];rfl
 | z::l,k+1,x,y,h,hj,e=>by
  rw[q9,P8 _ _ (by rw[hw,Q6];omega),hw,show(k+1)*w+j-w=k*w+j by rw[Q6];omega,I2 f w hw j v (by simpa using h) hj e];rfl
theorem b0d (s:Sb):(sbL s).length=4:=rfl
namespace Tl
theorem get_at {t:Tl} (hl:t.l.length=t.b) {k:Int} (h:t.has k=true):t.l[k.toNat]? =some (t.at_ k):=by
 simp only[has,i9,c9]at h;rw[at_,d6,d5 (by omega),j5]
theorem cell_at {t:Tl} (hl:t.l.length=t.b) {k:Int} (h:t.has k=true) (j:Nat) (hj:j<4):(t.l.flatMap sbL)[k.toNat*4+j]? =(sbL (t.at_ k))[j]?:=a0n sbL 4 b0d (get_at hl h) j hj
theorem set_at {t:Tl} (hl:t.l.length=t.b) {k:Int} (h:t.has k=true) (j:Nat) (hj:j<4) (v:Value) (s:Sb) (e:(sbL (t.at_ k)).set j v=sbL s):(t.l.flatMap sbL).set (k.toNat*4+j) v=((t.set k s).l.flatMap sbL):=by
 rw[set,d8 h];exact I2 sbL 4 b0d j v (get_at hl h) hj e
end Tl
namespace Tl
theorem len_l (t:Tl):(t.l.flatMap sbL).length=t.l.length*4:=by
 induction t.l with
 | nil=>rfl
 | cons x l ih=>rw[q9,f9,ih,b0d,m6];omega
theorem set_d (t:Tl) (k:Int) (s:Sb):(t.set k s).d=t.d:=by unfold set;split<;>rfl
theorem set_b (t:Tl) (k:Int) (s:Sb):(t.set k s).b=t.b:=by unfold set;split<;>rfl
theorem set_p (t:Tl) (k:Int) (s:Sb):(t.set k s).p=t.p:=by unfold set;split<;>rfl
theorem set_dead (t:Tl) (k:Int) (s:Sb):(t.set k s).dead=t.dead:=by unfold set;split<;>rfl
def wore (t:Tl) (k n:Int):Tl:=t.set k {t.at_ k with wear:=if n>(t.at_ k).wear then n else(t.at_ k).wear}
def bad (t:Tl) (d k:Int):Tl:=if t.hasDie d=true then t.set k {t.at_ k with bad:=L.with_ (t.at_ k).bad d}else t
def andN (a b:Int):Int:=IntKind.i64.wrap ((BitVec.ofInt IntKind.i64.bits a&&& ~~~BitVec.ofInt IntKind.i64.bits b).toNat:Int)
def alive (t:Tl):Int:=andN (L.all t.d) t.dead
def mask (t:Tl) (k:Int):Int:=if t.has k=true then andN t.alive (t.at_ k).bad else 0
def usable (t:Tl) (k:Int):Bool:=decide (G.slots (t.mask k)>0)
def blank (t:Tl) (k:Int):Bool:=t.has k&& !(t.at_ k).used
def held (t:Tl) (k:Int):Bool:=t.has k&&(t.at_ k).held
end Tl
theorem b2I (d b p:Nat) (hg:D8 d b p=true):FP 148 [.agg #[iI d,iI b,iI p]] [] (λv As=>∃q,v=pp q/\As=[TlA q (Tl.new d b p)]):=by
 have hbd:(3<=d/\d<=6)/\(8<=b/\b<=16)/\(2<=p/\p<=8):=by simp[D8]at hg;omega
 refine FE [0] Tryz.func148 λX F hX=>?_;refine J.qp (a5o d b p) [] λ_=>?_;rw[hg];refine J.qF λ_=>?_;refine J.pq (.of [1,4,9,14,16,23,24]) [4,5,6] [1] λ_ _=>?_;refine J.mk 3 λdd=>?_;refine J.q λnn=>?_;rw[show(List.replicate b [Value.int .i64 0,Value.int .i64 0,Value.bool false,Value.bool false]).flatten=(Tl.new d b p).l.flatMap sbL from by rw[Tl.new,List.flatMap_def,X0];rfl];refine J.cl (λg:Nat=>TlP (nn 0) (Tl.new d b p) g) dd [3,2] ?_;refine J.qr [3] λ_=>?_;exact⟨nn 0,rfl,rfl⟩
theorem b9Q:FP 148 [.agg #[iI 0,iI 0,iI 0]] [] (Ps (.pointer none) []):=by
 refine FE [0] Tryz.func148 λX F hX=>?_;refine J.qp (a5o 0 0 0) [] λ_=>?_;rw[show D8 0 0 0=false from by decide];refine J.qT λ_=>?_;exact J.qx []
theorem a6k (q:Nat) (t:Tl) (hb:t.b<=1000) (g:Nat) (k:Int):FP 154 [pp q,iI k] (TlP q t g) (Ps (.pointer (t.adr g k)) (TlP q t g)):=by
 refine FE [2,0] Tryz.func154 λX F hX=>?_;refine J.run hX tk 400 (λb9=>rfl) (λb9=>?_) (λb9=>?_)
 ·(repeat' (first | exact Conj.nil | refine Conj.cons ?_ ?_ | exact rfl | exact hq | (rw[hq];rfl) | (rw[(i7 _).mp hq]) | intro hq | omega | (simp;done) | (simp_all;done)))
 refine J.qd (λ_ h1=>?_) λ_ h1=>?_
 ·have hh:t.has k=false:=by simp[Tl.has]at h1 ⊢;omega
  refine J.qr [1,2] λ_=>?_;exact⟨by rw[Tl.adr,hh];rfl,rfl⟩
 ·have hh:t.has k=true:=by simp[Tl.has]at h1 ⊢;omega
  have hh2:=hh;simp only[Tl.has,i9,c9]at hh2;refine J.qr [1,2] λ_=>?_;exact⟨by rw[Tl.adr,hh,d8 rfl];simp,rfl⟩
theorem a4V (q:Nat) (t:Tl) (hb:t.b<=1000) (hl:t.l.length=t.b) (k:Int):FP 233 [pp q,iI k] [TlA q t] (Ps (iI (t.wear k)) [TlA q t]):=by
 refine FE [2,0] Tryz.func233 λX F hX=>?_;refine J.o (α:=Nat) 1 λg=>?_;refine J.qp (a6k q t hb g k) [1,2] λ_=>?_;cases hh:t.has k with
 | false=>
  rw[Tl.adr,hh,d7 (by simp)];refine J.qF λ_=>?_;refine J.q λ_=>?_;refine J.cl (λg:Nat=>TlP q t g) g [1,2] ?_;refine J.qr [1] λ_=>?_;exact⟨by rw[Tl.wear,hh];rfl,rfl⟩
 | true=>
  rw[Tl.adr,hh,d8 rfl];refine J.qT λ_=>?_;refine J.q λ_=>?_;refine J.v (iI (t.at_ k).wear) rfl rfl (λhg a w he hs=>?_) ?_
  ·exact x9 tk rfl rfl he rfl rfl rfl (hs.get (i:=2) rfl) (t.cell_at hl hh 0 (by omega))
  refine J.cl (λg:Nat=>TlP q t g) g [1,2] ?_;refine J.qr [1] λ_=>?_;exact⟨by rw[Tl.wear,hh];rfl,rfl⟩
theorem a9Y (q:Nat) (t:Tl) (hb:t.b<=1000) (hl:t.l.length=t.b) (k n:Int):FP 149 [pp q,iI k,iI n] [TlA q t] (Ps (.tuple #[]) [TlA q (t.wore k n)]):=by
 refine FE [2,0,0] Tryz.func149 λX F hX=>?_;refine J.o (α:=Nat) 1 λg=>?_;refine J.qp (a6k q t hb g k) [1,2] λ_=>?_;cases hh:t.has k with
 | false=>
  rw[Tl.adr,hh,d7 (by simp)];refine J.qF λ_=>?_;refine J.q λ_=>?_;refine J.cl (λg:Nat=>TlP q t g) g [1,2] ?_;refine J.q λ_=>?_;refine J.f [1] ?_;exact⟨rfl,by rw[Tl.wore,Tl.set,hh];rfl⟩
 | true=>
  rw[Tl.adr,hh,d8 rfl];refine J.qT λ_=>?_;refine J.q λ_=>?_;refine J.v (iI (t.at_ k).wear) rfl rfl (λhg a w he hs=>?_) ?_
  ·exact x9 tk rfl rfl he rfl rfl rfl (hs.get (i:=2) rfl) (t.cell_at hl hh 0 (by omega))
  refine J.q λ_=>?_;refine J.s1 2 ((t.wore k n).l.flatMap sbL) ?_ ?_ ?_
  ·rw[t.len_l,hl];simp only[Tl.has,i9,c9]at hh;omega
  ·exact t.set_at hl hh 0 (by omega) _ _ rfl
  refine J.close (f:=λg:Nat=>TlP q (t.wore k n) g) g [1,2] rfl (by simp only[TlP,Tl.wore,Tl.set_d,Tl.set_b,Tl.set_p,Tl.set_dead];rfl) rfl ?_;refine J.q λ_=>?_;refine J.f [1] ?_;exact⟨rfl,rfl⟩
theorem b6K (q:Nat) (t:Tl) (g:Nat) (k:Int):FP 171 [pp q,iI k] (TlP q t g) (Ps (.bool (t.hasDie k)) (TlP q t g)):=by
 refine FE [2,0] Tryz.func171 λX F hX=>?_;refine J.run hX tk 400 (λb30=>rfl) (λb30=>?_) (λb30=>?_)
 ·(repeat' (first | exact Conj.nil | refine Conj.cons ?_ ?_ | exact rfl | exact hq | (rw[hq];rfl) | (rw[(i7 _).mp hq]) | intro hq | omega | (simp;done) | (simp_all;done)))
 refine J.qr [1,2] λ_=>?_;exact⟨by simp[Tl.hasDie],rfl⟩
theorem b2J (q:Nat) (t:Tl) (hb:t.b<=1000) (hl:t.l.length=t.b) (d k:Int):FP 227 [pp q,iI d,iI k] [TlA q t] (Ps (.tuple #[]) [TlA q (t.bad d k)]):=by
 refine FE [2,0,0] Tryz.func227 λX F hX=>?_;refine J.o (α:=Nat) 1 λg=>?_;refine J.qp (a6k q t hb g k) [1,2] λ_=>?_;cases hh:t.has k with
 | false=>
  rw[Tl.adr,hh,d7 (by simp)];refine J.q λ_=>?_;refine J.v (.bool false) rfl rfl (λhg a w he hs=>absurd hg (by simp[G.on])) ?_;refine J.qF λ_=>?_;refine J.q λ_=>?_;refine J.cl (λg:Nat=>TlP q t g) g [1,2] ?_;refine J.q λ_=>?_;refine J.f [1] ?_;exact⟨rfl,by rw[Tl.bad,Tl.set,hh];simp;rfl⟩
 | true=>
  rw[Tl.adr,hh,d8 rfl];refine J.qp (b6K q t g d) [1,2] λ_=>?_;refine J.qd (λ_ h2=>?_) λ_ h2=>?_
  ·simp only[Bool.not_false,o0]at h2;refine J.q λ_=>?_;refine J.v (iI (t.at_ k).bad) rfl rfl (λhg a w he hs=>?_) ?_
   ·exact x9 tk rfl rfl he rfl rfl rfl (hs.get (i:=2) rfl) (t.cell_at hl hh 1 (by omega))
   refine J.qp (b0x (t.at_ k).bad d) [] λ_=>?_;refine J.q λ_=>?_;have he:t.bad d k=t.set k {t.at_ k with bad:=L.with_ (t.at_ k).bad d}:=by rw[Tl.bad,h2];rfl
   refine J.s1 2 ((t.bad d k).l.flatMap sbL) ?_ ?_ ?_
   ·rw[t.len_l,hl];simp only[Tl.has,i9,c9]at hh;omega
   ·rw[he];exact t.set_at hl hh 1 (by omega) _ _ rfl
   refine J.close (f:=λg:Nat=>TlP q (t.bad d k) g) g [1,2] rfl (by simp only[he,TlP,Tl.set_d,Tl.set_b,Tl.set_p,Tl.set_dead];rfl) rfl ?_;refine J.q λ_=>?_;refine J.f [1] ?_;exact⟨rfl,rfl⟩
  ·simp only[Bool.not_false,o0]at h2;refine J.cl (λg:Nat=>TlP q t g) g [1,2] ?_;refine J.q λ_=>?_;refine J.f [1] ?_;exact⟨rfl,by rw[Tl.bad,h2];rfl⟩
theorem b4U (q:Nat) (t:Tl) (g:Nat):FP 216 [pp q] (TlP q t g) (Ps (iI t.alive) (TlP q t g)):=by
 refine FE [2] Tryz.func216 λX F hX=>?_;refine J.qF λ_=>?_;refine J.p (.of [0,4,8,12,17,24,28,32,37,22,40,44]) [11] [1,2] λ_=>?_;refine J.qp (b1U t.d) [] λ_=>?_;exact J.qx [1,2]
theorem a7m (q:Nat) (t:Tl) (hb:t.b<=1000) (hl:t.l.length=t.b) (k:Int):FP 224 [pp q,iI k] [TlA q t] (Ps (.bool (t.blank k)) [TlA q t]):=by
 refine FE [2,0] Tryz.func224 λX F hX=>?_;refine J.o (α:=Nat) 1 λg=>?_;refine J.qp (a6k q t hb g k) [1,2] λ_=>?_;cases hh:t.has k with
 | false=>
  rw[Tl.adr,hh,d7 (by simp)];refine J.q λ_=>?_;refine J.v (pp g) rfl rfl (λhg a w he hs=>absurd hg (by simp[G.on])) ?_;refine J.q λ_=>?_;refine J.v (.bool false) rfl rfl (λhg a w he hs=>absurd hg (by simp[G.on])) ?_;refine J.q λ_=>?_;refine J.cl (λg:Nat=>TlP q t g) g [1,2] ?_;refine J.qr [1] λ_=>?_;exact⟨by rw[Tl.blank,hh];rfl,rfl⟩
 | true=>
  rw[Tl.adr,hh,d8 rfl];refine J.q λ_=>?_;refine J.v (.bool (t.at_ k).used) rfl rfl (λhg a w he hs=>?_) ?_
  ·exact x9 tk rfl rfl he rfl rfl rfl (hs.get (i:=2) rfl) (t.cell_at hl hh 2 (by omega))
  refine J.q λ_=>?_;refine J.cl (λg:Nat=>TlP q t g) g [1,2] ?_;refine J.qr [1] λ_=>?_;exact⟨by rw[Tl.blank,hh];rfl,rfl⟩
theorem b3O (q:Nat) (t:Tl) (hb:t.b<=1000) (hl:t.l.length=t.b) (k:Int):FP 225 [pp q,iI k] [TlA q t] (Ps (.bool (t.held k)) [TlA q t]):=by
 refine FE [2,0] Tryz.func225 λX F hX=>?_;refine J.o (α:=Nat) 1 λg=>?_;refine J.qp (a6k q t hb g k) [1,2] λ_=>?_;cases hh:t.has k with
 | false=>
  rw[Tl.adr,hh,d7 (by simp)];refine J.q λ_=>?_;refine J.v (pp g) rfl rfl (λhg a w he hs=>absurd hg (by simp[G.on])) ?_;refine J.q λ_=>?_;refine J.v (.bool false) rfl rfl (λhg a w he hs=>absurd hg (by simp[G.on])) ?_;refine J.q λ_=>?_;refine J.cl (λg:Nat=>TlP q t g) g [1,2] ?_;refine J.qr [1] λ_=>?_;exact⟨by rw[Tl.held,hh];rfl,rfl⟩
 | true=>
  rw[Tl.adr,hh,d8 rfl];refine J.q λ_=>?_;refine J.v (.bool (t.at_ k).held) rfl rfl (λhg a w he hs=>?_) ?_
  ·exact x9 tk rfl rfl he rfl rfl rfl (hs.get (i:=2) rfl) (t.cell_at hl hh 3 (by omega))
  refine J.q λ_=>?_;refine J.cl (λg:Nat=>TlP q t g) g [1,2] ?_;refine J.qr [1] λ_=>?_;exact⟨by rw[Tl.held,hh];rfl,rfl⟩
theorem b6L (q:Nat) (t:Tl):FP 216 [pp q] [TlA q t] (Ps (iI t.alive) [TlA q t]):=by
 refine FE [2] Tryz.func216 λX F hX=>?_;refine J.o (α:=Nat) 1 λg=>?_;refine J.qF λ_=>?_;refine J.p (.of [0,4,8,12,17,24,28,32,37,22,40,44]) [11] [1,2] λ_=>?_;refine J.qp (b1U t.d) [] λ_=>?_;refine J.q λ_=>?_;refine J.cl (λg:Nat=>TlP q t g) g [1,2] ?_;exact J.qx [1]
theorem a7k (q:Nat) (t:Tl):FP 158 [pp q] [TlA q t] (Ps (.agg #[iI t.d,iI t.b,iI t.p]) [TlA q t]):=by
 refine FE [2] Tryz.func158 λX F hX=>?_;refine J.o (α:=Nat) 1 λg=>?_;refine J.qF λ_=>?_;refine J.q λ_=>?_;refine J.cl (λg:Nat=>TlP q t g) g [1,2] ?_;exact J.qx [1]
theorem a2e (q:Nat) (t:Tl) (hb:t.b<=1000) (hl:t.l.length=t.b) (k:Int):FP 152 [pp q,iI k] [TlA q t] (Ps (iI (t.mask k)) [TlA q t]):=by
 refine FE [2,0] Tryz.func152 λX F hX=>?_;refine J.o (α:=Nat) 1 λg=>?_;refine J.qp (a6k q t hb g k) [1,2] λ_=>?_;cases hh:t.has k with
 | false=>
  rw[Tl.adr,hh,d7 (by simp)];refine J.qT λ_=>?_;refine J.cl (λg:Nat=>TlP q t g) g [1,2] ?_;refine J.qr [1] λ_=>?_;exact⟨by rw[Tl.mask,hh];rfl,rfl⟩
 | true=>
  rw[Tl.adr,hh,d8 rfl];refine J.qF λ_=>?_;refine J.pq (.of [0,8,12,16,21,6,24,28]) [6,7] [1,2] λ_ _=>?_;refine J.vT (iI (t.at_ k).bad) rfl rfl (λhg a w he hC=>?_) ?_
  ·exact x9 tk rfl rfl he hg rfl rfl (hC rfl _ (r8 (i:=2) rfl)) (t.cell_at hl hh 1 (by omega))
  refine J.qp (b4U q t g) [1,2] λ_=>?_;refine J.q λ_=>?_;refine J.cl (λg:Nat=>TlP q t g) g [1,2] ?_;refine J.qr [1] λ_=>?_;exact⟨by rw[Tl.mask,hh];rfl,rfl⟩
theorem a4c (q:Nat) (t:Tl) (hb:t.b<=1000) (hl:t.l.length=t.b) (k:Int):FP 223 [pp q,iI k] [TlA q t] (Ps (.bool (t.usable k)) [TlA q t]):=by
 refine FE [2,0] Tryz.func223 λX F hX=>?_;refine J.qp (a2e q t hb hl k) [1] λ_=>?_;refine J.qp (a0Y (t.mask k)) [] λ_=>?_;exact J.qx [1]
end Go.Proofs.YtpakpgkdpofbhaaGreat
