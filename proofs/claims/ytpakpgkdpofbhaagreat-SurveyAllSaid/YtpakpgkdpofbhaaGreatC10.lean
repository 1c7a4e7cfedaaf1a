/- Helpers. No condition. -/
import Derived.Test.YtpakpgkdpofbhaaGreatC00
import Derived.Test.YtpakpgkdpofbhaaGreatC03
import Derived.Test.YtpakpgkdpofbhaaGreatC04
import Derived.Test.YtpakpgkdpofbhaaGreatC06
import Derived.Test.YtpakpgkdpofbhaaGreatC07
import Derived.Test.YtpakpgkdpofbhaaGreatC08
import Derived.Test.YtpakpgkdpofbhaaGreatC09
import Derived.Shelf.Sort.Plain
import Derived.WideKeyEntry
set_option maxRecDepth 20000
set_option linter.all false
namespace Go.Proofs.YtpakpgkdpofbhaaGreat
open Go Go.RowKit
structure FSlot where
 a:Option Nat
 cap:Nat
 l:List Fnd
def FSlot.hdr (z:FSlot):Value:=slv z.a z.l.length z.cap
def FSlot.atom (z:FSlot):Atom:=l5 191 25 z.a z.l.length z.cap (y7 z.l)
def a3Q (Z:List FSlot):List Value:=Z.map FSlot.hdr
def a5n (Z:List FSlot):List Atom:=Z.map FSlot.atom
theorem b2b {Z:List FSlot} {k:Nat} {z:FSlot} (h:Z[k]? =some z):(a3Q Z)[0+(k:Int).toNat*1]? =some z.hdr:=by
 rw[show 0+(k:Int).toNat*1=k from by omega,a3Q,j6,h];rfl
theorem a5m {Z:List FSlot} {k:Nat} {z:FSlot} (h:Z[k]? =some z):(a5n Z)[k]? =some z.atom:=by
 rw[a5n,j6,h];rfl
theorem a6b {Z:List FSlot} {k:Nat} {z:FSlot} (h:Z[k]? =some z):(a5n Z).set k z.atom=a5n Z:=by
 apply v6;intro i;rw[r9];split
 ·rename_i e;subst e;split
  ·exact(a5m h).symm
  ·rename_i e2;rw[l4 (by omega)]
 ·rfl
theorem b8W (Z:List FSlot) (k:Nat) (z:FSlot):(a5n Z).set k z.atom=a5n (Z.set k z):=by rw[a5n,a5n,D7]
theorem b8B (Z:List FSlot) (k:Nat) (z:FSlot):(a3Q Z).set k z.hdr=a3Q (Z.set k z):=by rw[a3Q,a3Q,D7]
def V.standOf (l:List Fnd):Fnd×Bool:=match V.tops l with
 | []=>(Fnd.zero,false)
 | f::_=>(f,true)
def ScP (sp p g:Nat) (Z:List FSlot):List Atom:=[.pt sp 187 [pp p, .slice (some ⟨g,0,none⟩) Z.length Z.length], .pt g 188 (a3Q Z), .hp (HP.of (a5n Z))]
theorem b6F (sp p g:Nat) (Z:List FSlot) (k:Nat) (z:FSlot) (hz:Z[k]? =some z) (hn:Z.length<=100000) (hl:z.l.length<=100000):FP 130 [pp sp,iI k] (ScP sp p g Z)
  (Ps (.tuple #[fdV (V.standOf z.l).1, .bool (V.standOf z.l).2]) (ScP sp p g Z)):=by
 have hk:k<Z.length:=(List.getElem?_eq_some_iff.1 hz).1;refine FE [2,0] Tryz.func130 λX F hX=>?_;refine J.q λ_=>?_;refine J.v z.hdr rfl rfl (λhg a w he hs=>?_) ?_
 ·exact x9 tk rfl rfl he rfl rfl rfl (hs.get (i:=2) rfl) (b2b hz)
 refine J.openAt 3 k rfl rfl (a5m hz) rfl ?_;refine J.qc (b6E z.a z.l.length z.cap z.l rfl hl) [5] λ_=>?_;rintro v As ⟨a',c',rfl,rfl⟩;refine⟨_,rfl,trivial,?_⟩;have hv:V.standOf z.l=match V.tops z.l with
  | []=>(Fnd.zero,false)
  | f::_=>(f,true):=rfl
 rcases ht:V.tops z.l with _ | ⟨f,o⟩
 ·rw[ht]at hv;refine J.qT λ_=>?_;refine J.q λ_=>?_;refine J.closeAt (A:=z.atom) 3 5 k rfl rfl rfl ?_;rw[a6b hz];refine J.qr [1,2,3] λ_=>?_;exact⟨by rw[hv];rfl,rfl⟩
 ·rw[ht]at hv;refine J.know (λh' s=>u7 (c:=(a',c')) (by simp) (s.get (i:=6) rfl)) λhg=>?_;obtain⟨ga,rfl⟩:=hg;refine J.qd (λ_ h1=>?_) λ_ h1=>?_
  ·simp only[m5,m6]at h1;omega
  refine J.q λ_=>?_;refine J.v (fdV f) rfl rfl (λhg a w he hs=>?_) ?_
  ·exact E6 tk rfl rfl he rfl rfl rfl (hs.get (i:=6) rfl) rfl rfl
  refine J.q λ_=>?_;refine J.closeAt (A:=z.atom) 3 5 k rfl rfl rfl ?_;rw[a6b hz];refine J.qr [1,2,3] λ_=>?_;exact⟨by rw[hv];rfl,rfl⟩
theorem b6G (A:Atom) (x:Fnd):FP 204 [fdV x] [A] (Ps (.bool (!x.whole)) [A]):=by
 refine FE [0] Tryz.func204 λX F hX=>?_;exact J.qx [1]
theorem b9I (sp p g:Nat) (Z:List FSlot) (k:Nat) (z:FSlot) (hz:Z[k]? =some z) (hn:Z.length<=100000) (hl:z.l.length<=100000):FP 133 [pp sp,iI k] (ScP sp p g Z)
  (λv As=>∃a c,v=slv a (V.holds z.l).length c/\As=ScP sp p g Z++[l5 3 1 a (V.holds z.l).length c (n7 (V.holds z.l))]):=by
 have hk:k<Z.length:=(List.getElem?_eq_some_iff.1 hz).1;refine FE [2,0] Tryz.func133 λX F hX=>?_;refine J.q λ_=>?_;refine J.v z.hdr rfl rfl (λhg a w he hs=>?_) ?_
 ·exact x9 tk rfl rfl he rfl rfl rfl (hs.get (i:=2) rfl) (b2b hz)
 refine J.openAt 3 k rfl rfl (a5m hz) rfl ?_;refine J.qc (b6z z.a z.l.length z.cap z.l rfl (by omega)) [4] λ_=>?_;rintro v As ⟨a1,c1,rfl,rfl⟩;refine⟨_,rfl,trivial,?_⟩;refine J.closeAt (A:=z.atom) 3 4 k rfl rfl rfl ?_;rw[a6b hz];refine J.q λ_=>?_;refine J.ca hX (by kernel_rfl) (b4M 204 [] (λx=>!x.whole) (.pt sp 187 [pp p, .slice (some ⟨g,0,none⟩) Z.length Z.length]) (by kernel_rfl) (λx=>b6G _ x) a1 z.l.length c1 z.l rfl (by omega)) [5,1] 0 rfl rfl rfl rfl rfl rfl (λ_=>rfl) ?_;rintro v As ⟨l',hl',rfl,rfl⟩;refine⟨_,rfl,trivial,?_⟩;have hl2:l'=z.l.filter λf=>f.whole:=by rw[hl'];congr 1;funext x;simp
 have hll:l'.length<=z.l.length:=by rw[hl'];exact B4 _ _
 have htl:=a7i l';have hh:V.holds z.l=(V.tops l').map (·.block):=by rw[hl2];rfl
 refine J.qc (b6E a1 l'.length c1 l' rfl (by omega)) [5] λ_=>?_;rintro v As ⟨a2,c2,rfl,rfl⟩;refine⟨_,rfl,trivial,?_⟩;refine J.turn1 [] rfl (As:=[l5 3 1 none 0 0 (n7 [])]) (λh s=>Sep.one ⟨rfl,rfl,rfl⟩) rfl ?_;refine J.q λ_=>?_;refine J.l (α:=(Nat×Option Nat×Nat)) (λw=>w.1<=(V.tops l').length) (λw=>[si 21 w.1,⟨20,iI (V.tops l').length,0, .tt⟩,sv 19 (slv a2 (V.tops l').length c2),sv 6 (slv w.2.1 w.1 w.2.2)]) [7] (λw=>[l5 3 1 w.2.1 w.1 w.2.2 (n7 (((V.tops l').take w.1).map (·.block)))]) (λw=>(V.tops l').length-w.1) ((0,none,0)) (j4 _) λw hI=>?_;obtain⟨j,a3,c3⟩:=w;dsimp only at hI ⊢;refine J.qd (λ_ h1=>?_) λ_ h1=>?_
 ·simp only[c9,g6]at h1;obtain⟨x,hx⟩:∃x,(V.tops l')[j]? =some x:=⟨_,d5 h1⟩;have htk:((V.tops l').take (j+1)).map (·.block)=((V.tops l').take j).map (·.block)++[x.block]:=by rw[s6,hx];simp
  refine J.know (λh' s=>u7 (c:=(a2,c2)) (by omega) (s.get (i:=6) rfl)) λhg=>?_;obtain⟨ga,rfl⟩:=hg;refine J.q λ_=>?_;refine J.v (fdV x) rfl rfl (λhg a w he hs=>?_) ?_
  ·exact E6 tk rfl rfl he rfl rfl rfl (hs.get (i:=6) rfl) (by rw[show 0+(j:Int).toNat*25=j*25 from by omega];exact Q4 hx) rfl
  refine J.q λ_=>?_;refine J.ap 7 9 0 ((U9 _ x.block).symm.trans (congrArg n7 htk.symm)) λa4 c4=>?_;refine J.q λ_=>?_;refine J.n ((j+1,a4,c4)) (by dsimp only;omega) (by dsimp only;omega) [0,1,2,3,4,5,6,7]
 ·simp only[c8,g6]at h1;obtain rfl:j=(V.tops l').length:=by omega
  rw[D2,<- hh];refine J.qr [1,2,3,7] λ_=>?_;have hlen:(V.tops l').length=(V.holds z.l).length:=by rw[hh,m9]
  rw[hlen];exact⟨a3,c3,rfl,rfl⟩
end Go.Proofs.YtpakpgkdpofbhaaGreat
namespace Go.Proofs.YtpakpgkdpofbhaaGreat
open Go Go.Shelf
def c0d:Ren:=⟨λn=>if n=125 then 206 else if n=128 then 272 else if n=129 then 273 else if n=189 then 134 else if n=215 then 245 else if n=216 then 269 else if n=257 then 205 else if n=294 then 263 else if n=295 then 264 else if n=296 then 265 else if n=297 then 266 else if n=298 then 267 else if n=299 then 268 else if n=300 then 270 else if n=301 then 271 else if n=328 then 301 else if n=329 then 302 else if n=330 then 303 else if n=331 then 304 else if n=332 then 305 else if n=343 then 325 else 0,λn=>if n=0 then 0 else if n=3 then 3 else if n=4 then 4 else if n=5 then 5 else if n=9 then 9 else if n=28 then 35 else if n=46 then 175 else if n=51 then 303 else if n=53 then 289 else if n=131 then 318 else if n=182 then 313 else if n=183 then 314 else if n=218 then 341 else if n=222 then 339 else if n=228 then 356 else if n=229 then 357 else 0,λn=>n⟩
theorem b8b:Lays.n189 Tryz.prog c0d where
 mixed:=by kernel_rfl
 f125:=by kernel_rfl
 f128:=by kernel_rfl
 f129:=by kernel_rfl
 f189:=by kernel_rfl
 f215:=by kernel_rfl
 f216:=by kernel_rfl
 f257:=by kernel_rfl
 f294:=by kernel_rfl
 f295:=by kernel_rfl
 f296:=by kernel_rfl
 f297:=by kernel_rfl
 f298:=by kernel_rfl
 f299:=by kernel_rfl
 f300:=by kernel_rfl
 f301:=by kernel_rfl
 f328:=by kernel_rfl
 f329:=by kernel_rfl
 f330:=by kernel_rfl
 f331:=by kernel_rfl
 f332:=by kernel_rfl
 f343:=by kernel_rfl
 t0:=by kernel_rfl
 a0:=λw=>by kernel_rfl
 z0:=λw=>by kernel_rfl
 v0:=λw=>by kernel_rfl
 t3:=by kernel_rfl
 a3:=λw=>by kernel_rfl
 z3:=λw=>by kernel_rfl
 v3:=λw=>by kernel_rfl
 t4:=by kernel_rfl
 a4:=λw=>by kernel_rfl
 z4:=λw=>by kernel_rfl
 v4:=λw=>by kernel_rfl
 t5:=by kernel_rfl
 a5:=λw=>by kernel_rfl
 z5:=λw=>by kernel_rfl
 v5:=λw=>by kernel_rfl
 t9:=by kernel_rfl
 a9:=λw=>by kernel_rfl
 z9:=λw=>by kernel_rfl
 v9:=λw=>by kernel_rfl
 t28:=by kernel_rfl
 a28:=λw=>by kernel_rfl
 z28:=λw=>by kernel_rfl
 v28:=λw=>by kernel_rfl
 t46:=by kernel_rfl
 a46:=λw=>by kernel_rfl
 z46:=λw=>by kernel_rfl
 v46:=λw=>by kernel_rfl
 t51:=by kernel_rfl
 a51:=λw=>by kernel_rfl
 z51:=λw=>by kernel_rfl
 v51:=λw=>by kernel_rfl
 t53:=by kernel_rfl
 a53:=λw=>by kernel_rfl
 z53:=λw=>by kernel_rfl
 v53:=λw=>by kernel_rfl
 t131:=by kernel_rfl
 a131:=λw=>by kernel_rfl
 z131:=λw=>by kernel_rfl
 v131:=λw=>by kernel_rfl
 t182:=by kernel_rfl
 a182:=λw=>by kernel_rfl
 z182:=λw=>by kernel_rfl
 v182:=λw=>by kernel_rfl
 t183:=by kernel_rfl
 a183:=λw=>by kernel_rfl
 z183:=λw=>by kernel_rfl
 v183:=λw=>by kernel_rfl
 t218:=by kernel_rfl
 a218:=λw=>by kernel_rfl
 z218:=λw=>by kernel_rfl
 v218:=λw=>by kernel_rfl
 t222:=by kernel_rfl
 a222:=λw=>by kernel_rfl
 z222:=λw=>by kernel_rfl
 v222:=λw=>by kernel_rfl
 t228:=by kernel_rfl
 a228:=λw=>by kernel_rfl
 z228:=λw=>by kernel_rfl
 v228:=λw=>by kernel_rfl
 t229:=by kernel_rfl
 a229:=λw=>by kernel_rfl
 z229:=λw=>by kernel_rfl
 v229:=λw=>by kernel_rfl
end Go.Proofs.YtpakpgkdpofbhaaGreat
namespace Go.Proofs.YtpakpgkdpofbhaaGreat
open Go Go.RowKit
def leI (x y:Int):Bool:=decide (x<=y)
def a0u (l:List Int):List Int:=l.mergeSort leI
theorem a2E (l:List Int):(a0u l).length=l.length:=by rw[a0u,List.length_mergeSort]
theorem b5Q {g n cap:Nat} {l:List Int} {w:World} (hl':l.length=n) (h:a0E 3 1 (some g) n cap (n7 l) (hl w)):Go.Sort.Holds (Value.int .i64) w g 0 l.toArray:=by
 obtain⟨h0,cur,h1,h2,h3,h4,h5⟩:=h;have h1':w.heap[g]? =some (.cells cur 3 (0,0)):=h1;intro j hj;have hj':j<l.length:=by simpa using hj
 have hc:cur.toList[j]? =some (.int .i64 l[j]):=by
  have:(cur.toList.take (n*1))[j]? =(n7 l)[j]?:=by rw[h5]
  rw[List.getElem?_take_of_lt (by omega)]at this;rw[this,n7,j6,d5 hj'];rfl
 have hg:l.toArray[j]! =l[j]:=by simp[hj']
 rw[hg];refine⟨?_,?_⟩
 ·simp only[World.cell?,I8,h1'];rw[C6]at hc;simp[hc]
 ·simp[World.frozen?,h1']
theorem b9D (a:Option Nat) (n cap:Nat) (l:List Int) (hl':l.length=n) (hn:n<=1000000):Fn Tryz.prog 134 [slv a n cap] [l5 3 1 a n cap (n7 l)]
  (λv As=>v= .tuple #[]/\As=[l5 3 1 a n cap (n7 (a0u l))]):=by
 cases a with
 | none=>
  intro F w s;have h0:n=0:=(s.get (i:=1) rfl).2.1;subst h0;have:l=[]:=s7 hl';subst this;have e:a0u []=X2 []:=by rw[a0u,List.mergeSort_nil];rfl
  rw[e];exact a7w none 0 cap [] rfl (by omega) F w s
 | some g=>
  intro F w s;have ho:a0E 3 1 (some g) n cap (n7 l) (hl w):=s.get (i:=1) rfl;have hH:=b5Q hl' ho;obtain⟨h0,cur,h1,h2,h3,h4,h5⟩:=ho;have h1':w.heap[g]? =some (.cells cur 3 (0,0)):=h1;have hlt:g<w.heap.size:=(Array.getElem?_eq_some_iff.1 h1').1;have hc:=Any.slices_Sort_int b8b g 0 cap l w hH hlt (by omega);subst hl';refine Calls.mono hc λe w' ⟨e1,m,os,e2⟩=>?_;subst e1;have hsz:w.heap.size<=w'.heap.size:=by rw[e2];simp[Go.Sort.grow]
  have hother:∀k,k<w.heap.size->some k≠some g->w'.heap[k]? =w.heap[k]?:=λk hk hne=>by
   rw[e2];have:g≠k:=λe=>hne (by rw[e]);show(w.heap.modify g (Go.Sort.onCells (Go.Sort.putCells (Value.int .i64) 0 (a0u l).toArray))++os)[k]? =_;rw[Array.getElem?_append_left (by rw[Array.size_modify];exact hk),X3,d7 this]
  have hthis:w'.heap[g]? =some (.cells (Go.Sort.putCells (Value.int .i64) 0 (a0u l).toArray cur) 3 (0,0)):=by
   rw[e2];show(w.heap.modify g (Go.Sort.onCells (Go.Sort.putCells (Value.int .i64) 0 (a0u l).toArray))++os)[g]? =_;rw[Array.getElem?_append_left (by rw[Array.size_modify];exact hlt),X3,d8 rfl,h1'];rfl
  have hgr:w.grownBy w' (some g):=⟨by rw[e2];rfl,by rw[e2];rfl,by rw[e2];rfl,hsz,hother⟩;refine⟨.tuple #[],_,rfl,⟨rfl,rfl⟩,?_,⟨hgr.os,hgr.tape,hgr.output,hsz⟩⟩;refine Sep.step s (i:=1) (A:=l5 3 1 (some g) l.length cap (n7 l)) rfl (x:=some g) (x':=some g) (λh g' hs e=>?_) hgr (.inl rfl) (λh hh=>?_)
  ·injection e with e;subst e;obtain⟨_,cur',q,_⟩:=hs;exact⟨_,q⟩
  ·refine⟨by rw[n7,m9,a2E,M6],_,(hh g rfl).trans hthis,h2,h3,?_,?_⟩
   ·rw[Go.Sort.putCells,Array.size_mapIdx];exact h4
   ·apply v6;intro i;rw[M6,A9];split
    ·rename_i hi;have hi2:i<(a0u l).length:=by rw[a2E];exact hi
     rw[C6,Go.Sort.putCells,Array.getElem?_mapIdx,K5 (by omega),B5,d8 ⟨j4 _,by simpa using hi2⟩,n7,j6,d5 hi2];simp[hi2]
    ·rw[l4 (by rw[n7,m9,a2E];omega)]
end Go.Proofs.YtpakpgkdpofbhaaGreat
namespace Go.Proofs.YtpakpgkdpofbhaaGreat
structure Scd where
 tb:Tb
 torn:List En
 first:Nat
 held:List Int
 next:Int
 pages:Nat
structure Sst where
 tb:Tb
 torn:List En
 held:List Int
 others:List En
namespace V
def nextOf (l:List Fnd):Int:=l.foldl (λm f=>max m (f.en.seq+1)) 1
def step (N:Nand) (L:List Fnd) (s:Sst) (k:Nat):Sst:=
 if(standOf (of L k)).2=true then
  if(standOf (of L k)).1.whole=true then {s with tb:=s.tb.put (standOf (of L k)).1.en (standOf (of L k)).1.block (standOf (of L k)).1.row (standOf (of L k)).1.slot (standOf (of L k)).1.mask}
  else if last N (standOf (of L k)).1=true then⟨s.tb.put (standOf (of L k)).1.en (standOf (of L k)).1.block (standOf (of L k)).1.row (standOf (of L k)).1.slot (standOf (of L k)).1.mask,s.torn++[(standOf (of L k)).1.en],s.held++holds (of L k),s.others⟩
  else⟨s.tb.put (standOf (of L k)).1.en (standOf (of L k)).1.block (standOf (of L k)).1.row (standOf (of L k)).1.slot (standOf (of L k)).1.mask,s.torn,s.held,s.others++[(standOf (of L k)).1.en]⟩
 else s
def goS (N:Nand) (L:List Fnd) (n:Int) (k:Nat):Sst:=(List.range k).foldl (step N L) ⟨Tb.new n,[],[],[]⟩
def size (n:Int):Nat:=(min (max n 0) 65536).toNat
def scanOf (N:Nand) (L:List Fnd) (n:Int):Scd:=⟨(goS N L n (size n)).tb,(goS N L n (size n)).torn++(goS N L n (size n)).others,(goS N L n (size n)).torn.length,I3 (a0u (goS N L n (size n)).held),nextOf L,L.length⟩
def scan (N:Nand) (n:Int):Scd:=scanOf N (all N) n
theorem goS_succ (N:Nand) (L:List Fnd) (n:Int) (k:Nat):goS N L n (k+1)=step N L (goS N L n k) k:=by unfold goS;rw[t6,z8];rfl
theorem step_tb (N:Nand) (L:List Fnd) (s:Sst) (k:Nat):(step N L s k).tb=s.tb\/(standOf (of L k)).2=true/\(step N L s k).tb=s.tb.put (standOf (of L k)).1.en (standOf (of L k)).1.block (standOf (of L k)).1.row (standOf (of L k)).1.slot (standOf (of L k)).1.mask:=by
 unfold step;split
 ·right;rename_i h;refine⟨h,?_⟩;split
  ·rfl
  ·split<;>rfl
 ·left;rfl
theorem goS_ok (N:Nand) (L:List Fnd) (n:Int):∀k,(goS N L n k).tb.Ok
 | 0=>Tb.Ok.new n
 | k+1=>by
  rw[goS_succ];rcases step_tb N L (goS N L n k) k with h | ⟨_,h⟩
  ·rw[h];exact goS_ok N L n k
  ·rw[h];exact(goS_ok N L n k).put _ _ _ _ _
theorem goS_log (N:Nand) (L:List Fnd) (n:Int):∀k,(goS N L n k).tb.logical=min (max n 0) 65536
 | 0=>rfl
 | k+1=>by
  rw[goS_succ];rcases step_tb N L (goS N L n k) k with h | ⟨_,h⟩
  ·rw[h];exact goS_log N L n k
  ·rw[h,Tb.put_logical];exact goS_log N L n k
theorem tops_mem {l:List Fnd} {f:Fnd}:f∈tops l->f∈l:=by
 have:∀k,k<=l.length->∀f∈tops (l.take k),f∈l:=by
  intro k
  induction k with
  | zero=>intro _ f hf;simp[tops]at hf
  | succ k ih=>
   intro hk f hf;rw[a5I (d5 (by omega))]at hf;have ih:=ih (by omega);have hx:l[k]∈l:=I0 _
   revert hf ih
   generalize tops (l.take k)=o;intro hf ih;cases o with
   | nil=>simp[topsStep]at hf;rw[hf];exact hx
   | cons h t=>
    simp only[topsStep]at hf;split at hf
    ·simp at hf;rw[hf];exact hx
    ·split at hf
     ·exact ih f hf
     ·rw[K9]at hf;rcases hf with hf | hf
      ·exact ih f hf
      ·simp at hf;rw[hf];exact hx
 intro h;refine this l.length (j7 _) f ?_
 rwa [D2]
theorem standOf_mem {l:List Fnd} (h:(standOf l).2=true):(standOf l).1∈l:=by
 have hm:∀f,f∈tops l->f∈l:=λf=>tops_mem
 revert h
 unfold standOf;cases ht:tops l with
 | nil=>intro h;cases h
 | cons f o=>intro _;exact hm f (by rw[ht];exact z6 ..)
theorem of_len (L:List Fnd) (k:Int):(of L k).length<=L.length:=B4 _ _
theorem holds_len (l:List Fnd):(holds l).length<=l.length:=by
 unfold holds;rw[m9];exact E7 (a7i _) (B4 _ _)
theorem of_sum (L:List Fnd):∀k,((List.range k).map λi:Nat=>(of L (i:Int)).length).sum<=L.length:=by
 intro k
 induction L with
 | nil=>
  have:∀k:Nat,((List.range k).map λi:Nat=>(of [] (i:Int)).length).sum=0:=λk=>by
   induction k with
   | zero=>rfl
   | succ k ih=>rw[t6,x7,List.sum_append,ih];rfl
  rw[this];exact j4 _
 | cons x L ih=>
  have h1:∀i:Nat,(of (x::L) (i:Int)).length=(of L (i:Int)).length+(if x.en.lpn=(i:Int)then 1 else 0):=by
   intro i;unfold of;rw[a0d];split
   ·rename_i h;simp only[m5]at h;rw[d8 h,m6]
   ·rename_i h;simp only[m5]at h;rw[d7 h];rfl
  have h2:∀k,((List.range k).map λi:Nat=>(of (x::L) (i:Int)).length).sum<=((List.range k).map λi:Nat=>(of L (i:Int)).length).sum+(if 0<=x.en.lpn/\x.en.lpn<(k:Int)then 1 else 0):=by
   intro k
   induction k with
   | zero=>simp
   | succ k ih=>
    rw[t6,x7,List.sum_append,x7,List.sum_append];simp only[x5,R5,List.sum_cons,List.sum_nil,L8];rw[h1];split at ih<;>split<;>split<;>omega
  have:=h2 k;rw[m6];split at this<;>omega
theorem goS_len (N:Nand) (L:List Fnd) (n:Int):∀k,(goS N L n k).torn.length<=k/\(goS N L n k).others.length<=k/\(goS N L n k).held.length<=((List.range k).map λi:Nat=>(of L (i:Int)).length).sum
 | 0=>by simp[goS]
 | k+1=>by
  have ih:=goS_len N L n k;have hh:=holds_len (of L k);rw[goS_succ,t6,x7,List.sum_append];simp only[x5,R5,List.sum_cons,List.sum_nil,L8];unfold step;split
  ·split
   ·dsimp only;omega
   ·split
    ·simp only[f9,m6,List.length_nil];omega
    ·simp only[f9,m6,List.length_nil];omega
  ·omega
theorem goS_held (N:Nand) (L:List Fnd) (n:Int) (k:Nat):(goS N L n k).held.length<=L.length:=E7 (goS_len N L n k).2.2 (of_sum L k)
theorem nextOf_snoc (l:List Fnd) (f:Fnd):nextOf (l++[f])=max (nextOf l) (f.en.seq+1):=by unfold nextOf;rw[z8];rfl
theorem of_snoc (l:List Fnd) (f:Fnd) (k:Int):of (l++[f]) k=if f.en.lpn=k then of l k++[f]else of l k:=by
 unfold of;rw[H2,a0d]
 by_cases h:f.en.lpn=k
 ·rw[d8 h,d8 (by simpa using h)];rfl
 ·rw[d7 h,d7 (by simpa using h)];simp
def upB (N:Nand) (b:Nat):List Fnd:=(List.range b).flatMap λb=>(List.range N.pages).flatMap λr=>R.all N (b:Nat) (r:Nat)
def upR (N:Nand) (b r:Nat):List Fnd:=upB N b++(List.range r).flatMap λr=>R.all N (b:Nat) (r:Nat)
def upI (N:Nand) (b r i:Nat):List Fnd:=upR N b r++(R.all N (b:Nat) (r:Nat)).take i
theorem upR_zero (N:Nand) (b:Nat):upR N b 0=upB N b:=by simp[upR]
theorem upI_zero (N:Nand) (b r:Nat):upI N b r 0=upR N b r:=by simp[upI]
theorem upR_succ (N:Nand) (b r:Nat):upR N b (r+1)=upI N b r (R.all N (b:Nat) (r:Nat)).length:=by
 unfold upI upR;rw[D2,t6,C5,s8];simp
theorem upB_succ (N:Nand) (b:Nat):upB N (b+1)=upR N b N.pages:=by
 unfold upR upB;rw[t6,C5];simp
theorem upB_all (N:Nand):upB N N.blocks=all N:=rfl
theorem upI_succ {N:Nand} {b r i:Nat} {x:Fnd} (h:(R.all N (b:Nat) (r:Nat))[i]? =some x):upI N b r (i+1)=upI N b r i++[x]:=by
 unfold upI;rw[s6,h,y9,s8]
theorem nextOf_bd {l:List Fnd} (h:∀f∈l,a3y f.en):1<=nextOf l/\nextOf l<=1099511627776:=by
 have:∀(l:List Fnd) (m:Int),(∀f∈l,a3y f.en)->1<=m->m<=1099511627776->1<=l.foldl (λm f=>max m (f.en.seq+1)) m/\l.foldl (λm f=>max m (f.en.seq+1)) m<=1099511627776:=by
  intro l
  induction l with
  | nil=>intro m _ h1 h2;exact⟨h1,h2⟩
  | cons x l ih=>
   intro m hl h1 h2;have:=hl x (z6 ..);unfold a3y at this;exact ih (max m (x.en.seq+1)) (λf hf=>hl f (B3 _ hf)) (by omega) (by omega)
 exact this l 1 h (by omega) (by omega)
end V
end Go.Proofs.YtpakpgkdpofbhaaGreat
namespace Go.Proofs.YtpakpgkdpofbhaaGreat
namespace Bt
theorem byte_bit:∀b0 b1 b2 b3 b4 b5 b6 b7:Bool,∀i:Fin 8,(b0.toNat*128+b1.toNat*64+b2.toNat*32+b3.toNat*16+b4.toNat*8+b5.toNat*4+b6.toNat*2+b7.toNat).testBit (7-i.1)=[b0,b1,b2,b3,b4,b5,b6,b7].getD i.1 false:=by decide+kernel
theorem byte_bit2 (b0 b1 b2 b3 b4 b5 b6 b7:Bool) (i:Nat) (hi:i<8):(b0.toNat*128+b1.toNat*64+b2.toNat*32+b3.toNat*16+b4.toNat*8+b5.toNat*4+b6.toNat*2+b7.toNat).testBit (7-i)=[b0,b1,b2,b3,b4,b5,b6,b7].getD i false:=byte_bit b0 b1 b2 b3 b4 b5 b6 b7 ⟨i,hi⟩
theorem byteAt_bit (l:List Bool) (q i:Nat) (hi:i<8):(byteAt l q).testBit (7-i)=l.getD (q+i) false:=by
 unfold byteAt;rw[byte_bit2 _ _ _ _ _ _ _ _ i hi]
 match i,hi with
 | 0,_=>rfl
 | 1,_=>rfl
 | 2,_=>rfl
 | 3,_=>rfl
 | 4,_=>rfl
 | 5,_=>rfl
 | 6,_=>rfl
 | 7,_=>rfl
theorem bitAt_pack (l:List Bool) (j:Nat) (h:j<l.length):bitAt (pack l) j=l.getD j false:=by
 have h1:(pack l).getD (j/8) 0=UInt8.ofNat (byteAt l (8*(j/8))):=by
  rw[d6,pack_get l (j/8) (by omega)];rfl
 have h2:(UInt8.ofNat (byteAt l (8*(j/8)))).toNat=byteAt l (8*(j/8)):=by
  rw[a5C,G9 (byteAt_lt l _)]
 unfold bitAt;rw[h1,h2,byteAt_bit l _ _ (a2u _ (by omega)),a4x]
theorem numAt_eq (b:List UInt8) (k w u:Nat) (h:∀i<w,bitAt b (k+i)=u.testBit (w-1-i)):∀v,v<=w->numAt b k v=u/2^(w-v) % 2^v
 | 0,_=>by simp[numAt,Nat.mod_one]
 | v+1,hv=>by
  rw[numAt,numAt_eq b k w u h v (by omega),h v (by omega),I9];have e1:w-v=(w-1-v)+1:=by omega
  have e2:w-(v+1)=w-1-v:=by omega
  rw[e1,e2,a1s,<- Nat.div_div_eq_div_mul,a1s 2 v,R4 (2^v) 2,Nat.mod_mul];generalize u/2^(w-1-v)=x;rcases Nat.mod_two_eq_zero_or_one x with hx | hx
  ·rw[hx];simp
  ·rw[hx];simp[U7]
theorem numAt_pack (A B:List Bool) (u w k:Nat) (hk:A.length=k):numAt (pack (A++(bits u w++B))) k w=u % 2^w:=by
 have:=numAt_eq (pack (A++(bits u w++B))) k w u (λi hi=>by
  have hb:(bits u w).length=w:=length_bits u w;rw[bitAt_pack _ _ (by simp[hb];omega),d6,y6 (by omega),hk,Nat.add_sub_cancel_left,t7 (by omega)];simp[bits,hi]) w (j7 _)
 rw[this,U6,Nat.pow_zero,Nat.div_one]
end Bt
namespace S
theorem meta_back (role lpn seq:Int) (h1:0<=role/\role<=255) (h2:0<=lpn/\lpn<=65535) (h3:0<=seq/\seq<=1099511627775):((meta_ role lpn seq/72057594037927936:Nat):Int)=role/\((meta_ role lpn seq/1099511627776 % 65536:Nat):Int)=lpn/\((meta_ role lpn seq % 1099511627776:Nat):Int)=seq:=by
 unfold meta_;refine⟨?_,?_,?_⟩<;>omega
end S
end Go.Proofs.YtpakpgkdpofbhaaGreat
namespace Go.Proofs.YtpakpgkdpofbhaaGreat
open Go Go.RowKit
theorem c0g (g c:Nat):FP 246 [slv (some g) 1 c] [l5 57 7 (some g) 1 c (ft 3 4 2 0 0)]
  (λv As=>∃a' c',v=slv a' 1 c'/\As=[l5 57 7 (some g) 1 c (ft 3 4 2 0 0),l5 57 7 a' 1 c' (ft 3 4 2 0 0)]):=by
 refine FE [0] Tryz.func246 λX F hX=>?_;refine J.qF λ_=>?_;refine J.qn 5 λbb=>?_;refine J.closeOwn (e:=57) (size:=7) (n:=0) (cap:=0) (xs:=[]) 2 rfl rfl rfl (j7 _) (j4 _) rfl rfl rfl ?_;refine J.q λ_=>?_;refine J.appendR hX tk (a:=some (bb 0)) (n:=0) (cap:=0) (xs:=[]) (oo:=0) (Ay:=l5 57 7 (some g) 1 c (ft 3 4 2 0 0)) 2 1 0 rfl rfl rfl rfl rfl rfl rfl rfl rfl rfl (R8 _ _ (some g) _ _ _) rfl rfl rfl rfl (by decide) (by decide) (by decide) (λ_=>rfl) λa' c'=>⟨_,rfl,trivial,?_⟩;refine J.qr [1,2] λ_=>?_;exact⟨a',c',rfl,rfl⟩
theorem c3r (p g c:Nat):FP 177 [pp p,iI 3] [.pt p 247 [slv (some g) 1 c],l5 57 7 (some g) 1 c (ft 3 4 2 0 0)]
  (λv As=>∃x a' c',v=slv a' 1 c'/\As=[.pt p 247 [x],l5 57 7 (some g) 1 c (ft 3 4 2 0 0),l5 57 7 a' 1 c' (ft 3 4 2 0 0)]):=by
 refine FE [2,0] Tryz.func177 λX F hX=>?_;refine J.know (p:=1<=c) (λh' s=>by obtain⟨_,cur,h1,h2,_⟩:=s.get (i:=2) rfl;exact h2) λhc=>?_;refine J.qF λ_=>?_;refine J.q λ_=>?_;refine J.l (α:=Nat) (λk=>k<=1) (λk=>[si 5 k,⟨0,pp p,2, .tt⟩,si 1 3]) [] (λk=>[]) (λk=>1-k) (0) (j4 _) λk hI=>?_;rcases(by omega:k=0\/k=1)with rfl | rfl
 ·refine J.q λ_=>?_;refine J.v (iI 3) rfl rfl (λhg a w he hw=>z7 tk rfl rfl he hg rfl rfl (hw.get (i:=2) rfl) rfl) ?_;refine J.qT λ_=>?_;refine J.q λ_=>?_;refine J.n (1) (by omega) (by omega) [0,1,2]
 ·refine J.q λ_=>?_;refine J.v (iI 3) rfl rfl (λhg a w he hw=>absurd hg (by decide)) ?_;refine J.qF λ_=>?_;refine J.qc (c0g g c) [2] λ_=>?_;rintro v As ⟨a',c',rfl,rfl⟩;refine⟨_,rfl,trivial,?_⟩;refine J.qn 10 λ_=>?_;refine J.v (.slice (if c=1 then some ⟨g,0,none⟩else some ⟨g,7,none⟩) 0 (c-1)) rfl rfl (λhg a w he hw=>?_) ?_
  ·have e1:=A6 he (x:= .tmp 41) (s:=sv 41 (slv (some g) 1 c)) rfl;have e2:=A6 he (x:= .tmp 42) (s:=⟨42,iI ((1:Nat):Int),0, .tt⟩) rfl;simp only[Slot.val,G.on]at e1 e2;obtain⟨d,f,zv,ok⟩:=y8 (tk.get (t:=75) rfl);obtain⟨fe,rfl,g1,g2⟩:=ok.slice rfl;simp only[execOp,B5,I7,e1,e2,slv,Instr.sliceAt,Instr.slice,Instr.sliceBounds,Instr.sliceBound,asIntOf,Sem.run_bind,Sem.run_pure,Result.andThen_ok,s4 ok.hd,E9 g1,g2]
   by_cases h:c=1
   ·subst h;simp
   ·simp[h,Addr.add_none]
  refine J.qr [1,2,3] λ_=>?_;exact⟨_,a',c',rfl,rfl⟩
theorem c3p (p g c q:Nat) (N:Nand) (hN:N.Ok) (ho:N.ops=3):FP 107 [pp p,pp q] [.pt p 247 [slv (some g) 1 c],l5 57 7 (some g) 1 c (ft 3 4 2 0 0),x6 q N]
  (Ps (iI 1) [.emp, .emp,x6 q (N.fault 4 2 0 0 0 0).2]):=by
 refine FE [2,0] Tryz.func107 λX F hX=>?_;refine J.qp (b7O q N) [3] λ_=>?_;rw[ho];refine J.qc (c3r p g c) [1,2] λ_=>?_;rintro v As ⟨x,a',c',rfl,rfl⟩;refine⟨_,rfl,trivial,?_⟩;refine J.know (λh' s=>u7 (c:=(a',c')) (by decide) (s.get (i:=4) rfl)) λhg=>?_;obtain⟨g',rfl⟩:=hg;refine J.q λ_=>?_;refine J.l (α:=Nat) (λk=>k<=1) (λk=>[si 14 k,si 13 1,sv 12 (slv (some g') 1 c'),sv 5 (slv (some g') 1 c'),sp 1 q]) [3] (λk=>[x6 q (if k=0 then N else(N.fault 4 2 0 0 0 0).2)]) (λk=>1-k) (0) (j4 _) λk hI=>?_;rcases(by omega:k=0\/k=1)with rfl | rfl
 ·refine J.qT λ_=>?_;refine J.q λ_=>?_;refine J.v (.agg (ft 3 4 2 0 0).toArray) rfl rfl (λhg a w he hw=>E6 tk rfl rfl he rfl rfl rfl (hw.get (i:=4) rfl) rfl rfl) ?_;refine J.qp (a2i q N hN 3 4 2 0 0 0 0) [3] λ_=>?_;refine J.q λ_=>?_;refine J.n (1) (by omega) (by omega) [0,1,2,3,4]
 ·refine J.qF λ_=>?_;refine J.turn1 [1,2] rfl (As:=[.emp, .emp]) (λh s=>⟨λ_=>0,λi A hA=>by
   match i,hA with
   | 0,hA=>simp at hA;subst hA;trivial
   | 1,hA=>simp at hA;subst hA;trivial
   | k+2,hA=>simp at hA⟩) rfl ?_
  exact J.qx [1,2,3]
def SpS (q:Nat) (l:List (A3×Value)):Atom:=exA λmr:Nat=>[.pt q 384 [.map (some mr)],U8 mr a3v l]
theorem b1g:Tryz.prog.underlying 382=some (.map 55 9):=by kernel_rfl
def sE:Value:= .string ⟨#[]⟩
theorem c3c (w:World):(zeroValue 9).run Tryz.prog w= .ok sE w:=by kernel_rfl
theorem c3l:FP 341 [] [] (λv As=>∃q,v=pp q/\As=[SpS q []]):=by
 refine FE [] Tryz.func341 λX F hX=>?_;refine J.q λbs=>?_;refine J.turn1 [1] rfl (As:=[U8 (bs 0) a3v ([]:List (A3×Value))]) (λh s=>?_) rfl ?_
 ·refine⟨λ_=>0,λi A hA=>?_⟩;cases i with
  | zero=>simp at hA;subst hA;exact⟨#[],0,res_some.2 ⟨rfl,s.get (i:=0) rfl⟩,rfl,by simp,by simp⟩
  | succ k=>simp at hA
 refine J.cl (λmr:Nat=>[.pt (bs 1) 384 [.map (some mr)],U8 mr a3v ([]:List (A3×Value))]) (bs 0) [2,1] ?_;refine J.qr [2] λ_=>?_;exact⟨bs 1,rfl,rfl⟩
theorem c3m (q:Nat) (l:List (A3×Value)):FP 346 [pp q] [SpS q l] (Ps (iI (l.length:Int)) [SpS q l]):=by
 refine FE [2] Tryz.func346 λX F hX=>?_;refine J.o (α:=Nat) 1 λmr=>?_;refine J.qF λ_=>?_;refine J.q λ_=>?_;refine J.v (iI (l.length:Int)) rfl rfl (λhg a w he hw=>a6q b1g rfl rfl he rfl (hw.get (i:=2) rfl)) ?_;refine J.cl (λmr:Nat=>[.pt q 384 [.map (some mr)],U8 mr a3v l]) mr [1,2] ?_;exact J.qx [1]
theorem c1u (q:Nat) (l:List (A3×Value)) (x y z:Int):FP 343 [pp q, .agg #[iI x,iI y,iI z]] [SpS q l]
  (Ps (.tuple #[(O7 l (x,y,z)).getD sE, .bool (O7 l (x,y,z)).isSome]) [SpS q l]):=by
 refine FE [2,0] Tryz.func343 λX F hX=>?_;refine J.o (α:=Nat) 1 λmr=>?_;refine J.qF λ_=>?_;refine J.pq (.of [0,4,8,13,17,21,24,28,32,36,40]) [10] [1,2,3] λ_ _=>?_;refine J.vT (.tuple #[(O7 l (x,y,z)).getD sE, .bool (O7 l (x,y,z)).isSome]) rfl rfl (λ_ a w he hC=>?_) ?_
 ·exact(H3 (key:=(x,y,z)) a0I b1g (z:=sE) c3c rfl rfl rfl rfl he rfl rfl (hC rfl _ (r8 (i:=2) rfl))).trans rfl
 refine J.cl (λmr:Nat=>[.pt q 384 [.map (some mr)],U8 mr a3v l]) mr [1,2] ?_;exact J.qx [1]
theorem c1t (q:Nat) (l:List (A3×Value)) (x y z:Int) (b:ByteArray):FP 342 [pp q, .agg #[iI x,iI y,iI z], .string b] [SpS q l]
  (Ps (.tuple #[]) [SpS q (a1n l (x,y,z) (.string b))]):=by
 refine FE [2,0,0] Tryz.func342 λX F hX=>?_;refine J.o (α:=Nat) 1 λmr=>?_;refine J.qT λ_=>?_;refine J.pq (.of [0,4,8,13,17,20,27]) [6] [1,2,3] λ_ _=>?_;refine J.mapUpdate hX a0I b1g (x,y,z) 2 rfl rfl rfl rfl rfl rfl rfl rfl rfl rfl rfl rfl (λ_=>rfl) rfl ⟨trivial,?_⟩;refine J.cl (λmr:Nat=>[.pt q 384 [.map (some mr)],U8 mr a3v (a1n l (x,y,z) (.string b))]) mr [1,2] ?_;refine J.q λ_=>?_;refine J.f [1] ?_;exact⟨rfl,rfl⟩
theorem b6p {l:List (A3×Value)} {k:A3} (h:(O7 l k).isSome=false):a4Q l k=l:=by
 refine a6x l k 0 ?_;have:=a8B l k 0;cases hf:fi l k 0 with
 | none=>rfl
 | some x=>rw[hf]at this;rw[<- this]at h;cases h
theorem b6P (q:Nat) (l:List (A3×Value)) (x y z:Int):FP 348 [pp q, .agg #[iI x,iI y,iI z]] [SpS q l]
  (Ps (.bool (O7 l (x,y,z)).isSome) [SpS q (a4Q l (x,y,z))]):=by
 refine FE [2,0] Tryz.func348 λX F hX=>?_;refine J.qp (c1u q l x y z) [1] λ_=>?_;refine J.qd (λ_ h=>?_) λ_ h=>?_
 ·refine J.o (α:=Nat) 1 λmr=>?_;refine J.pq (.of [0,4,8,13,17,22]) [] [1,2] λ_ _=>?_;refine J.delete hX a0I b1g (x,y,z) 3 rfl rfl rfl rfl rfl rfl rfl rfl rfl rfl (λ_=>rfl) rfl ⟨⟨rfl,rfl,trivial⟩,?_⟩;refine J.cl (λmr:Nat=>[.pt q 384 [.map (some mr)],U8 mr a3v (a4Q l (x,y,z))]) mr [1,3] ?_;exact J.qx [1]
 ·refine J.qr [1] λ_=>?_;exact⟨rfl,by rw[b6p h];rfl⟩
theorem b2V {l:List (A3×Value)} {is:List Nat} {j:Nat} {y:A3×Value} (hy:l[j]? =some y):D0 (a0k (l.map (·.1)) is)++[iI y.1.1,iI y.1.2.1,iI y.1.2.2]=D0 (a0k (l.map (·.1)) (is++[j])):=by
 simp[D0,a0k,hy]
theorem c1v (q:Nat) (l:List (A3×Value)) (hl:l.length<=12):FP 344 [pp q] [SpS q l]
  (λv As=>∃a cap l0 l',l0.Perm (l.map (·.1))/\l'=a3P a6L l0/\v=slv a l'.length cap/\As=[SpS q l,l5 55 3 a l'.length cap (D0 l')]):=by
 refine FE [2] Tryz.func344 λX F hX=>?_;refine J.o (α:=Nat) 1 λmr=>?_;refine J.qF λ_=>?_;refine J.q λ_=>?_;refine J.rangeMap hX 2 b1g rfl rfl rfl rfl rfl rfl rfl (λ_=>rfl) (λ_=>rfl) λr=>⟨trivial,?_⟩;refine J.turn1 [] rfl (As:=[l5 55 3 none 0 0 (D0 (a0k (l.map (·.1)) []))]) (λh s=>Sep.one ⟨rfl,rfl,rfl⟩) rfl ?_;refine J.q λ_=>?_;refine J.l (α:=(List Nat×Option Nat×Nat)) (λx=>True) (λx=>[sp 11 r,sv 3 (slv x.2.1 x.1.length x.2.2)]) [2,3] (λx=>[itA mr r a3v l x.1,l5 55 3 x.2.1 x.1.length x.2.2 (D0 (a0k (l.map (·.1)) x.1))]) (λx=>l.length-x.1.length) (([],none,0)) (trivial) λx hI=>?_;obtain⟨is,a,cap⟩:=x;dsimp only;refine J.q λ_=>?_;refine J.know (p:=is.Nodup/\∀i∈is,i<l.length) (λh s=>?_) λhk=>?_
 ·obtain⟨_,_,_,_,_,_,_,_,h1,h2,_⟩:=s.get (i:=2) rfl;exact⟨h1,h2⟩
 have hle:=a3L _ _ hk.1 hk.2;refine J.rangeNext hX 2 rfl rfl rfl rfl rfl rfl rfl (λ_=>rfl) (λ_=>rfl) (λhp=>⟨trivial,?_⟩) (λj y hj hy=>⟨trivial,?_⟩)
 ·refine J.qF λ_=>?_;refine J.qp (a7x 333 a6L (by kernel_rfl) b3S a is.length cap (a0k (l.map (·.1)) is) (by simp[a0k]) (by omega)) [3] λ_=>?_;refine J.turn1 [2] rfl (As:=[U8 mr a3v l]) (λh s=>b8p s) rfl ?_;refine J.cl (λmr:Nat=>[.pt q 384 [.map (some mr)],U8 mr a3v l]) mr [1,2] ?_;refine J.qr [1,3] λ_=>?_;have hlen:is.length=(a3P a6L (a0k (l.map (·.1)) is)).length:=by rw[(a0N _ _).length_eq];simp[a0k]
  refine⟨a,cap,a0k (l.map (·.1)) is,a3P a6L (a0k (l.map (·.1)) is),a7H (by rw[m9];exact hp),rfl,?_,?_⟩
  ·rw[<- hlen]
  ·rw[<- hlen];rfl
 ·have hjl:j<l.length:=(List.getElem?_eq_some_iff.1 hy).1;refine J.qT λ_=>?_;refine J.q λ_=>?_;have hlt:(is++[j]).length<=l.length:=a3L _ _ (by
   rw[V3];exact⟨hk.1,by simp,λa ha b hb=>by simp at hb;subst hb;rintro rfl;exact hj ha⟩) (λi hi=>by
   rw[K9]at hi;rcases hi with hi | hi
   ·exact hk.2 i hi
   ·simp at hi;subst hi;exact hjl)
  rw[f9,I4]at hlt;refine J.rangeEntry hX 2 rfl rfl rfl rfl rfl rfl rfl hy rfl ⟨trivial,?_⟩;refine J.q λ_=>?_;refine J.append hX tk 3 5 0 rfl rfl rfl rfl rfl rfl rfl rfl rfl rfl rfl rfl rfl rfl rfl rfl ?_ ?_ (λ_=>rfl) λa' cap'=>⟨_,(congrArg (λz=>Q2 _ 3 (l5 _ _ _ _ _ z)) (b2V hy)).trans rfl,trivial,?_⟩
  ·simp only[maxLen];omega
  ·omega
  refine J.q λ_=>?_;rw[show is.length+1=(is++[j]).length from by simp];refine J.q λ_=>?_;refine J.n ((is++[j],a',cap')) (trivial) (by dsimp only;rw[f9,I4];omega) [0,1,2,3]
theorem b6Q (b4 b5:Nat) (die blk:Int) (x:A3):FP 360 (a1o x::[pp b4,pp b5]) [.pt b4 3 [iI die], .pt b5 3 [iI blk]]
  (Ps (.bool ((x.1 !=die)||(x.2.1 !=blk))) [.pt b4 3 [iI die], .pt b5 3 [iI blk]]):=by
 refine FE [0,2,3] Tryz.func360 λX F hX=>?_;exact J.qx [1,2]
theorem b9S (q:Nat) (l:List (A3×Value)) (hl:l.length<=12) (die blk:Int):FP 347 [pp q,iI die,iI blk] [SpS q l]
  (λv As=>∃a cap l',l'.Perm ((l.map (·.1)).filter λx=>!((x.1 !=die)||(x.2.1 !=blk)))/\v=slv a l'.length cap/\As=[SpS q l,l5 55 3 a l'.length cap (D0 l')]):=by
 refine FE [2,0,0] Tryz.func347 λX F hX=>?_;refine J.q λbb=>?_;refine J.cb (c1v q l hl) [1] ?_;rintro v As ⟨a,cap,l0,l',hp0,hl',rfl,rfl⟩;refine⟨_,rfl,trivial,?_⟩;have hp:l'.Perm (l.map (·.1)):=by rw[hl'];exact(a0N _ _).trans hp0
 refine J.q λ_=>?_;refine J.turn1 [2,3] rfl (As:=[.hp (HP.of [.pt (bb 0) 3 [iI die], .pt (bb 1) 3 [iI blk]])]) (λh s=>Sep.hpOf.2 s) rfl ?_;refine J.q λ_=>?_;refine J.ca hX (by kernel_rfl) (b0Y 360 [pp (bb 0),pp (bb 1)] (λx=>(x.1 !=die)||(x.2.1 !=blk)) _ (by kernel_rfl) (λx=>Fn.pack (b6Q (bb 0) (bb 1) die blk x)) a l'.length cap l' rfl (by rw[hp.length_eq,m9];omega)) [4,2] 0 rfl rfl rfl rfl rfl rfl (λ_=>rfl) ?_;rintro v As ⟨l2,rfl,rfl,rfl⟩;refine⟨_,rfl,trivial,?_⟩;refine J.qr [1,4] λ_=>?_;exact⟨a,cap,_,hp.filter _,rfl,rfl⟩
section
variable {KK : Type} [DecidableEq KK]
def a4K (l:List (KK×Value)) (k:KK) (z:Value):List (KK×Value):=match fi l k 0 with
 | none=>l++[(k,z)]
 | some _=>l
def c1c (r:Nat) (kv:KK->Value) (l:List (KK×Value)) (key:KK) (st:Int) (h:Hl):Prop:=
 ∃es clock,h r=some (.map es clock)/\es.toList.map (λe=>(e.key,e.val))=l.map (λx=>(kv x.1,x.2))/\(es.toList.map (·.born)).Nodup/\(∀e∈es.toList,e.born<clock)/\
  ∃(j:Nat) (e0:MapEntry) (u:Value),es.toList[j]? =some e0/\e0.key=kv key/\(e0.born:Int)=st/\fi l key 0=some (j,u)
def c2J (r:Nat) (kv:KK->Value) (l:List (KK×Value)) (key:KK) (st:Int):Atom:= .hp ⟨c1c r kv l key st,λ_ _ l ⟨es,c,h1,h2⟩=>⟨es,c,l _ _ h1,h2⟩⟩
theorem b8T (k:KK):∀(l:List (KK×Value)) i j u,fi l k i=some (j,u)->(l[j-i]?).map (·.1)=some k/\i<=j
 | [],i,j,u,h=>by cases h
 | x::l,i,j,u,h=>by
  unfold fi at h;split at h
  ·rename_i hh;injection h with h;injection h with e1 _;subst e1;simp[hh]
  ·have hl2:=a8j _ _ _ _ _ h;have:=b8T k l _ _ _ h;refine⟨?_,by omega⟩;rw[show j-i=(j-(i+1))+1 from by omega,R1];exact this.1
theorem b8U (k:KK) (z:Value):∀(l:List (KK×Value)) i,fi l k i=none->fi (l++[(k,z)]) k i=some (i+l.length,z)
 | [],i,_=>by simp[fi]
 | x::l,i,h=>by
  unfold fi at h;split at h
  ·cases h
  ·rename_i hh;rw[U1,fi,d7 hh,b8U k z l _ h,m6];congr 2;omega
variable {P : Program} {kv : KK → Value}
theorem a7A {MT T E:TypeId} (hk:KeyOk P T kv) (hm:P.underlying MT=some (.map T E)) {z:Value} (hz:∀w,(zeroValue E).run P w= .ok z w) {w:World} {r:Nat} {l:List (KK×Value)} (h:b3g r kv l (hl w)) (k:KK):
  ∃w' st,(Instr.mapEntry MT (.map (some r)) (kv k)).run P w= .ok (.tuple #[(O7 l k).getD z,goInt st]) w'/\c1c r kv (a4K l k z) k st (hl w')/\w.grownBy w' (some r):=by
 obtain⟨es,clock,h1,h2,h3,h4⟩:=h;have hf:=a1u hk k w es.toList l h2;have hr:r<w.heap.size:=(Array.getElem?_eq_some_iff.1 h1).1;have hlen:es.toList.length=l.length:=by have:=congrArg List.length h2;simpa using this
 have ha:=a8B l k 0;unfold Instr.mapEntry;simp only[Sem.run_bind,run_underlying hm,Result.andThen_ok,rgo h1,hk.check,hf];cases hfi:fi l k 0 with
 | none=>
  rw[hfi]at ha;have he:a4K l k z=l++[(k,z)]:=by rw[a4K,hfi]
  refine⟨World.putObj' w r (.map (es.push {key:=kv k,val:=z,born:=clock}) (clock+1)),clock,?_,⟨es.push {key:=kv k,val:=z,born:=clock},clock+1,?_,?_,?_,?_,es.size,{key:=kv k,val:=z,born:=clock},z,?_,rfl,rfl,?_⟩,W4 _ _ _⟩
  ·simp only[Sem.run_bind,hz,Result.andThen_ok,rso _ h1,Sem.run_pure,<- ha,I7,Option.getD_none];rfl
  ·simp[hl,World.putObj',hr]
  ·rw[he];simp[h2]
  ·simp only[Array.toList_push,x7,x5,R5];rw[V3];refine⟨h3,by simp,?_⟩;intro a ha b hb;simp at hb;obtain⟨e,he,rfl⟩:=List.mem_map.1 ha;have:=h4 e he;omega
  ·intro e he;simp at he;rcases he with he | rfl
   ·have:=h4 e (by simpa using he);omega
   ·simp
  ·simp
  ·rw[he,b8U k z l 0 hfi,<- hlen];simp
 | some x=>
  obtain⟨j,u⟩:=x;rw[hfi]at ha;have he:a4K l k z=l:=by rw[a4K,hfi]
  have hl2:=a8j _ _ _ _ _ hfi;obtain⟨e0,he0⟩:∃e0,es.toList[j]? =some e0:=⟨_,d5 (by omega)⟩;have he1:es[j]? =some e0:=by simpa using he0
  have hkey:e0.key=kv k:=by
   have h5:=(b8T k l 0 j u hfi).1;rw[a2Q]at h5;have hx:(es.toList.map (λe=>(e.key,e.val)))[j]? =(l.map (λx=>(kv x.1,x.2)))[j]?:=by rw[h2]
   rw[j6,j6,he0]at hx;cases hlj:l[j]? with
   | none=>rw[hlj]at hx;simp at hx
   | some y=>
    rw[hlj]at hx h5;simp only[B5,l8,B2]at hx h5;rw[hx.1,h5]
  have hmod:es.modify j (λe=>{e with key:=kv k})=es:=by
   apply Array.toList_inj.1;rw[P5];apply v6;intro i;rw[a1i]
   by_cases hij:j=i
   ·subst hij;rw[he0];simp only[Option.map_eq_map,B5,a1p,<- hkey]
   ·simp[hij]
  refine⟨World.putObj' w r (.map (es.modify j λe=>{e with key:=kv k}) clock),e0.born,?_,⟨es,clock,?_,?_,h3,h4,j,e0,u,he0,hkey,rfl,?_⟩,W4 _ _ _⟩
  ·simp only[he1,B5,j5,hkey,Instr.keyThatStays,hk.bits,a1p,Sem.run_bind,Sem.run_pure,Result.andThen_ok,rso _ h1,<- ha];rfl
  ·rw[hmod];simp[hl,World.putObj',hr]
  ·rw[he];exact h2
  ·rw[he];exact hfi
theorem a5K {MT:TypeId} {w:World} {r:Nat} {l:List (KK×Value)} {key:KK} {st:Int} (h:c1c r kv l key st (hl w)) (v:Value):
  ∃w',(Instr.entryStore MT (.map (some r)) (goInt st) v).run P w= .ok () w'/\b3g r kv (a1n l key v) (hl w')/\w.grownBy w' (some r):=by
 obtain⟨es,clock,h1,h2,h3,h4,j,e0,u,he0,hkey,hst,hfi⟩:=h;have hr:r<w.heap.size:=(Array.getElem?_eq_some_iff.1 h1).1;have hmp:=a4F es.toList l key v 0 j u h2 hfi;rw[a2Q]at hmp;have hmod:es.modify j (λe=>{e with val:=v})=es.modify j (λe=>{e with key:=kv key,val:=v}):=by
  apply Array.toList_inj.1;rw[P5,P5];apply v6;intro i;rw[a1i,a1i]
  by_cases hij:j=i
  ·subst hij;rw[he0];simp only[Option.map_eq_map,B5,a1p,<- hkey]
  ·simp[hij]
 have hidx:es.findIdx? (λe=>((e.born:Nat):Int)==st)=some j:=by
  rw[Go.WideElems.findIdx_arr,<- hst];exact Go.WideElems.findIdx_born h3 he0
 refine⟨World.putObj' w r (.map (es.modify j λe=>{e with val:=v}) clock),?_,⟨es.modify j λe=>{e with val:=v},clock,?_,?_,?_,?_⟩,W4 _ _ _⟩
 ·simp only[Instr.entryStore,Sem.run_bind,rgo h1,Result.andThen_ok,goInt,asInt,asIntOf,Sem.run_pure,hidx,rso _ h1];rfl
 ·simp[hl,World.putObj',hr]
 ·rw[hmod,P5];exact hmp.1
 ·rw[hmod,P5,hmp.2];exact h3
 ·intro e he;have:e.born∈(es.modify j λe=>{e with val:=v}).toList.map (·.born):=List.mem_map_of_mem he;rw[hmod,P5,hmp.2]at this;obtain⟨e',he',hb⟩:=List.mem_map.1 this;have:=h4 e' he';omega
end
section
variable {X : Cx} {P : Program} {K : List KI} {E : Env} {L : List Atom} {N : Nat} {F : HP} {Post : Value → List Atom → Prop} {rs : List ResultVar} {KK : Type} [DecidableEq KK] {kv : KK → Value}
theorem J.mapEntry (hX:IsCx X P rs N F Post) {KT MT ET:TypeId} (hk:KeyOk P KT kv) (hm:P.underlying MT=some (.map KT ET)) {z:Value} (hz:∀w,(zeroValue ET).run P w= .ok z w) {ops:Array Oper} {C:Cl} {lt:Bool} {i:Nat} {t:PT} {o:Oper} {g:G} {x y:Operand} {r:Nat} {l:List (KK×Value)} (key:KK) {k1 k2 t1 t2:Nat} {g1 g2:G} {kvv:Value} {E':Value->Env} (im:Nat)
  (ho:H7 ops.toList i=some o) (hg:gd ops.toList E o=some g) (hgo:g.on=true) (hop:o.op= .mapEntry MT x y) (hx:ev E x=some ⟨k1, .map (some r),t1,g1⟩) (v1:g1.on=true) (hy:ev E y=some ⟨k2,kvv,t2,g2⟩) (v2:g2.on=true) (hkv:kvv=kv key)
  (hL:H7 L im=some (U8 r kv l)) (hd:∀v,V8 N o.dst v 0 .tt E=some (E' v)) {L2:Int->List Atom} (hL2:∀st,Q2 L im (c2J r kv (a4K l key z) key st)=some (L2 st)) (hJ:∀st,Conj (J4 lt C (L2 st))/\J X (.reg ops C t::K) (E' (.tuple #[(O7 l key).getD z, .int .i64 st])) (L2 st)):J X (.reg ops C (.alt lt i t .non)::K) E L:=by
 refine J.op hX (S:=λv' L'=>∃st,v'= .tuple #[(O7 l key).getD z, .int .i64 st]/\L'=L.set im (c2J r kv (a4K l key z) key st)) 0 ho hg hgo (λa0 w hen hs=>?_) hd (λv L' ⟨st,e1,e2⟩=>by subst e1;subst e2;rw[<- R9 (hL2 st)];exact hJ st);rw[H6]at hL;have ex:=A6 hen hx;have ey:=A6 hen hy;simp only[Slot.val,v1,v2]at ex ey;rw[hkv]at ey;have hmap:b3g r kv l (hl w):=hs.get hL;obtain⟨w',st,r1,r2,r3⟩:=a7A (P:=P) hk hm hz hmap key;refine⟨_,_, .value _,w',⟨st,rfl,rfl⟩,by simp only[execOp,hop,ex,ey,Sem.run_bind,r1,Result.andThen_ok,Sem.run_pure];rfl, .inl rfl,?_,Ext.grown r3⟩;exact Sep.step hs hL (x:=some r) (x':=some r) (λh g ⟨es,c,h1,_⟩ e=>by injection e with e;subst e;exact⟨_,h1⟩) r3 (.inl rfl) (λh hh=>by
  obtain⟨es,c,h1,h2⟩:=r2;exact⟨es,c,(hh r rfl).trans h1,h2⟩)
theorem J.entryStore (hX:IsCx X P rs N F Post) {MT:TypeId} {ops:Array Oper} {C:Cl} {lt:Bool} {i:Nat} {t:PT} {o:Oper} {g:G} {x y u:Operand} {r:Nat} {l:List (KK×Value)} {key:KK} {st:Int} {k1 k2 k3 t1 t2 t3:Nat} {g1 g2 g3:G} {v:Value} {E':Value->Env} (im:Nat)
  (ho:H7 ops.toList i=some o) (hg:gd ops.toList E o=some g) (hgo:g.on=true) (hop:o.op= .entryStore MT x y u) (hx:ev E x=some ⟨k1, .map (some r),t1,g1⟩) (v1:g1.on=true) (hy:ev E y=some ⟨k2, .int .i64 st,t2,g2⟩) (v2:g2.on=true) (hu:ev E u=some ⟨k3,v,t3,g3⟩) (v3:g3.on=true)
  (hL:H7 L im=some (c2J r kv l key st)) (hd:∀v,V8 N o.dst v 0 .tt E=some (E' v)) {L2:List Atom} (hL2:Q2 L im (U8 r kv (a1n l key v))=some L2) (hJ:Conj (J4 lt C L2)/\J X (.reg ops C t::K) (E' undef) L2):J X (.reg ops C (.alt lt i t .non)::K) E L:=by
 refine J.op hX (S:=λv' L'=>v'=undef/\L'=L.set im (U8 r kv (a1n l key v))) 0 ho hg hgo (λa0 w hen hs=>?_) hd (λv L' ⟨e1,e2⟩=>by subst e1;subst e2;rw[<- R9 hL2];exact hJ);rw[H6]at hL;have ex:=A6 hen hx;have ey:=A6 hen hy;have eu:=A6 hen hu;simp only[Slot.val,v1,v2,v3]at ex ey eu;have hent:c1c r kv l key st (hl w):=hs.get hL;obtain⟨w',r1,r2,r3⟩:=a5K (P:=P) (MT:=MT) hent v;refine⟨undef,_, .skip,w',⟨rfl,rfl⟩,by simp only[execOp,hop,ex,ey,eu,Sem.run_bind];rw[show(Value.int IntKind.i64 st)=goInt st from rfl,r1];rfl, .inr ⟨rfl,rfl⟩,?_,Ext.grown r3⟩;exact Sep.step hs hL (x:=some r) (x':=some r) (λh g ⟨es,c,h1,_⟩ e=>by injection e with e;subst e;exact⟨_,h1⟩) r3 (.inl rfl) (λh hh=>by
  obtain⟨es,c,h1,h2⟩:=r2;exact⟨es,c,(hh r rfl).trans h1,h2⟩)
end
abbrev Pg:={l:List UInt8//l.length=32}
def pgk (p:Pg):Value:=pgV p.1
theorem a9x:KeyOk Tryz.prog 172 pgk where
 now:=⟨_,Tryz.underlying172,λ_ _=> .inl rfl⟩
 eq:=λa b w=>by
  have:=X9 100 172 _ a7Y 10000 (by omega) (J9 a.1) (J9 b.1) (a5Z a.1) (a5Z b.1) w;rw[c2I _ _ a.2 b.2,c0x,c0x]at this;have e:decide (a.1=b.1)=decide (a=b):=by
   by_cases h:a=b
   ·simp[h]
   ·have:¬a.1=b.1:=λe=>h (Subtype.ext e);simp[h,this]
  rw[<- e];exact this
 check:=λe a w=>by kernel_rfl
 bits:=λa=>by simp[pgk,J9,byC,bv,Instr.sameBits]
theorem a9b:Tryz.prog.underlying 385=some (.map 172 35):=by kernel_rfl
theorem a8V (w:World):(zeroValue 35).run Tryz.prog w= .ok (.slice none 0 0) w:=by kernel_rfl
def p1:Pg:=⟨[1,0,0,0,0,0,0,0,0,0,0,0,0,0,0,0,0,0,0,0,0,0,0,0,0,0,0,0,0,0,0,0],rfl⟩
def p2:Pg:=⟨[2,0,0,0,0,0,0,0,0,0,0,0,0,0,0,0,0,0,0,0,0,0,0,0,0,0,0,0,0,0,0,0],rfl⟩
def pg3:List Value:=J9 p1.1++(J9 p2.1++J9 p1.1)
def twL (k:Nat) (a b:Option Nat×Nat):List (Pg×Value):=match k with
 | 0=>[]
 | 1=>[(p1,slv a.1 1 a.2)]
 | 2=>[(p1,slv a.1 1 a.2),(p2,slv b.1 1 b.2)]
 | _=>[(p1,slv a.1 2 a.2),(p2,slv b.1 1 b.2)]
def twN (k:Nat):Nat:=match k with | 0=>0 | 1=>1 | 2=>1 | _=>2
def twM (k:Nat):Nat:=match k with | 0=>0 | 1=>0 | _=>1
def twA (k:Nat):List Value:=match k with | 0=>[] | 1=>[iI 0] | 2=>[iI 0] | _=>[iI 0,iI 2]
def twB (k:Nat):List Value:=match k with | 0=>[] | 1=>[] | _=>[iI 1]
def twO (k:Nat) (ga ca:Nat):List Value:=match k with | 0=>[] | _=>[slv (some ga) 2 ca]
theorem b9C (g:Nat):FP 345 [.slice (some ⟨g,0,none⟩) 3 3] [.pt g 172 pg3]
  (λv As=>∃o co a ca,v=slv o 1 co/\As=[l5 35 1 o 1 co [slv a 2 ca],l5 3 1 a 2 ca [iI 0,iI 2]]):=by
 refine FE [2] Tryz.func345 λX F hX=>?_;refine J.q λmm=>?_;refine J.turn1 [2] rfl (As:=[U8 (mm 0) pgk (twL 0 (none,0) (none,0)),l5 3 1 none 0 0 [],l5 3 1 none 0 0 []]) (λh s=>⟨λ_=>0,λi A hA=>by
  match i,hA with
  | 0,hA=>simp at hA;subst hA;exact⟨#[],0,res_some.2 ⟨rfl,s.get (i:=0) rfl⟩,rfl,by simp,by simp⟩
  | 1,hA=>simp at hA;subst hA;exact⟨rfl,rfl,rfl⟩
  | 2,hA=>simp at hA;subst hA;exact⟨rfl,rfl,rfl⟩
  | k+3,hA=>simp at hA⟩) rfl ?_
 refine J.q λ_=>?_;refine J.l (α:=(Nat×(Option Nat×Nat)×(Option Nat×Nat))) (λz=>z.1<=3/\(z.1=0->∀g,z.2.1.1≠some g)/\(z.1<=1->∀g,z.2.2.1≠some g)) (λz=>[si 13 z.1,si 12 3,⟨11, .slice (some ⟨g,0,none⟩) 3 3,2, .tt⟩,⟨0, .slice (some ⟨g,0,none⟩) 3 3,2, .tt⟩,⟨3, .map (some (mm 0)),3, .tt⟩]) [2,3,4] (λz=>[U8 (mm 0) pgk (twL z.1 z.2.1 z.2.2),l5 3 1 z.2.1.1 (twN z.1) z.2.1.2 (twA z.1),l5 3 1 z.2.2.1 (twM z.1) z.2.2.2 (twB z.1)]) (λz=>3-z.1) ((0,(none,0),(none,0))) (⟨by omega,by simp,by simp⟩) λz hI=>?_;obtain⟨k,⟨a,ca⟩,⟨b,cb⟩⟩:=z;dsimp only at hI ⊢;obtain⟨hI0,hI⟩:=hI;rcases(by omega:k=0\/k=1\/k=2\/k=3)with rfl | rfl | rfl | rfl
 ·
  refine J.qT λ_=>?_;obtain rfl:a=none:=by cases a with
   | none=>rfl
   | some g=>exact absurd rfl (hI.1 rfl g)
  refine J.know (p:=ca=0) (λh' s=>(s.get (i:=3) rfl).2.2) λhg=>?_;subst hg;refine J.q λ_=>?_;refine J.v (pgk p1) rfl rfl (λhg a w he hw=>C7 tk rfl rfl he rfl rfl rfl (hw.get (i:=1) rfl) rfl rfl) ?_;refine J.q λ_=>?_;refine J.mapEntry hX a9x a9b a8V p1 2 rfl rfl rfl rfl rfl rfl rfl rfl rfl rfl (λ_=>rfl) (λ_=>rfl) λst=>⟨trivial,?_⟩;refine J.q λ_=>?_;refine J.append hX tk (a:=none) (n:=0) (cap:=0) 3 6 0 rfl rfl rfl rfl rfl rfl rfl rfl rfl rfl rfl rfl rfl rfl rfl rfl (by decide) (by decide) (λ_=>rfl) λa2 c2=>⟨_,rfl,trivial,?_⟩;refine J.q λ_=>?_;refine J.entryStore hX 2 rfl rfl rfl rfl rfl rfl rfl rfl rfl rfl rfl (λ_=>rfl) rfl ⟨trivial,?_⟩;refine J.q λ_=>?_;refine J.n ((1,(a2,c2),(b,cb))) (⟨by dsimp only;omega,by simp,λ_=>hI.2 (by omega)⟩) (by dsimp only;omega) [0,1,2,3,4]
 ·
  refine J.qT λ_=>?_;obtain rfl:b=none:=by cases b with
   | none=>rfl
   | some g=>exact absurd rfl (hI.2 (by omega) g)
  refine J.know (p:=cb=0) (λh' s=>(s.get (i:=4) rfl).2.2) λhg=>?_;subst hg;refine J.q λ_=>?_;refine J.v (pgk p2) rfl rfl (λhg a w he hw=>C7 tk rfl rfl he rfl rfl rfl (hw.get (i:=1) rfl) rfl rfl) ?_;refine J.q λ_=>?_;refine J.mapEntry hX a9x a9b a8V p2 2 rfl rfl rfl rfl rfl rfl rfl rfl rfl rfl (λ_=>rfl) (λ_=>rfl) λst=>⟨trivial,?_⟩;refine J.q λ_=>?_;refine J.append hX tk (a:=none) (n:=0) (cap:=0) 4 6 0 rfl rfl rfl rfl rfl rfl rfl rfl rfl rfl rfl rfl rfl rfl rfl rfl (by decide) (by decide) (λ_=>rfl) λa2 c2=>⟨_,rfl,trivial,?_⟩;refine J.q λ_=>?_;refine J.entryStore hX 2 rfl rfl rfl rfl rfl rfl rfl rfl rfl rfl rfl (λ_=>rfl) rfl ⟨trivial,?_⟩;refine J.q λ_=>?_;refine J.n ((2,(a,ca),(a2,c2))) (⟨by dsimp only;omega,by simp,by simp⟩) (by dsimp only;omega) [0,1,2,3,4]
 ·
  refine J.qT λ_=>?_;refine J.know (λh' s=>u7 (c:=(a,ca)) (by decide) (s.get (i:=3) rfl)) λhg=>?_;obtain⟨ga,rfl⟩:=hg;refine J.q λ_=>?_;refine J.v (pgk p1) rfl rfl (λhg a w he hw=>C7 tk rfl rfl he rfl rfl rfl (hw.get (i:=1) rfl) rfl rfl) ?_;refine J.q λ_=>?_;refine J.mapEntry hX a9x a9b a8V p1 2 rfl rfl rfl rfl rfl rfl rfl rfl rfl rfl (λ_=>rfl) (λ_=>rfl) λst=>⟨trivial,?_⟩;refine J.q λ_=>?_;refine J.append hX tk (a:=(some ga)) (n:=1) (cap:=ca) 3 6 0 rfl rfl rfl rfl rfl rfl rfl rfl rfl rfl rfl rfl rfl rfl rfl rfl (by decide) (by decide) (λ_=>rfl) λa2 c2=>⟨_,rfl,trivial,?_⟩;refine J.q λ_=>?_;refine J.entryStore hX 2 rfl rfl rfl rfl rfl rfl rfl rfl rfl rfl rfl (λ_=>rfl) rfl ⟨trivial,?_⟩;refine J.q λ_=>?_;refine J.n ((3,(a2,c2),(b,cb))) (⟨by dsimp only;omega,by simp,by simp⟩) (by dsimp only;omega) [0,1,2,3,4]
 ·refine J.qF λ_=>?_;refine J.know (λh' s=>u7 (c:=(a,ca)) (by decide) (s.get (i:=3) rfl)) λhg=>?_;obtain⟨ga,rfl⟩:=hg;refine J.know (λh' s=>u7 (c:=(b,cb)) (by decide) (s.get (i:=4) rfl)) λhg=>?_;obtain⟨gb,rfl⟩:=hg;refine J.turn1 [] rfl (As:=[l5 35 1 none 0 0 []]) (λh s=>Sep.one ⟨rfl,rfl,rfl⟩) rfl ?_;refine J.q λ_=>?_;refine J.l (α:=(Nat×Option Nat×Nat)) (λz=>z.1<=3/\(z.1=0->∀g,z.2.1≠some g)) (λz=>[si 29 z.1,si 28 3,⟨27, .slice (some ⟨g,0,none⟩) 3 3,2, .tt⟩,⟨3, .map (some (mm 0)),3, .tt⟩,⟨6,slv z.2.1 (twM (z.1+1)) z.2.2,0, .tt⟩]) [5] (λz=>[l5 35 1 z.2.1 (twM (z.1+1)) z.2.2 (twO z.1 ga ca)]) (λz=>3-z.1) ((0,none,0)) (⟨by omega,by simp⟩) λz hI=>?_;obtain⟨k,o,co⟩:=z;dsimp only at hI ⊢;obtain⟨hI0,hJ⟩:=hI;rcases(by omega:k=0\/k=1\/k=2\/k=3)with rfl | rfl | rfl | rfl
  ·refine J.qT λ_=>?_;refine J.q λ_=>?_;refine J.v (pgk p1) rfl rfl (λhg a w he hw=>C7 tk rfl rfl he rfl rfl rfl (hw.get (i:=1) rfl) rfl rfl) ?_;refine J.q λ_=>?_;refine J.v (slv (some ga) 2 ca) rfl rfl (λhg a w he hw=>?_) ?_
   ·exact(H3 (key:=p1) a9x a9b (z:= .slice none 0 0) a8V rfl rfl rfl rfl he rfl rfl (hw.get (i:=2) rfl)).trans rfl
   refine J.q λ_=>?_;refine J.v (iI 0) rfl rfl (λhg a w he hw=>z7 tk rfl rfl he rfl rfl rfl (hw.get (i:=3) rfl) rfl) ?_;refine J.qT λ_=>?_;obtain rfl:o=none:=by cases o with
    | none=>rfl
    | some g=>exact absurd rfl (hJ rfl g)
   refine J.know (p:=co=0) (λh' s=>(s.get (i:=5) rfl).2.2) λhg=>?_;subst hg;refine J.q λ_=>?_;refine J.append hX tk (a:=none) (n:=0) (cap:=0) 5 7 0 rfl rfl rfl rfl rfl rfl rfl rfl rfl rfl rfl rfl rfl rfl rfl rfl (by decide) (by decide) (λ_=>rfl) λo2 c2=>⟨_,rfl,trivial,?_⟩;refine J.q λ_=>?_;refine J.n ((1,o2,c2)) (⟨by dsimp only;omega,by simp⟩) (by dsimp only;omega) [0,1,2,3,4,5]
  ·refine J.qT λ_=>?_;refine J.q λ_=>?_;refine J.v (pgk p2) rfl rfl (λhg a w he hw=>C7 tk rfl rfl he rfl rfl rfl (hw.get (i:=1) rfl) rfl rfl) ?_;refine J.q λ_=>?_;refine J.v (slv (some gb) 1 cb) rfl rfl (λhg a w he hw=>?_) ?_
   ·exact(H3 (key:=p2) a9x a9b (z:= .slice none 0 0) a8V rfl rfl rfl rfl he rfl rfl (hw.get (i:=2) rfl)).trans rfl
   refine J.q λ_=>?_;refine J.v (iI 1) rfl rfl (λhg a w he hw=>z7 tk rfl rfl he rfl rfl rfl (hw.get (i:=4) rfl) rfl) ?_;refine J.qF λ_=>?_;refine J.q λ_=>?_;refine J.n ((2,o,co)) (⟨by dsimp only;omega,by simp⟩) (by dsimp only;omega) [0,1,2,3,4,5]
  ·refine J.qT λ_=>?_;refine J.q λ_=>?_;refine J.v (pgk p1) rfl rfl (λhg a w he hw=>C7 tk rfl rfl he rfl rfl rfl (hw.get (i:=1) rfl) rfl rfl) ?_;refine J.q λ_=>?_;refine J.v (slv (some ga) 2 ca) rfl rfl (λhg a w he hw=>?_) ?_
   ·exact(H3 (key:=p1) a9x a9b (z:= .slice none 0 0) a8V rfl rfl rfl rfl he rfl rfl (hw.get (i:=2) rfl)).trans rfl
   refine J.q λ_=>?_;refine J.v (iI 0) rfl rfl (λhg a w he hw=>z7 tk rfl rfl he rfl rfl rfl (hw.get (i:=3) rfl) rfl) ?_;refine J.qF λ_=>?_;refine J.q λ_=>?_;refine J.n ((3,o,co)) (⟨by dsimp only;omega,by simp⟩) (by dsimp only;omega) [0,1,2,3,4,5]
  ·refine J.qF λ_=>?_;refine J.qr [5,3] λ_=>?_;exact⟨o,co,some ga,ca,rfl,rfl⟩
theorem c3t {α:Type} {l:List α} {a b:α} (h:l.Perm [a,b]):l=[a,b]\/l=[b,a]:=by
 match l,h.length_eq,h with
 | [x,y],_,h=>
  have hx:=(h.mem_iff (a:=x)).1 (by simp);simp only[D6,T9,a5z]at hx;rcases hx with rfl | rfl
  ·left;have:=(List.perm_cons x).1 h;rw[List.perm_singleton.1 this]
  ·right;have:=(List.perm_cons x).1 (h.trans (List.Perm.swap x a []));rw[List.perm_singleton.1 this]
theorem b9V (a:ByteArray) (w:World) (o1 o2:Operand):(do eqGuard .eql 9 o1 o2 (.string a) (.string a);binOp .eql 9 (.string a) (.string a):Sem Value).run Tryz.prog w= .ok (.bool true) w:=by
 have hu:Tryz.prog.underlying 9=some .string:=by kernel_rfl
 simp[eqGuard,binOp,Op.stringOp,a8n,Op.equalIn,s4 hu]
theorem b4W {E:Env} {n:Nat} {a:Act} {w:World} {o:Oper} {x y:Operand} {k1 k2 u1 u2 t2:Nat} {g1 g2:G} {s1:ByteArray} (hop:o.op= .binOp .eql 9 x y t2) (hx:ev E x=some ⟨k1, .string s1,u1,g1⟩) (hy:ev E y=some ⟨k2, .string s1,u2,g2⟩) (he:EnvOK n E a) (v1:g1.on=true) (v2:g2.on=true):
  (execOp a.eval o).run Tryz.prog w= .ok (.value (.bool true)) w:=by
 have ex:=A6 he hx;have ey:=A6 he hy;simp only[Slot.val,v1,v2]at ex ey;have h:=b9V s1 w x y;simp only[execOp,hop,ex,ey];simp only[Sem.run_bind]at h ⊢;rw[h];rfl
def sX:Value:= .string ⟨#[120]⟩
def sY:Value:= .string ⟨#[121]⟩
def sL:List (A3×Value):=[((1,2,3),sX),((0,9,9),sY)]
theorem b9Z {l:List A3} (h:l.Perm [((1:Int),(2:Int),(3:Int)),(0,9,9)]):a3P a6L l=[(0,9,9),(1,2,3)]:=by
 rcases c3t h with rfl | rfl<;>decide
theorem b8i:FP 335 [] [] (Ps (.bool true) []):=by
 refine FE [] Tryz.func335 λX F hX=>?_;refine J.qc (c3l) [] λ_=>?_;rintro v As ⟨q,rfl,rfl⟩;refine⟨_,rfl,trivial,?_⟩;refine J.qF λ_=>?_;refine J.qp (c1t q [] 1 2 3 ⟨#[120]⟩) [1] λ_=>?_;refine J.qp (c1t q [((1,2,3),sX)] 0 9 9 ⟨#[121]⟩) [1] λ_=>?_;refine J.qp (c1u q sL 1 2 3) [1] λ_=>?_;rw[show(O7 sL (1,2,3)).getD sE=sX from rfl,show(O7 sL (1,2,3)).isSome=true from rfl];refine J.qc (c1v q sL (by decide)) [1] λ_=>?_;rintro v As ⟨a,cap,l0,l',hp,hl',rfl,rfl⟩;refine⟨_,rfl,trivial,?_⟩;obtain rfl:l'=[(0,9,9),(1,2,3)]:=hl'.trans (b9Z hp);refine J.know (λh' s=>u7 (c:=(a,cap)) (by decide) (s.get (i:=2) rfl)) λhg=>?_;obtain⟨ga,rfl⟩:=hg;refine J.q λbp=>?_;refine J.cb (b9C (bp 0)) [3] ?_;rintro v As ⟨o,co,a2,c2,rfl,rfl⟩;refine⟨_,rfl,trivial,?_⟩;refine J.know (λh' s=>u7 (c:=(o,co)) (by decide) (s.get (i:=3) rfl)) λhg=>?_;obtain⟨go,rfl⟩:=hg;refine J.know (λh' s=>u7 (c:=(a2,c2)) (by decide) (s.get (i:=4) rfl)) λhg=>?_;obtain⟨g2,rfl⟩:=hg;refine J.q λ_=>?_;refine J.v (.bool true) rfl rfl (λhg a w he hw=>(b4W rfl rfl rfl he rfl rfl).trans rfl) ?_;refine J.qp (c3m q sL) [1] λ_=>?_;refine J.q λ_=>?_;refine J.v (iI 0) rfl rfl (λhg a w he hw=>z7 tk rfl rfl he hg rfl rfl (hw.get (i:=2) rfl) rfl) ?_;refine J.qc (b9S q sL (by decide) 1 2) [1] λ_=>?_;rintro v As ⟨a3,c3,l3,hp3,rfl,rfl⟩;refine⟨_,rfl,trivial,?_⟩;have h3:l3.length=1:=hp3.length_eq.trans rfl;rw[h3];refine J.q λ_=>?_;refine J.v (a1o (0,9,9)) rfl rfl (λhg a w he hw=>E6 tk rfl rfl he hg rfl rfl (hw.get (i:=2) rfl) rfl rfl) ?_;refine J.qp (b6P q sL 0 9 9) [1] λ_=>?_;rw[show(O7 sL (0,9,9)).isSome=true from rfl,show a4Q sL (0,9,9)=[((1,2,3),sX)]from rfl];refine J.q λ_=>?_;refine J.v (a1o (0,9,9)) rfl rfl (λhg a w he hw=>E6 tk rfl rfl he hg rfl rfl (hw.get (i:=2) rfl) rfl rfl) ?_;refine J.qp (b6P q [((1,2,3),sX)] 0 9 9) [1] λ_=>?_;rw[show(O7 [(((1:Int),(2:Int),(3:Int)),sX)] (0,9,9)).isSome=false from rfl];refine J.q λ_=>?_;refine J.v (slv (some g2) 2 c2) rfl rfl (λhg a w he hw=>z7 tk rfl rfl he hg rfl rfl (hw.get (i:=3) rfl) rfl) ?_;refine J.q λ_=>?_;refine J.v (slv (some g2) 2 c2) rfl rfl (λhg a w he hw=>z7 tk rfl rfl he hg rfl rfl (hw.get (i:=3) rfl) rfl) ?_;refine J.q λ_=>?_;refine J.v (iI 2) rfl rfl (λhg a w he hw=>z7 tk rfl rfl he hg rfl rfl (hw.get (i:=4) rfl) rfl) ?_;exact J.qx []
theorem b8j:FP 319 [] [] (Ps (.bool true) []):=by
 refine FE [] Tryz.func319 λX F hX=>?_;refine J.qp (b8i) [] λ_=>?_;exact J.qx []
def c3y:List Lk:=lvD++[.int .i64, .int .i64, .int .i64, .int .i64, .int .i64, .int .i64, .int .i64]
theorem b7X:T5 Tryz.prog 100 240=some c3y:=by kernel_rfl
theorem b8P (s:Sh):Fits c3y (shL s):=Fits.append (O5 s.data) (show Fits [.int .i64, .int .i64, .int .i64, .int .i64, .int .i64, .int .i64, .int .i64] [.int .i64 s.role, .int .i64 s.lpn, .int .i64 s.seq, .int .i64 s.kind, .int .i64 s.block, .int .i64 s.row, .int .i64 s.mask]from⟨rfl,rfl,rfl,rfl,rfl,rfl,rfl,trivial⟩)
theorem c4a (zs:List Value):mkV Tryz.prog 240 zs= .agg zs.toArray:=by simp[mkV,Tryz.underlying240]
theorem c4g:Tryz.prog.eqGuardType Tryz.prog.depth 240=false:=by kernel_rfl
theorem c4j (x y:Sh) (hx:x.data.length=16) (hy:y.data.length=16):C9 (shL x) (shL y)=decide (x=y):=by
 have h1:shL x=B1 x.data++[.int .i64 x.role, .int .i64 x.lpn, .int .i64 x.seq, .int .i64 x.kind, .int .i64 x.block, .int .i64 x.row, .int .i64 x.mask]:=rfl;have h2:shL y=B1 y.data++[.int .i64 y.role, .int .i64 y.lpn, .int .i64 y.seq, .int .i64 y.kind, .int .i64 y.block, .int .i64 y.row, .int .i64 y.mask]:=rfl;rw[h1,h2,Y0 (a:=B1 x.data) (c:=B1 y.data) rfl,eqD _ _ hx hy];obtain⟨d,r,l,s,k,b,ro,m⟩:=x;obtain⟨d',r',l',s',k',b',ro',m'⟩:=y;rw[a0D];simp[C9,a1Y,Sh.mk.injEq]
def c3B:List Lk:=[.int .i64, .int .i64, .int .i64]++lvD
theorem a7Z:T5 Tryz.prog 100 113=some c3B:=by kernel_rfl
theorem a6a (e:En):Fits c3B (enL e):=Fits.append (show Fits [.int .i64, .int .i64, .int .i64] [.int .i64 e.lpn, .int .i64 e.seq, .int .i64 e.role]from⟨rfl,rfl,rfl,trivial⟩) (O5 e.data)
theorem c2j (zs:List Value):mkV Tryz.prog 113 zs= .agg zs.toArray:=by simp[mkV,Tryz.underlying113]
theorem c2y:Tryz.prog.eqGuardType Tryz.prog.depth 113=false:=by kernel_rfl
theorem c3M (x y:En) (hx:x.data.length=16) (hy:y.data.length=16):C9 (enL x) (enL y)=true↔x=y:=by
 have h1:enL x=[.int .i64 x.lpn, .int .i64 x.seq, .int .i64 x.role]++B1 x.data:=rfl;have h2:enL y=[.int .i64 y.lpn, .int .i64 y.seq, .int .i64 y.role]++B1 y.data:=rfl;rw[h1,h2,Y0 (a:=[.int .i64 x.lpn, .int .i64 x.seq, .int .i64 x.role]) (c:=[.int .i64 y.lpn, .int .i64 y.seq, .int .i64 y.role]) rfl,eqD _ _ hx hy];obtain⟨l,s,r,d⟩:=x;obtain⟨l',s',r',d'⟩:=y;simp[C9,a1Y,En.mk.injEq,and_assoc]
section
variable {X : Cx} {P : Program} {T : Tab} {K : List KI} {E : Env} {L : List Atom} {N : Nat} {F : HP} {Post : Value → List Atom → Prop} {rs : List ResultVar}
theorem J.effG (hX:IsCx X P rs N F Post) (hT:TabOK P T) {ops:Array Oper} {C:Cl} {lt:Bool} {i:Nat} {t:PT} {o:Oper} {g:G} {v:Nat->Value} {tag:Nat} {L':Nat->List Atom} {ob:List Prop} {E':Value->Env}
  (ho:H7 ops.toList i=some o) (hg:gd ops.toList E o=some g) (hgo:g.on=true) (hef:∀x:Nat,eff T (λ_=>x) E L 0 o.op=some ⟨v x,tag,L' x,ob,1⟩) (hob:Conj ob)
  (hd:∀v,V8 N o.dst v tag .tt E=some (E' v)) (hJ:∀x,Conj (J4 lt C (L' x))/\J X (.reg ops C t::K) (E' (v x)) (L' x)):J X (.reg ops C (.alt lt i t .non)::K) E L:=by
 refine J.op hX (S:=λv' L2=>∃x,v'=v x/\L2=L' x) tag ho hg hgo (λa0 w hen hs=>?_) hd (λv' L2 ⟨x,e1,e2⟩=>by subst e1;subst e2;exact hJ x);obtain⟨nv,w',r1,r2,r3,r4⟩:=b4y (P:=P) hT hen (hef w.heap.size) hob hs (.inr rfl);exact⟨v w.heap.size,L' w.heap.size,nv,w',⟨w.heap.size,rfl,rfl⟩,r1,r2,r3,r4⟩
end
end Go.Proofs.YtpakpgkdpofbhaaGreat
namespace Go.Proofs.YtpakpgkdpofbhaaGreat
open Go Go.RowKit
def pgB (a b:UInt8):List UInt8:=[a,b,0,0,0,0,0,0,0,0,0,0,0,0,0,0,0,0,0,0,0,0,0,0,0,0,0,0,0,0,0,0]
namespace B7
def N0:Nand:=Nand.new 3 8 2
def N1:Nand:=N0.progN 1 0 0 (pgB 7 0)
def N2:Nand:=N1.progN 1 0 0 (pgB 8 0)
def N3:Nand:=(N2.fault 3 1 0 0 0 0).2
def N4:Nand:=N3.eraseN 1 0
def N5:Nand:=N4.setCut 0 1
def N6:Nand:=N5.progN 1 0 0 (pgB 5 6)
def N7:Nand:=N6.onN
def N8:Nand:=(N7.fault 4 2 0 0 0 0).2
theorem G0:N0.Gd 100 0:=Nand.Gd.new 3 8 2 rfl 100 (by decide)
theorem G1:N1.Gd 99 0:=G0.prog 1 0 0 _ rfl
theorem G2:N2.Gd 98 0:=G1.prog 1 0 0 _ rfl
theorem G3:N3.Gd 98 0:=G2.fault0 3 1 0 0 0 0 (by decide)
theorem G4:N4.Gd 97 0:=G3.erase 1 0
theorem G5:N5.Gd 97 0:=G4.cut 0 1 (by decide) (by decide)
theorem G6:N6.Gd 96 0:=G5.prog 1 0 0 _ rfl
theorem G7:N7.Gd 96 0:=G6.on
theorem G8:N8.Gd 96 0:=G7.fault0 4 2 0 0 0 0 (by decide)
end B7
open B7
theorem c0v:FP 38 [.agg #[iI 0,iI 0,iI 0]] [] (Ps (.pointer none) []):=by
 refine FE [0] Tryz.func38 λX F hX=>?_;refine J.q λg1=>?_;refine J.cb (a5o 0 0 0) [] ?_;refine cpq ⟨_,rfl,trivial,?_⟩;rw[show D8 0 0 0=false from rfl];refine J.qT λ_=>?_;exact J.qx []
theorem b8g:FP 297 [] [] (Ps (.bool true) []):=by
 refine FE [] Tryz.func297 λX F hX=>?_;refine J.qc (a7M 3 8 2 rfl) [] λ_=>?_;rintro v As ⟨q,rfl,rfl⟩;refine⟨_,rfl,trivial,?_⟩;refine J.qp (c0v) [] λ_=>?_;refine J.qF λ_=>?_;refine J.p (.of [0,5,8,16,21,24,14,31,32,36]) [7,8,9] [3] λ_=>?_;refine J.qp (a2J q N0 G0.ok G0.room 1 0 0 (pgB 7 0) rfl) [2] λ_=>?_;rw[show N0.progE 1 0 0=0 from by kernel_rfl];refine J.qp (a2J q N1 G1.ok G1.room 1 0 0 (pgB 8 0) rfl) [2] λ_=>?_;rw[show N1.progE 1 0 0=4 from by kernel_rfl];refine J.qp (a5P q N2 G2.ok 1 0 0) [2] λ_=>?_;rw[show N2.readE 1 0 0=0 from by kernel_rfl,show N2.readV 1 0 0=pgB 7 0 from by kernel_rfl];refine J.qp (a5P q N2 G2.ok 2 0 0) [2] λ_=>?_;rw[show N2.readE 2 0 0=5 from by kernel_rfl];refine J.qp (a2i q N2 G2.ok 0 3 1 0 0 0 0) [2] λ_=>?_;rw[show(N2.fault 3 1 0 0 0 0).1=true from by kernel_rfl];refine J.qp (a5P q N3 G3.ok 1 0 0) [2] λ_=>?_;rw[show N3.readE 1 0 0=6 from by kernel_rfl];refine J.qp (b4i q N3 G3.ok G3.room G3.nodup (E7 G3.few (by decide)) 1 0) [2] λ_=>?_;rw[show N3.eraseE 1 0=0 from by kernel_rfl];refine J.qp (a9o q N4 0 1) [2] λ_=>?_;refine J.qp (a2J q N5 G5.ok G5.room 1 0 0 (pgB 5 6) rfl) [2] λ_=>?_;rw[show N5.progE 1 0 0=9 from by kernel_rfl];refine J.qp (b5w q N6) [2] λ_=>?_;refine J.qp (a5P q N7 G7.ok 1 0 0) [2] λ_=>?_;rw[show N7.readE 1 0 0=0 from by kernel_rfl,show N7.readV 1 0 0=Nand.fillP 1 (pgB 5 6)from by kernel_rfl];refine J.q λbf=>?_;refine J.cb (c3q (bf (0+1))) [8] ?_;rintro v As ⟨p,a,c,rfl,rfl⟩;refine⟨_,rfl,trivial,?_⟩;refine J.know (λh' s=>u7 (c:=(a,c)) (by decide) (s.get (i:=9) rfl)) λhg=>?_;obtain⟨g,rfl⟩:=hg;refine J.qp (b8j) [] λ_=>?_;refine J.qp (b1X) [] λ_=>?_;refine J.qp (b1H q N7) [2] λ_=>?_;rw[show N7.broken=1 from by kernel_rfl];refine J.q λ_=>?_;refine J.v (.bool true) rfl rfl (λhg a w he hw=>(I5 (xs:=J9 (pgB 7 0)) (ys:=J9 (pgB 7 0)) rfl rfl rfl he hg rfl a7Y (a5Z _) (a5Z _) c0x c3F).trans (by rw[c2I _ _ rfl rfl];simp)) ?_;refine J.qp (b7O q N7) [2] λ_=>?_;rw[show N7.ops=3 from by kernel_rfl];refine J.qp (b3d q N7 G7.ok 1 0) [2] λ_=>?_;rw[show N7.wornAt 1 0=1 from by kernel_rfl];refine J.qp (b0o q N7 G7.ok 1 0) [2] λ_=>?_;rw[show N7.next 1 0=1 from by kernel_rfl];refine J.qp (c1V p (some ⟨g,0,none⟩) 1 c) [8] λ_=>?_;refine J.qp (c3p p g c q N7 G7.ok (by kernel_rfl)) [8,9,2] λ_=>?_;refine J.qp (a7N q N8 G8.ok 2) [2] λ_=>?_;rw[show N8.deadAt 2=true from by kernel_rfl];refine J.q λ_=>?_;refine J.effG hX tk rfl rfl rfl (λ_=>rfl) (by(repeat' (first | exact Conj.nil | refine Conj.cons ?_ ?_ | omega | exact hq0 | (simpa using hq0) | (exactλh=>h) | exact rfl | (intro hq;have hq0:=hq;try simp only[i9,j8,c9,i7,c8]at hq) | (simp;done) | (simp;omega) | decide))) (λ_=>rfl) λbg=>⟨trivial,?_⟩;refine J.qp (c1W bg) [10] λ_=>?_;exact J.qx []
theorem b1W:FP 255 [] [] (Ps (.bool true) []):=by
 refine FE [] Tryz.func255 λX F hX=>?_;refine J.qp (b8g) [] λ_=>?_;exact J.qx []
end Go.Proofs.YtpakpgkdpofbhaaGreat
namespace Go.Proofs.YtpakpgkdpofbhaaGreat
open Go Go.RowKit
theorem b6r (x:Int):FP 338 [.int .u8 x] [] (Ps (.bool (x !=255)) []):=by
 refine FE [0] Tryz.func338 λX F hX=>?_;exact J.qx []
theorem b9A (b:Nat) (p:List UInt8) (h:(((p.getD 0 0).toNat:Int) !=255)=true):FP 351 [.slice (some ⟨b,0,none⟩) 32 32, .func (.func 338) #[] #[]] [.pt b 172 (J9 p)] (Ps (iI 0) []):=by
 refine FE [2,0] Tryz.func351 λX F hX=>?_;refine J.q λ_=>?_;refine J.l (α:=Nat) (λk=>k=0) (λk=>[si 8 0,si 7 32,⟨0, .slice (some ⟨b,0,none⟩) 32 32,2, .tt⟩,⟨1, .func (.func 338) #[] #[],0, .tt⟩]) [] (λk=>[]) (λk=>0) (0) (rfl) λk hI=>?_;refine J.qT λ_=>?_;refine J.q λ_=>?_;refine J.v (byC p 0) rfl rfl (λhg a w he hw=>x9 tk rfl rfl he rfl rfl rfl (hw.get (i:=1) rfl) rfl) ?_;refine J.qp (b6r ((p.getD 0 0).toNat:Int)) [] λ_=>?_;rw[h];refine J.qT λ_=>?_;exact J.qx []
theorem b2C (b:Nat) (p:List UInt8) (h:(((p.getD 0 0).toNat:Int) !=255)=true):FP 337 [.slice (some ⟨b,0,none⟩) 32 32, .func (.func 338) #[] #[]] [.pt b 172 (J9 p)] (Ps (.bool true) []):=by
 refine FE [2,0] Tryz.func337 λX F hX=>?_;refine J.qp (b9A b p h) [1] λ_=>?_;exact J.qx []
theorem b9B (p:List UInt8) (h:(((p.getD 0 0).toNat:Int) !=255)=true):FP 323 [pgV p] [] (Ps (.bool false) []):=by
 refine FE [0] Tryz.func323 λX F hX=>?_;refine J.q λbb=>?_;refine J.cb (b2C (bb 0) p h) [1] ?_;refine cpq ⟨_,rfl,trivial,?_⟩;exact J.qx []
namespace B9
def e:En:=⟨3,9,1,[1,2,0,0,0,0,0,0,0,0,0,0,0,0,0,0]⟩
def pad:En:=⟨0,0,3,zeros16⟩
def a:Sh:=W.sh 2 1 7 e
def b:Sh:=W.sh 2 1 7 pad
def p:Sh:=W.par 2 1 7 [e,pad]
def pg:List UInt8:=a1v a
theorem h_a:W.own 2 1 7 e=a:=by kernel_rfl
theorem h_a2:W.ok 2 1 7 e=true:=by kernel_rfl
theorem h_b:W.own 2 1 7 pad=b:=by kernel_rfl
theorem h_b2:W.ok 2 1 7 pad=true:=by kernel_rfl
theorem h_p2:W.parB 2 1 7 [e,pad]=true:=by kernel_rfl
theorem h_pl:p.data.length=16:=by kernel_rfl
theorem h_m:S.may a=true:=by kernel_rfl
theorem h_g:S.getV pg=a:=by kernel_rfl
theorem h_g2:S.getE pg=0:=by kernel_rfl
theorem h_z2:S.getE a2V=1:=by kernel_rfl
theorem h_k:W.back p [b]=e:=by kernel_rfl
theorem h_k2:W.backB p [b]=true:=by kernel_rfl
theorem h_meta:S.meta_ 2 5 77=144120685633994829:=by kernel_rfl
theorem h_mp:S.may p=true:=by kernel_rfl
theorem h_mz:S.may Sh.zero=false:=by kernel_rfl
theorem h_bl:(((pg.getD 0 0).toNat:Int) !=255)=true:=by kernel_rfl
theorem h_pgl:pg.length=32:=a3I a rfl
end B9
open B9
theorem b8f:FP 298 [] [] (Ps (.bool true) []):=by
 refine FE [] Tryz.func298 λX F hX=>?_;refine J.qp (b1d 2 1 7 e rfl) [] λ_=>?_;rw[h_a,h_a2];refine J.qp (b1d 2 1 7 pad rfl) [] λ_=>?_;rw[h_b,h_b2];refine J.q λb1=>?_;refine J.ca hX (by kernel_rfl) (b1c 2 1 7 (.pt (b1 (0+1)) 113 (p5 [e,pad])) (some ⟨b1 (0+1),0,none⟩) 2 2 [e,pad] (a2g _ _ _ _ _ rfl) rfl (by decide)) [5] 0 rfl rfl rfl rfl rfl rfl (λ_=>rfl) ?_;refine cpq ⟨_,rfl,trivial,?_⟩;rw[show W.par 2 1 7 [e,pad]=p from rfl,h_p2];refine J.qp (b8E a rfl) [] λ_=>?_;rw[show a1v a=pg from rfl,h_m];refine J.qp (b8G pg h_pgl) [] λ_=>?_;rw[h_g,h_g2];refine J.qp (b8G a2V rfl) [] λ_=>?_;rw[h_z2];refine J.q λb2=>?_;refine J.cO 240 23 1 1 (E8 [b]) 10 ?_;refine J.qp (b6C p h_pl (some (b2 (0+1))) 1 1 [b] rfl (by decide) (by decide)) [10] λ_=>?_;rw[h_k,h_k2];refine J.qp (b8F 2 5 77) [] λ_=>?_;rw[h_meta];refine J.qp (c2w 144120685633994829 (by decide)) [] λ_=>?_;refine J.qp (b1X) [] λ_=>?_;refine J.q λ_=>?_;refine J.v (.bool true) rfl rfl (λhg x w he hw=>(I5 (xs:=shL a) (ys:=shL a) rfl rfl rfl he hg rfl b7X (b8P _) (b8P _) c4a c4g).trans (by rw[c4j _ _ rfl rfl];simp)) ?_;refine J.q λ_=>?_;refine J.v (.bool true) rfl rfl (λhg x w he hw=>(I5 (xs:=enL e) (ys:=enL e) rfl rfl rfl he hg rfl a7Z (a6a _) (a6a _) c2j c2y).trans (by rw[(c3M _ _ rfl rfl).2 rfl])) ?_;refine J.qp (a9C p h_pl) [] λ_=>?_;rw[h_mp];refine J.qp (a9C Sh.zero rfl) [] λ_=>?_;rw[h_mz];refine J.qp (b9B pg h_bl) [] λ_=>?_;refine J.qr [] λ_=>?_;exact⟨by kernel_rfl,rfl⟩
theorem b1V:FP 256 [] [] (Ps (.bool true) []):=by
 refine FE [] Tryz.func256 λX F hX=>?_;refine J.qp (b8f) [] λ_=>?_;exact J.qx []
end Go.Proofs.YtpakpgkdpofbhaaGreat
namespace Go.Proofs.YtpakpgkdpofbhaaGreat
open Go Go.RowKit
namespace B11
def N0:Nand:=Nand.new 3 8 2
def N1:Nand:=(R.write N0 1 0 7 [B9.e,B9.pad]).1
def N2:Nand:=(N1.fault 4 0 0 0 0 0).2
def fn:Fnd:=⟨B9.e,1,0,0,7,true,true⟩
theorem G0:N0.Gd 100 0:=Nand.Gd.new 3 8 2 rfl 100 (by decide)
theorem G1:N1.Gd 92 0:=a3D (by decide) G0
theorem G2:N2.Gd 92 0:=G1.fault0 4 0 0 0 0 0 (by decide)
theorem h_w:(R.write N0 1 0 7 [B9.e,B9.pad]).2=(0,0):=by kernel_rfl
theorem h_l1:(M.look N1 0 1 0).2=1:=by kernel_rfl
theorem h_l2:(M.look N1 0 1 0).1.lpn=3:=by kernel_rfl
theorem h_l3:(M.look N1 0 2 0).2=2:=by kernel_rfl
theorem h_r:R.read N2 1 0 0 7=(B9.e,0):=by kernel_rfl
theorem h_a:R.all N2 1 0=[fn]:=by kernel_rfl
theorem h_m:M.masks N2 1 0=[7]:=by kernel_rfl
end B11
open B11
theorem b5G:FP 187 [] [] (Ps (.bool true) []):=by
 refine FE [] Tryz.func187 λX F hX=>?_;refine J.q λb1=>?_;refine J.cb (a7M 3 8 2 rfl) [] ?_;rintro v As ⟨q,rfl,rfl⟩;refine⟨_,rfl,trivial,?_⟩;refine J.qF λ_=>?_;refine J.q λb1=>?_;refine J.ca hX (by kernel_rfl) (a5c q N0 (.pt (b1 (0+1)) 113 (p5 [B9.e,B9.pad])) 1 0 7 (some ⟨b1 (0+1),0,none⟩) 2 2 0 [B9.e,B9.pad] (a2g _ _ _ _ _ rfl) rfl (by decide) (G0.less (by decide) (j7 _))) [1,3] 0 rfl rfl rfl rfl rfl rfl (λ_=>rfl) ?_;refine cpq ⟨_,rfl,trivial,?_⟩;rw[h_w];refine J.qp (a5R q N1 G1.ok G1.room 0 1 0) [1] λ_=>?_;rw[h_l1];refine J.qp (a5R q N1 G1.ok G1.room 0 2 0) [1] λ_=>?_;rw[h_l3];refine J.qp (a2i q N1 G1.ok 0 4 0 0 0 0 0) [1] λ_=>?_;refine J.qp (b0l q N2 G2.ok G2.room 1 0 0 7 (by decide) (by decide)) [1] λ_=>?_;rw[h_r];refine J.qc (c1x q N2 G2.ok G2.room 1 0) [1] λ_=>?_;rintro v As ⟨a,c,rfl,rfl⟩;refine⟨_,rfl,trivial,?_⟩;rw[h_a];refine J.know (λh' s=>u7 (c:=(a,c)) (by decide) (s.get (i:=7) rfl)) λhg=>?_;obtain⟨ga,rfl⟩:=hg;refine J.qp (b1W) [] λ_=>?_;refine J.qp (b1V) [] λ_=>?_;refine J.q λ_=>?_;rw[h_l2];refine J.v (.bool true) rfl rfl (λhg x w he hw=>(I5 (xs:=enL B9.e) (ys:=enL B9.e) rfl rfl rfl he hg rfl a7Z (a6a _) (a6a _) c2j c2y).trans (by rw[(c3M _ _ rfl rfl).2 rfl])) ?_;refine J.q λ_=>?_;refine J.v (.bool true) rfl rfl (λhg x w he hw=>z7 tk rfl rfl he hg rfl rfl (hw.get (i:=7) rfl) rfl) ?_;refine J.q λ_=>?_;refine J.v (.bool true) rfl rfl (λhg x w he hw=>z7 tk rfl rfl he hg rfl rfl (hw.get (i:=7) rfl) rfl) ?_;refine J.q λ_=>?_;refine J.v (iI 7) rfl rfl (λhg x w he hw=>z7 tk rfl rfl he hg rfl rfl (hw.get (i:=7) rfl) rfl) ?_;refine J.qc (b4q q N2 G2.ok G2.room 1 0) [1] λ_=>?_;rintro v As ⟨a2,c2,rfl,rfl⟩;refine⟨_,rfl,trivial,?_⟩;rw[h_m];exact J.qx []
end Go.Proofs.YtpakpgkdpofbhaaGreat
namespace Go.Proofs.YtpakpgkdpofbhaaGreat
open Go Go.RowKit
theorem a7j (a:Int) (n:Int) (hn:0<n): -n<a.tmod n/\a.tmod n<n:=by
 refine⟨?_,Int.tmod_lt_of_pos a hn⟩;obtain⟨k,rfl | rfl⟩:=Int.eq_nat_or_neg a
 ·have:=Int.tmod_nonneg (a:=(k:Int)) n (by omega);omega
 ·rw[Int.neg_tmod];have:=Int.tmod_lt_of_pos (k:Int) hn;omega
theorem b6J (a:Int) (n:Int) (hn:0<n):0<=(a.tmod n+n).tmod n/\(a.tmod n+n).tmod n<n:=by
 have:=a7j a n hn;exact⟨Int.tmod_nonneg _ (by omega),Int.tmod_lt_of_pos _ hn⟩
theorem b3n (a b c:Int):FP 30 [iI a,iI b,iI c] [] (λv As=>∃D B P:Nat,v= .agg #[iI D,iI B,iI P]/\(3<=D/\D<=6)/\(8<=B/\B<=16)/\(2<=P/\P<=8)/\As=[]):=by
 have a1:=a7j a 4 (by decide);have a2:=b6J a 4 (by decide);have b1:=a7j b 9 (by decide);have b2:=b6J b 9 (by decide);have c1:=a7j c 7 (by decide);have c2:=b6J c 7 (by decide);refine FE [0,0,0] Tryz.func30 λX F hX=>?_;refine J.q λb1=>?_;refine J.ru hX [] ?_;obtain⟨D,hD⟩:=g7 a2.1;obtain⟨B,hB⟩:=g7 b2.1;obtain⟨P,hP⟩:=g7 c2.1;refine⟨3+D,8+B,2+P,?_,by omega,by omega,by omega,rfl⟩;rw[hD,hB,hP,a2d,a2d,a2d];rfl
theorem c1Y (D:Nat) (h:D<=6):(2:Int)^(min (D:Int).toNat IntKind.i64.bits)=((2^D:Nat):Int)/\(1:Int)<=((2^D:Nat):Int)/\((2^D:Nat):Int)<=64:=by
 have:∀D:Nat,D<7->(2:Int)^(min (D:Int).toNat IntKind.i64.bits)=((2^D:Nat):Int)/\(1:Int)<=((2^D:Nat):Int)/\((2^D:Nat):Int)<=64:=by decide
 exact this D (by omega)
theorem b2t:∀{l:List Fnd} {k:Nat} {x:Fnd},l[k]? =some x->∀j,j<25->(y7 l)[k*25+j]? =(fnL x)[j]?:=by
 intro l k x h j hj;have h1:=Q4 h;rw[<- h1,A9,d8 hj,C4]
theorem a6f {l:List Fnd} {k:Nat} {x:Fnd} (h:l[k]? =some x):((y7 l).drop (k*25)).take 19=enL x.en:=by
 have h1:=congrArg (List.take 19) (Q4 h);rw[a2R]at h1;exact h1
theorem a8s {l:List En} {k:Nat} {x:En} (h:l[k]? =some x):((p5 l).drop (k*19)).take 19=enL x:=by
 have:=W7 l [] k x h;rwa [n9]at this
namespace B13
def e1:En:={En.zero with lpn:=4,seq:=7,role:=1}
def e2:En:={En.zero with lpn:=4,seq:=6,role:=1}
def e3:En:={En.zero with lpn:=10,seq:=9,role:=1}
def T0:Tb:=⟨10,[],[],1⟩
def T1:Tb:=⟨10,[(4,⟨2,1,0,7,7,1⟩)],[(2,1)],8⟩
def t0:Tl:=Tl.new 3 8 2
def t1:Tl:=⟨3,8,2,⟨3,0,false,false⟩::List.replicate 7 Sb.zero,0⟩
def t2:Tl:=⟨3,8,2,[⟨3,0,false,false⟩,Sb.zero,⟨0,2,false,false⟩,Sb.zero,Sb.zero,Sb.zero,Sb.zero,Sb.zero],0⟩
theorem h0:Tb.new 10=T0:=by kernel_rfl
theorem h1:Tb.put T0 e1 2 1 0 7=T1:=by kernel_rfl
theorem h2:Tb.put T1 e2 0 0 0 7=T1:=by kernel_rfl
theorem h3:Tb.put T1 e3 0 0 0 7=T1:=by kernel_rfl
theorem p1:Tb.putB T0 e1=true:=by kernel_rfl
theorem p2:Tb.putB T1 e2=false:=by kernel_rfl
theorem p3:Tb.putB T1 e3=false:=by kernel_rfl
theorem w1:t0.wore 0 3=t1:=by kernel_rfl
theorem w2:t1.bad 1 2=t2:=by kernel_rfl
theorem c0 (k:Int):0<=T0.count k/\T0.count k<=1000000:=by
 have:T0.count k=0:=rfl;rw[this];omega
theorem c1 (k:Int):0<=T1.count k/\T1.count k<=1000000:=by
 have:T1.count k=(if k=2 then some (1:Int)else none).getD 0:=rfl;rw[this];split<;>simp
theorem o1:a0c (λx y=>T8 (t2.wear x) (t2.wear y)) (C8 (U4 t2 T1) (-1) t2.b)=1:=by kernel_rfl
theorem o2:a0c (λx y=>orI [T8 (T1.count x) (T1.count y),T8 (t2.wear x) (t2.wear y)]) (C8 (a2z t2 T1) (-1) t2.b)=2:=by kernel_rfl
theorem o3:(C8 (U4 t2 T1) (-1) t2.b).length=7:=by kernel_rfl
theorem o4:C8 (V5 t2 T1) (-1) t2.b=[]:=by kernel_rfl
theorem o5:C8 (a1H t2 T1) (-1) t2.b=[2]:=by kernel_rfl
theorem o6:T1.ins 2=[4]:=by kernel_rfl
theorem o7:t2.mask 2=5:=by kernel_rfl
theorem o8:t2.usable 2=true:=by kernel_rfl
theorem o9:t2.alive=7:=by kernel_rfl
theorem o10:t2.wear 0=3:=by kernel_rfl
theorem o11:t2.blank 3=true:=by kernel_rfl
theorem o12:T1.count 2=1:=by kernel_rfl
end B13
theorem b5E:FP 188 [] [] (Ps (.bool true) []):=by
 refine FE [] Tryz.func188 λX F hX=>?_;refine J.qc (b2K 10) [] λ_=>?_;rintro v As ⟨r,rfl,rfl⟩;refine⟨_,rfl,trivial,?_⟩;rw[B13.h0];refine J.qc (b2I 3 8 2 rfl) [] λ_=>?_;rintro v As ⟨q,rfl,rfl⟩;refine⟨_,rfl,trivial,?_⟩;rw[show Tl.new 3 8 2=B13.t0 from rfl];refine J.qp (b9Q) [] λ_=>?_;refine J.qF λ_=>?_;refine J.qp (a7n r B13.T0 B13.e1 2 1 0 7 (by decide) B13.c0) [1] λ_=>?_;rw[B13.h1,B13.p1];refine J.qp (a7n r B13.T1 B13.e2 0 0 0 7 (by decide) B13.c1) [1] λ_=>?_;rw[B13.h2,B13.p2];refine J.qp (a7n r B13.T1 B13.e3 0 0 0 7 (by decide) B13.c1) [1] λ_=>?_;rw[B13.h3,B13.p3];refine J.qp (a2W r B13.T1 4) [1] λ_=>?_;rw[show Tb.look B13.T1.at_ 4=some ⟨2,1,0,7,7,1⟩from rfl,j5,a2t];refine J.qp (a9Y q B13.t0 (by decide) rfl 0 3) [2] λ_=>?_;rw[B13.w1];refine J.qp (b2J q B13.t1 (by decide) rfl 1 2) [2] λ_=>?_;rw[B13.w2];refine J.qp (b1W) [] λ_=>?_;refine J.qp (b1V) [] λ_=>?_;refine J.qp (b2L r B13.T1) [1] λ_=>?_;refine J.qp (X5 r B13.T1 2) [1] λ_=>?_;rw[B13.o12];refine J.qc (b3P r B13.T1 10 rfl (by decide) 2) [1] λ_=>?_;rintro v As ⟨a1,c1,rfl,rfl⟩;refine⟨_,rfl,trivial,?_⟩;rw[B13.o6];refine J.qp (b9R r B13.T1) [1] λ_=>?_;refine J.qp (a4V q B13.t2 (by decide) rfl 0) [2] λ_=>?_;rw[B13.o10];refine J.qp (a2e q B13.t2 (by decide) rfl 2) [2] λ_=>?_;rw[B13.o7];refine J.qp (a4c q B13.t2 (by decide) rfl 2) [2] λ_=>?_;rw[B13.o8];refine J.qp (b6L q B13.t2) [2] λ_=>?_;rw[B13.o9];refine J.qp (b2X q B13.t2 (by decide) rfl r B13.T1 (-1)) [2,1] λ_=>?_;rw[B13.o1];refine J.qp (b1D q B13.t2 (by decide) rfl r B13.T1 (-1)) [2,1] λ_=>?_;rw[B13.o2];refine J.qp (b7A q B13.t2 (by decide) rfl r B13.T1 (-1)) [2,1] λ_=>?_;rw[B13.o3];refine J.qc (b4a q B13.t2 (by decide) rfl r B13.T1 (-1)) [2,1] λ_=>?_;rintro v As ⟨a2,c2,rfl,rfl⟩;refine⟨_,rfl,trivial,?_⟩;rw[B13.o4];refine J.qc (b2Y q B13.t2 (by decide) rfl r B13.T1 10 rfl (by decide)) [2,1] λ_=>?_;rintro v As ⟨a3,c3,rfl,rfl⟩;refine⟨_,rfl,trivial,?_⟩;rw[B13.o5];refine J.qp (a7m q B13.t2 (by decide) rfl 3) [2] λ_=>?_;rw[B13.o11];exact J.qx []
theorem b5F:FP 123 [] [] (Ps (.bool true) []):=by
 refine FE [] Tryz.func123 λX F hX=>?_;refine J.qp (b5E) [] λ_=>?_;exact J.qx []
section
variable {X : Cx} {P : Program} {K : List KI} {E : Env} {L : List Atom} {N : Nat} {F : HP} {Post : Value → List Atom → Prop} {rs : List ResultVar} {T : Tab}
theorem a3w (hT:TabOK P T) {o:Oper} {x y:Operand} {st e size by_ ks tgs ky tgy:Nat} {gs gy:G} {a:Option Nat} {n cap:Nat} {xs:List Value} {s1 b1:Nat} {z1:List Value} {ac:Act} {w:World} {NN:Nat}
  (hop:o.op= .call ⟨.builtin .append,#[x,y],#[st,st]⟩) (hx:ev E x=some ⟨ks,slv a n cap,tgs,gs⟩) (hvx:gs.on=true) (hy:ev E y=some ⟨ky, .slice none 0 0,tgy,gy⟩) (hvy:gy.on=true) (hen:EnvOK NN E ac)
  (hst:T.get st=some ⟨.slice e size,s1,z1,b1⟩) {td:TD} {z:List Value} (he:T.get e=some ⟨td,size,z,by_⟩) (hown:a0E e size a n cap xs (hl w)):
  (execOp ac.eval o).run P w= .ok (.value (slv a n cap)) w:=by
 obtain⟨d,f,zv,ok⟩:=y8 (hT.get hst);obtain⟨fe,rfl,g1,g2⟩:=ok.slice rfl;obtain⟨d',f',zv',ok'⟩:=y8 (hT.get he);have hf:fe=f':=by have:=g1.symm.trans ok'.hf;injection this
 subst hf;have ex:=A6 hen hx;have ey:=A6 hen hy;simp only[Slot.val,hvx,hvy]at ex ey;have hr:=run_append_owned_none (P:=P) w 0 st o.type e fe size ok.hd ok'.hf _ n xs (a5d hown);simp only[execOp,hop,resolve,Sem.run_bind,Sem.run_pure,Result.andThen_ok,invoke,builtin,a1t,x5,R5,ex,ey,hr]
theorem J.appendO (hX:IsCx X P rs N F Post) (hT:TabOK P T) {ops:Array Oper} {C:Cl} {lt:Bool} {i:Nat} {t:PT} {o:Oper} {x y:Operand} {st e size by_:Nat} {ks tgs:Nat} {gs:G} {a:Option Nat} {n cap:Nat} {xs:List Value} {ky tgy:Nat} {gy:G} {ay:Option Nat} {m cy:Nat} {cs:List Value} {s1 b1:Nat} {z1:List Value} {E':Value->Env} (is iy:Nat)
  (ho:H7 ops.toList i=some o) (hg:gd ops.toList E o=some .tt) (hop:o.op= .call ⟨.builtin .append,#[x,y],#[st,st]⟩)
  (hx:ev E x=some ⟨ks,slv a n cap,tgs,gs⟩) (hvx:gs.on=true) (hy:ev E y=some ⟨ky,slv ay m cy,tgy,gy⟩) (hvy:gy.on=true)
  (hLs:H7 L is=some (l5 e size a n cap xs)) (hLy:H7 L iy=some (l5 e size ay m cy cs)) (hst:T.get st=some ⟨.slice e size,s1,z1,b1⟩) {td:TD} {z:List Value} (he:T.get e=some ⟨td,size,z,by_⟩) (hz:Nat.beq z.length size=true)
  (hsz:Nat.blt 0 size=true) (h1:∀u∈cs,u.oneCell'=true) (h63:n+m<=maxLen) (hbytes:(n+m)*by_<=140737488355328)
  (hd:∀v,V8 N o.dst v 0 .tt E=some (E' v))
  (hJ:∀a' cap',∃L',Q2 L is (l5 e size a' (n+m) cap' (xs++cs))=some L'/\Conj (J4 lt C L')/\J X (.reg ops C t::K) (E' (slv a' (n+m) cap')) L'):J X (.reg ops C (.alt lt i t .non)::K) E L:=by
 cases ay with
 | some b=>exact J.appendR hX hT (oo:=0) is iy 0 ho hg rfl hop hx hvx hy hvy hLs hLy (R8 _ _ (some b) _ _ _) hst he hz hsz h1 h63 hbytes hd hJ
 | none=>
  rw[H6]at hLs hLy;refine J.know (p:=cs.length=m*size/\m=0/\cy=0) (λh s=>(show a0E e size none m cy cs h from s.get hLy)) λhk=>?_;obtain⟨q1,rfl,rfl⟩:=hk;have hcs:cs=[]:=s7 (by rw[q1,L7]);subst hcs;obtain⟨L',e1,e2,e3⟩:=hJ a cap;rw[L8,n9]at e1;rw[L8]at e3;have hL:L'=L:=by
   rw[R9 e1];apply v6;intro j;rw[r9];split
   ·rename_i e;subst e;split
    ·exact hLs.symm
    ·rename_i e4;rw[l4 (by omega)]
   ·rfl
  subst hL;exact J.val hX (slv a n cap) 0 ho hg (λ_ ac w hen hs=>a3w hT hop hx hvx hy hvy hen hst he (show a0E e size a n cap xs (hl w)from hs.get hLs)) (hd _) e2 e3
end
end Go.Proofs.YtpakpgkdpofbhaaGreat
